/- januslaw06.ValidDead: part 4 of 4: what the walks and the plain law need, in order. -/
import Derived.Test.YtjbpljcfogekhaaVd3
import Derived.ProofKit
import Derived.Deep.Slices
import Derived.Lib.SmallJoins
set_option linter.unusedVariables false
set_option linter.unusedSimpArgs false
namespace Go.Proofs.Ytjbpljcfogekhaa.Q
open Go.RowKit Ytjbpljcfogekhaa.Core YtjbpljcfogekhaaW.PrintWords YtjbpljcfogekhaaW.PrintLast YtjbpljcfogekhaaW.PrintMore
theorem awake06_calls (W : World) : Calls Try.prog 28 #[] W fun e w' => e = .returned (.bool true) ∧ Below W.heap.size W w' := by
 obtain ⟨k, hk⟩ := awake06.rounds
 exact januslaw06_awake.calls k true W hk
def plainx (x : S36) : Bool := decide (0 ≤ tk x) && !jmp x
theorem renc_calls (l : List S36) (hl : l.length ≤ 1000000) (ha : Args l) (A : Option Addr) (c : Nat) (W : World) (hC : Kd.C k36 W A l.length l) (hc : l.length ≤ c) :
  Calls Try.prog 17 #[.slice A l.length c] W fun e w' => e = .returned (.tuple #[.string (encRes [] (encAll l)).1, .int .i64 (encRes [] (encAll l)).2]) ∧ Below W.heap.size W w' := by
 obtain ⟨k, hk⟩ := (REncode_ev l hl ha).rounds
 exact janusref05_Encode.calls k A c l _ _ W hC hc hk
/-- the plain instructions, in blocks of their own behind a world -/
structure PP (wp : World) (pl : List S36) (v9 : Value) (wc : World) : Prop where
 rp : Kd.R k36 36 wc wp.heap.size (fun _ => True) v9 pl
 bel : Below wp.heap.size wp wc
theorem PP.below {wp : World} {pl : List S36} {v9 : Value} {wc wd : World} (p : PP wp pl v9 wc) (hb : Below wc.heap.size wc wd) : PP wp pl v9 wd := ⟨Kd.R_below p.rp hb, below_step p.bel hb⟩
theorem app_T36 {ops : Array Oper} {rest : List Oper} {o : Oper} {a : Act} {Q : Exit → Act → World → Prop} {W w0 : World} {ok0 : Nat → Prop} (hgd : o.guard = none) (s x : Operand)
  (ho : o.op = .call { callee := .builtin .append, args := #[s, x], argTypes := #[22, 22] }) (v : Value) (xs : List S36) (p : S36) (hs : a.eval s = v) {B : Nat} (hBW : W.heap.size = B) (hx : a.eval x = .slice (some ⟨B, 0, none⟩) 1 1)
  (HO : Kd.R k36 36 W w0.heap.size ok0 v xs) (HB : Below w0.heap.size w0 W) (hl : xs.length < 1000000)
  (h : ∀ v1 w1, Kd.R k36 36 w1 w0.heap.size (fun _ => True) v1 (xs ++ [p]) → Below w0.heap.size w0 w1 → wpList Try.prog ops Q rest (a.put o.dst v1) w1) :
  wpList Try.prog ops Q (o :: rest) a (W.alloc (.cells #[.int .i64 p.f0, .int .u64 p.f1, .int .i64 p.f2, .int .i64 p.f3] 36)) := by
 subst hBW
 refine Kd.R_append k36 (w0 := w0) w0.heap.size hgd s x 22 36 (.agg #[(.int .i64 0), (.int .u64 0), (.int .i64 0), (.int .i64 0)]) 32 ho Try.underlying22 info36 rfl (by decide) (by decide) v xs p [.int .i64 p.f0, .int .u64 p.f1, .int .i64 p.f2, .int .i64 p.f3] (fun _ => True) (fun _ => False) hs hx (k36_mkM _ _ _ p) (fun _ hk => hk.elim) (fun _ _ => trivial)
  (Kd.R_mono HO (fun _ _ => trivial)) HB HB.size (by omega) ?_
 intro v1 w1 h1 h2 h3 h4
 exact h v1 w1 h1 h2
def DPost (w : World) (e : Ending) (w' : World) : Prop := e = .returned (.bool true) ∧ Below w.heap.size w w'
set_option maxHeartbeats 4000000 in
set_option maxRecDepth 100000 in
theorem dead_calls (s : ByteArray) (hs : s.size ≤ 1048576) (more : List S36) (hmw : ∀ x ∈ more, 0 ≤ x.f1 ∧ x.f1 < 18446744073709551616) (A : Option Addr) (c : Nat) (w : World) (hC : Kd.C k36 w A more.length more) (hc : more.length ≤ c) :
  Calls Try.prog 10 #[.string s, .slice A more.length c] w (DPost w) := by
 have hu36 := Try.underlying36
 have aw := Aside0.mk awake06_calls
 have hs2 := Aside0.mk (show s.size ≤ 4398046511104 by omega)
 replace hs := Aside0.mk hs
 replace hmw := Aside0.mk hmw
 replace hC := Aside0.mk hC
 replace hc := Aside0.mk hc
 obtain ⟨⟨dsr, er⟩, hdr⟩ : ∃ r, depthsS s = r := ⟨_, rfl⟩
 replace hdr := Aside0.mk hdr
 go_enter Try.func10, Try.ntmps10
 go_upto_region 1 with fail
 go_cut [5, 6] from 18 (fun v5 v6 wx => v6 = .int .i64 er ∧ RS w [] (.slice none 0 0) v5 dsr wx)
 case first =>
  as_aux_lemma =>
   go_wp2_with (first
    | (go_at_call 29; (with_reducible refine (depths_calls s hs2.out _).mono ?_); rintro e w5 ⟨v, rfl, hR, hB⟩; rw [hdr.out] at hR ⊢))
   go_meet
   case rel => exact ⟨rfl, Kd.R_nil _ _ _ _ _, hR, hB⟩
 case rest =>
  as_aux_lemma =>
   obtain ⟨rfl, D⟩ := hcut
   replace D := Aside0.mk D
   go_upto_region 2 with fail
   go_cut [29] from 18 (fun v29 wx => v29 = .bool (decide (er ≠ 0 ∨ 50 < more.length)) ∧ wc = wx)
   case first =>
    as_aux_lemma =>
     by_cases h1 : er = 0
     ·have d1 : (er != 0) = false := by simpa using h1
      by_cases h2 : (50 : Int) < (more.length : Int)
      ·have d2 : decide ((50 : Int) < (more.length : Int)) = true := decide_eq_true h2
       have h3 := Aside0.mk (show decide (er ≠ 0 ∨ 50 < more.length) = true from decide_eq_true (.inr (by omega)))
       clear h1 h2
       go_wp2
       go_meet
       case rel => exact ⟨by rw [h3.out], rfl⟩
      ·have d2 : decide ((50 : Int) < (more.length : Int)) = false := decide_eq_false h2
       have h3 := Aside0.mk (show decide (er ≠ 0 ∨ 50 < more.length) = false from decide_eq_false (by omega))
       clear h1 h2
       go_wp2
       go_meet
       case rel => exact ⟨by rw [h3.out], rfl⟩
     ·have d1 : (er != 0) = true := by simpa using h1
      have h3 := Aside0.mk (show decide (er ≠ 0 ∨ 50 < more.length) = true from decide_eq_true (.inl h1))
      clear h1
      go_wp2
      go_meet
      case rel => exact ⟨by rw [h3.out], rfl⟩
   case rest =>
    as_aux_lemma =>
     obtain ⟨rfl, rfl⟩ := hcut
     by_cases hbad : er ≠ 0 ∨ 50 < more.length
     ·rw [decide_eq_true hbad]
      clear hbad
      go_wp2_with (first
       | (go_at_call 28; (with_reducible refine (aw.out _).mono ?_); rintro e w5 ⟨rfl, hB⟩))
      go_ret
      exact ⟨rfl, below_step D.out.bel hB⟩
     ·rw [decide_eq_false hbad]
      obtain ⟨l, ds, hrs⟩ : ∃ l ds, readS s = some (l, ds) := by
       have := hdr.out
       cases h : readS s with
       | none => rw [depths_none' h] at this; simp only [Prod.mk.injEq] at this; omega
       | some p => exact ⟨p.1, p.2, rfl⟩
      obtain ⟨rfl, rfl⟩ : dsr = ds ∧ er = 0 := by
       have := hdr.out
       rw [depthsS_some hrs] at this
       simp only [Prod.mk.injEq] at this
       exact ⟨this.1.symm, this.2.symm⟩
      have R := Aside0.mk (readS_some hrs)
      have h50 : more.length ≤ 50 := by omega
      replace hrs := Aside0.mk hrs
      clear hbad
      go_upto_region 4 with fail
      go_cut [7, 8] from 18 (fun v7 v8 wx => v8 = .int .i64 0 ∧ RS w l v7 u5 dsr wx)
      case first =>
       as_aux_lemma =>
        go_wp2_with (first
         | (go_at_call 19; (with_reducible refine (rdec_calls s hs2.out _).mono ?_); rintro e w5 ⟨v, rfl, hR, hB⟩; rw [R.out.dec] at hR ⊢))
        go_meet
        case rel => exact ⟨rfl, Kd.R_lower (show Kd.R k36 36 _ _ _ v l from hR) D.out.bel.size, Kd.R_below D.out.rd hB, below_step D.out.bel hB⟩
      case rest =>
       as_aux_lemma =>
        clear D
        obtain ⟨rfl, D⟩ := hcut
        obtain ⟨A5, c5, rfl⟩ := Kd.R_slice D.rd
        obtain ⟨A7, c7, rfl⟩ := Kd.R_slice D.rl
        have hdl := R.out.found.len
        rw [hdl] at D ⊢
        replace hdl := Aside0.mk hdl
        replace D := Aside0.mk D
        have hlp := decAll_pos R.out.dec (by have := R.out.size; omega)
        have hll : l.length ≤ 192 := by have := R.out.size; have := decAll_length R.out.dec; omega
        go_upto_region 5 with fail
        go_cut [49] from 18 (fun v49 wx => v49 = .bool false ∧ wc = wx)
        case first =>
         as_aux_lemma =>
          have d1 : ((l.length : Int) == 0) = false := by rw [beq_eq_false_iff_ne]; omega
          have d2 : ((l.length : Int) != (l.length : Int)) = false := by simp
          clear hlp hll
          go_wp2
          go_meet
          case rel => exact ⟨rfl, rfl⟩
        case rest =>
         as_aux_lemma =>
          obtain ⟨rfl, rfl⟩ := hcut
          rename World => wp
          go_upto_block 0 with fail
          go_cut [9] from 18 (fun v9 wx => PP wp (more.filter plainx) v9 wx)
          case first =>
           as_aux_lemma =>
            go_wp2
            go_loopg [9, 10] more.length (fun k v9 v10 wx => ∃ j : Nat, v10 = .int .i64 j ∧ j + k = more.length ∧ PP wp ((more.take j).filter plainx) v9 wx)
            case atStart => exact ⟨0, rfl, by omega, Kd.R_nil _ _ _ _ _, Below.refl _ _⟩
            case round =>
             as_aux_lemma =>
              obtain ⟨j, rfl, hjk, P⟩ := hrel
              cases gk with
              | zero =>
               have ej : j = more.length := by omega
               subst ej
               have hlt : ¬ (more.length : Int) < (more.length : Int) := by omega
               rw [List.take_length] at P
               clear hjk
               go_wp2
               go_meet
               case rel => exact P
              | succ gk =>
               as_aux_lemma =>
                have hjl : j < more.length := by omega
                have hlt : (j : Int) < (more.length : Int) := by omega
                have hj2 : (j : Int) ≤ 50 := by omega
                obtain ⟨x, hx⟩ : ∃ x, more[j]? = some x := ⟨_, List.getElem?_eq_getElem hjl⟩
                have hxw := Aside0.mk (hmw.out x (List.mem_of_getElem? hx))
                have hnx := Aside0.mk (show (more.take (j + 1)).filter plainx = (more.take j).filter plainx ++ (if plainx x = true then [x] else []) by
                 rw [List.take_succ_eq_append_getElem hjl, List.filter_append]
                 rw [List.getElem?_eq_getElem hjl] at hx
                 rw [Option.some.inj hx]
                 congr 1
                 cases hp : plainx x <;> simp [hp])
                have hl9 := Aside0.mk (show ((more.take j).filter plainx).length < 1000000 by
                 have := List.length_filter_le plainx (more.take j)
                 rw [List.length_take] at this
                 omega)
                obtain ⟨ad, e4, q0, q1, q2, q3⟩ := at_T36 (Kd.C_below hC.out (below_step D.out.bel P.bel)) (j : Int) (by omega) (by omega)
                subst e4
                rw [rdT_of hx] at q0 q1 q2 q3
                simp only [Int.toNat_natCast] at q0 q1 q2 q3
                replace hjk := Aside0.mk hjk
                replace hx := Aside0.mk hx
                replace P := Aside0.mk P
                go_upto_region 11 with fail
                go_cut [11, 12] from 50 to 88 (fun v11 v12 wx => v11 = .int .i64 (tk x) ∧ v12 = .int .i64 (pt x) ∧ PP wp ((more.take j).filter plainx) u9 wx)
                case first =>
                 as_aux_lemma =>
                  go_wp2_with (first
                   | (go_at_call 24; (with_reducible refine (rmv_calls x hxw.out.1 _).mono ?_); rintro e w5 ⟨rfl, hB⟩))
                  go_meet
                  case rel => exact ⟨rfl, rfl, P.out.below hB⟩
                case rest =>
                 as_aux_lemma =>
                  clear q0 q1 q2 q3 P
                  obtain ⟨rfl, rfl, P⟩ := hcut
                  obtain ⟨ad', e4, q0, q1, q2, q3⟩ := at_T36 (Kd.C_below hC.out (below_step D.out.bel P.bel)) (j : Int) (by omega) (by omega)
                  cases e4
                  rw [rdT_of hx.out] at q0 q1 q2 q3
                  simp only [Int.toNat_natCast] at q0 q1 q2 q3
                  replace P := Aside0.mk P
                  go_upto_region 12 with fail
                  go_cut [81] from 50 to 88 (fun v81 wx => v81 = .bool (plainx x) ∧ wc = wx)
                  case first =>
                   as_aux_lemma =>
                    by_cases ht : 0 ≤ tk x
                    ·have d1 : decide (0 ≤ tk x) = true := decide_eq_true ht
                     by_cases h1 : x.f0 = 21
                     ·have h2 := Aside0.mk (show plainx x = false by unfold plainx jmp; simp [h1])
                      have d2 : (x.f0 != 21) = false := by simpa using h1
                      clear h1 ht
                      go_wp2
                      go_meet
                      case rel => exact ⟨by rw [h2.out], rfl⟩
                     ·have d2 : (x.f0 != 21) = true := by simpa using h1
                      by_cases h3 : x.f0 = 22
                      ·have h2 := Aside0.mk (show plainx x = false by unfold plainx jmp; simp [h3])
                       have d3 : (x.f0 != 22) = false := by simpa using h3
                       clear h1 h3 ht
                       go_wp2
                       go_meet
                       case rel => exact ⟨by rw [h2.out], rfl⟩
                      ·have h2 := Aside0.mk (show plainx x = true by unfold plainx jmp; simp [h1, h3, ht])
                       have d3 : (x.f0 != 22) = true := by simpa using h3
                       clear h1 h3 ht
                       go_wp2
                       go_meet
                       case rel => exact ⟨by rw [h2.out], rfl⟩
                    ·have d1 : decide (0 ≤ tk x) = false := decide_eq_false ht
                     have h2 := Aside0.mk (show plainx x = false by unfold plainx; rw [d1]; rfl)
                     clear ht
                     go_wp2
                     go_meet
                     case rel => exact ⟨by rw [h2.out], rfl⟩
                  case rest =>
                   as_aux_lemma =>
                    obtain ⟨rfl, rfl⟩ := hcut
                    cases hp : plainx x with
                    | false =>
                     have hnx2 := Aside0.mk (show (more.take (j + 1)).filter plainx = (more.take j).filter plainx by rw [hnx.out, hp]; simp)
                     replace hp := Aside0.mk hp
                     go_wp2
                     go_roundg gk
                     case measure => omega
                     case rel => exact ⟨j + 1, by go_num, by have := hjk.out; omega, by rw [hnx2.out]; exact P.out⟩
                    | true =>
                     have hnx2 := Aside0.mk (show (more.take (j + 1)).filter plainx = (more.take j).filter plainx ++ [x] by rw [hnx.out, hp]; simp)
                     replace hp := Aside0.mk hp
                     go_wp2_with (first
                      | (at_builtin; refine app_T36 rfl (.tmp 82) (.tmp 87) rfl _ _ x rfl rfl rfl P.out.rp P.out.bel hl9.out ?_; intro v1 w1 j1 j2))
                     go_roundg gk
                     case measure => omega
                     case rel => exact ⟨j + 1, by go_num, by have := hjk.out; omega, by rw [hnx2.out]; exact ⟨j1, j2⟩⟩
          case rest =>
           as_aux_lemma =>
            have P := hcut
            clear hcut
            obtain ⟨A9, c9, rfl⟩ := Kd.R_slice P.rp
            have hc9 := Aside0.mk (Kd.R_reads' P.rp).2.1
            obtain ⟨pl, hpl⟩ : ∃ pl, more.filter plainx = pl := ⟨_, rfl⟩
            have hp50 : pl.length ≤ 50 := by rw [← hpl]; have := List.length_filter_le plainx more; omega
            have hpw := Aside0.mk (show ∀ x ∈ pl ++ [(⟨21, 0, 0, 0⟩ : S36)], 0 ≤ x.f1 ∧ x.f1 < 18446744073709551616 from fun x hx => by
             rcases List.mem_append.1 hx with h | h
             ·rw [← hpl] at h; exact hmw.out x (List.mem_filter.1 h).1
             ·rw [List.mem_singleton.1 h]; simp)
            have hpd := Aside0.mk (show Dead (pl ++ [(⟨21, 0, 0, 0⟩ : S36)]) from ⟨fun x hx => by
             rcases List.mem_append.1 hx with h | h
             ·rw [← hpl] at h; have := (List.mem_filter.1 h).2; unfold plainx at this; simp at this; exact this.1
             ·rw [List.mem_singleton.1 h]; decide, fun x hx hj => by
             rcases List.mem_append.1 hx with h | h
             ·rw [← hpl] at h; have := (List.mem_filter.1 h).2; unfold plainx at this; rw [hj] at this; simp at this
             ·rw [List.mem_singleton.1 h]⟩)
            rw [hpl] at P ⊢ hc9
            replace hpl := Aside0.mk hpl
            obtain ⟨⟨t, g⟩, hen⟩ : ∃ r, encRes [] (encAll (pl ++ [(⟨21, 0, 0, 0⟩ : S36)])) = r := ⟨_, rfl⟩
            replace hen := Aside0.mk hen
            have hl9 := Aside0.mk (show pl.length < 1000000 by omega)
            replace P := Aside0.mk P
            go_upto_region 14 with fail
            go_cut [13, 14] from 18 (fun v13 v14 wx => v13 = .string t ∧ v14 = .int .i64 g ∧ Below wp.heap.size wp wx)
            case first =>
             as_aux_lemma =>
              have hec := Aside0.mk (fun (A : Option Addr) (c : Nat) (W : World) (hC : Kd.C k36 W A (pl ++ [(⟨21, 0, 0, 0⟩ : S36)]).length (pl ++ [(⟨21, 0, 0, 0⟩ : S36)])) (hc : (pl ++ [(⟨21, 0, 0, 0⟩ : S36)]).length ≤ c) => show Calls Try.prog 17 #[.slice A (pl.length + 1) c] W fun e w' => e = .returned (.tuple #[.string (encRes [] (encAll (pl ++ [(⟨21, 0, 0, 0⟩ : S36)]))).1, .int .i64 (encRes [] (encAll (pl ++ [(⟨21, 0, 0, 0⟩ : S36)]))).2]) ∧ Below W.heap.size W w' from by
               have e1 : (pl ++ [(⟨21, 0, 0, 0⟩ : S36)]).length = pl.length + 1 := by simp
               have := renc_calls (pl ++ [(⟨21, 0, 0, 0⟩ : S36)]) (by rw [e1]; omega) hpw.out A c W hC hc
               rw [e1] at this
               exact this)
              go_wp2_with (first
               | (at_builtin; refine app_T36 rfl (.tmp 90) (.tmp 92) rfl _ _ (⟨21, 0, 0, 0⟩ : S36) rfl rfl rfl P.out.rp P.out.bel hl9.out ?_; intro v1 w1 j1 j2; obtain ⟨A93, c93, rfl⟩ := Kd.R_slice j1; have j3 := Aside0.mk (Kd.R_reads' j1); replace j2 := Aside0.mk j2; clear j1)
               | (go_at_call 17; (with_reducible refine (hec.out _ _ _ j3.out.2.2 j3.out.2.1).mono ?_); rintro e w5 ⟨rfl, hB⟩; rw [hen.out]))
              go_meet
              case rel => exact ⟨rfl, rfl, below_step j2.out hB⟩
            case rest =>
             as_aux_lemma =>
              clear P
              obtain ⟨rfl, rfl, P⟩ := hcut
              replace P := Aside0.mk P
              have hts := Aside0.mk (show g = 0 → t.size ≤ 459 ∧ ∃ bs, encAll (pl ++ [(⟨21, 0, 0, 0⟩ : S36)]) = some bs ∧ t = strOfNums bs from fun h => by
               have := hen.out
               cases he : encAll (pl ++ [(⟨21, 0, 0, 0⟩ : S36)]) with
               | none => rw [he] at this; simp only [encRes, Prod.mk.injEq] at this; omega
               | some bs =>
                rw [he] at this
                simp only [encRes, Prod.mk.injEq, List.nil_append] at this
                have hlb := encAll_length _ _ he
                have e1 := nums8_length t
                rw [← this.1, nums8_str bs (encAll_range _ bs he), this.1] at e1
                rw [List.length_append] at hlb
                simp only [List.length_cons, List.length_nil] at hlb
                exact ⟨by omega, bs, rfl, this.1.symm⟩)
              go_upto_region 15 with fail
              go_cut [106] from 18 (fun v106 wx => v106 = .bool (decide (g ≠ 0 ∨ 192 < s.size + t.size)) ∧ wc = wx)
              case first =>
               as_aux_lemma =>
                by_cases h1 : g = 0
                ·have d1 : (g != 0) = false := by simpa using h1
                 have ht := (hts.out h1).1
                 have hsz := hs.out
                 have hw1 : wrap64 ((s.size : Int) + (t.size : Int)) = (s.size : Int) + (t.size : Int) := wrap_in (by omega) (by omega)
                 by_cases h2 : (192 : Int) < (s.size : Int) + (t.size : Int)
                 ·have d2 : decide ((192 : Int) < (s.size : Int) + (t.size : Int)) = true := decide_eq_true h2
                  have h3 := Aside0.mk (show decide (g ≠ 0 ∨ 192 < s.size + t.size) = true from decide_eq_true (.inr (by omega)))
                  clear h1 h2 ht hsz
                  go_wp2
                  go_meet
                  case rel => exact ⟨by rw [h3.out], rfl⟩
                 ·have d2 : decide ((192 : Int) < (s.size : Int) + (t.size : Int)) = false := decide_eq_false h2
                  have h3 := Aside0.mk (show decide (g ≠ 0 ∨ 192 < s.size + t.size) = false from decide_eq_false (by omega))
                  clear h1 h2 ht hsz
                  go_wp2
                  go_meet
                  case rel => exact ⟨by rw [h3.out], rfl⟩
                ·have d1 : (g != 0) = true := by simpa using h1
                 have h3 := Aside0.mk (show decide (g ≠ 0 ∨ 192 < s.size + t.size) = true from decide_eq_true (.inl h1))
                 clear h1
                 go_wp2
                 go_meet
                 case rel => exact ⟨by rw [h3.out], rfl⟩
              case rest =>
               as_aux_lemma =>
                obtain ⟨rfl, rfl⟩ := hcut
                by_cases hbad : g ≠ 0 ∨ 192 < s.size + t.size
                ·rw [decide_eq_true hbad]
                 clear hbad
                 go_wp2_with (first
                  | (go_at_call 28; (with_reducible refine (aw.out _).mono ?_); rintro e w5 ⟨rfl, hB⟩))
                 go_ret
                 exact ⟨rfl, below_step (below_step D.out.bel P.out) hB⟩
                ·rw [decide_eq_false hbad]
                 obtain ⟨hg0, hsz2⟩ : g = 0 ∧ s.size + t.size ≤ 192 := by omega
                 subst hg0
                 obtain ⟨ht459, bs, hbs, htb⟩ := hts.out rfl
                 have hdd := dead_depths R.out hbs htb (fun x hx => (hpw.out x hx).1) hpd.out (by rw [ByteArray.size_append]; omega)
                 obtain ⟨xs, hxs⟩ : ∃ xs, dsr ++ List.replicate (pl ++ [(⟨21, 0, 0, 0⟩ : S36)]).length (-1) = xs := ⟨_, rfl⟩
                 rw [hxs] at hdd
                 replace hdd := Aside0.mk hdd
                 have hxl := Aside0.mk (show xs.length = l.length + pl.length + 1 by
                  rw [← hxs, List.length_append, List.length_replicate, hdl.out, List.length_append]
                  simp only [List.length_cons, List.length_nil]
                  omega)
                 have hx1 := Aside0.mk (show ∀ i : Nat, i < l.length → rd xs (i : Int) = rd dsr (i : Int) from fun i hi => by
                  have h1 := rd_get (ds := dsr) (i := i) (by rw [hdl.out]; exact hi)
                  refine rd_of ?_
                  rw [← hxs, List.getElem?_append_left (by rw [hdl.out]; exact hi)]
                  exact h1)
                 have hx2 := Aside0.mk (show ∀ i : Nat, l.length ≤ i → i < xs.length → rd xs (i : Int) = -1 from fun i h1 h2 => by
                  refine rd_of ?_
                  rw [← hxs] at h2 ⊢
                  rw [List.length_append, List.length_replicate] at h2
                  have := hdl.out
                  rw [List.getElem?_append_right (by omega), List.getElem?_replicate, if_pos (by omega)])
                 have hst := Aside0.mk (show (s ++ t).size ≤ 4398046511104 by rw [ByteArray.size_append]; omega)
                 replace hxs := Aside0.mk hxs
                 replace htb := Aside0.mk htb
                 replace hbs := Aside0.mk hbs
                 clear hbad hts hen hpw hpd
                 go_upto_region 17 with fail
                 go_cut [15, 16] from 18 (fun v15 v16 wx => v16 = .int .i64 0 ∧ Kd.R (Kd.int .i64) 3 wx wp.heap.size (fun _ => True) v15 xs ∧ Below wp.heap.size wp wx)
                 case first =>
                  as_aux_lemma =>
                   have hcat : ¬ ((s.size : Int) + (t.size : Int) > 9223372036854775807) := by omega
                   have hcat2 : ¬ (9223372036854775807 < (s.size : Int) + (t.size : Int)) := by omega
                   have hcat3 : ¬ (((s.size + t.size : Nat) : Int) > IntKind.i64.max) := by simp [IntKind.max, IntKind.signed, IntKind.bits]; omega
                   go_wp2_with (first
                    | (go_at_call 29; (with_reducible refine (depths_calls (s ++ t) hst.out _).mono ?_); rintro e w5 ⟨v, rfl, hR, hB⟩; rw [hdd.out] at hR ⊢))
                   go_meet
                   case rel => exact ⟨rfl, Kd.R_lower hR P.out.size, below_step P.out hB⟩
                 case rest =>
                  as_aux_lemma =>
                   clear P
                   obtain ⟨rfl, hX, P⟩ := hcut
                   obtain ⟨A15, c15, rfl⟩ := Kd.R_slice hX
                   rw [hxl.out] at hX ⊢
                   have E := Aside0.mk (D.out.below P)
                   replace hX := Aside0.mk hX
                   replace P := Aside0.mk P
                   obtain ⟨n, hn⟩ : ∃ n, n + 1 = l.length := ⟨l.length - 1, by omega⟩
                   obtain ⟨y, hy⟩ : ∃ y, l[n]? = some y := ⟨_, List.getElem?_eq_getElem (by omega)⟩
                   obtain ⟨a7, e7, q0, q1, q2, q3⟩ := at_T36 (Kd.R_reads' E.out.rl).2.2 (n : Int) (by omega) (by omega)
                   subst e7
                   rw [rdT_of hy] at q0 q1 q2 q3
                   simp only [Int.toNat_natCast] at q0 q1 q2 q3
                   obtain ⟨a5, e5, q4⟩ := Kd.at_int (Kd.R_reads' E.out.rd).2.2 (n : Int) (by omega) (by have := hdl.out; omega)
                   subst e5
                   simp only [Int.toNat_natCast] at q4
                   have hnl : (n : Int) < (l.length : Int) := by omega
                   have hw5 : wrap64 ((l.length : Int) + -1) = (n : Int) := by rw [wrap_in (by omega) (by omega)]; omega
                   have hw6 : (l.length : Int) - 1 = (n : Int) := by omega
                   have hw7 : wrap64 (n : Int) = (n : Int) := wrap_in (by omega) (by omega)
                   have hw : wrap64 ((l.length : Int) - 1) = (n : Int) := by rw [wrap_in (by omega) (by omega)]; omega
                   have hlast := Aside0.mk (fun h => dead_last R.out hy hn h)
                   replace hy := Aside0.mk hy
                   replace hn := Aside0.mk hn
                   go_upto_region 18 with fail
                   go_cut [131] from 18 (fun v131 wx => v131 = .bool false ∧ wc = wx)
                   case first =>
                    as_aux_lemma =>
                     by_cases h1 : y.f0 = 21
                     ·have d1 : (y.f0 != 21) = false := by simpa using h1
                      clear h1
                      go_wp2
                      go_meet
                      case rel => exact ⟨rfl, rfl⟩
                     ·have d1 : (y.f0 != 21) = true := by simpa using h1
                      have d2 : decide (0 ≤ rd dsr (n : Int)) = false := decide_eq_false (by have := hlast.out h1; omega)
                      clear h1
                      go_wp2
                      go_meet
                      case rel => exact ⟨rfl, rfl⟩
                   case rest =>
                    as_aux_lemma =>
                     clear q0 q1 q2 q3 q4 hw hw5 hw6 hw7 hnl hlast
                     obtain ⟨rfl, rfl⟩ := hcut
                     go_upto_region 20 with fail
                     go_cut [144] from 18 (fun v144 wx => v144 = .bool false ∧ wc = wx)
                     case first =>
                      as_aux_lemma =>
                       have hw1 : wrap64 ((l.length : Int) + (pl.length : Int)) = (l.length : Int) + (pl.length : Int) := wrap_in (by omega) (by omega)
                       have hw2 : wrap64 ((l.length : Int) + (pl.length : Int) + 1) = (l.length : Int) + (pl.length : Int) + 1 := wrap_in (by omega) (by omega)
                       go_wp2
                       go_meet
                       case rel => exact ⟨rfl, rfl⟩
                     case rest =>
                      as_aux_lemma =>
                       obtain ⟨rfl, rfl⟩ := hcut
                       go_upto_block 2 with fail
                       go_cut [] from 18 (fun wx => Below wc.heap.size wc wx)
                       case first =>
                        as_aux_lemma =>
                         go_wp2
                         go_loopg [17] (l.length + pl.length + 1) (fun k v17 wx => ∃ i : Nat, v17 = .int .i64 i ∧ i + k = l.length + pl.length + 1 ∧ Below wc.heap.size wc wx)
                         case atStart => exact ⟨0, rfl, by omega, Below.refl _ _⟩
                         case round =>
                          as_aux_lemma =>
                           obtain ⟨i, rfl, hik, B⟩ := hrel
                           cases gk with
                           | zero =>
                            have hlt : ¬ (i : Int) < (l.length : Int) + (pl.length : Int) + 1 := by omega
                            clear hik
                            go_wp2
                            go_meet
                            case rel => exact B
                           | succ gk =>
                            have hlt : (i : Int) < (l.length : Int) + (pl.length : Int) + 1 := by omega
                            have hi2 : (i : Int) ≤ 1000 := by omega
                            obtain ⟨a15, e15, p15⟩ := Kd.at_int (Kd.R_reads' (Kd.R_below hX.out B)).2.2 (i : Int) (by omega) (by first | omega | (have := hxl.out; omega))
                            subst e15
                            simp only [Int.toNat_natCast] at p15
                            replace hik := Aside0.mk hik
                            by_cases hil : i < l.length
                            ·obtain ⟨a5', e5, p5⟩ := Kd.at_int (Kd.R_reads' (Kd.R_below E.out.rd B)).2.2 (i : Int) (by omega) (by have := hdl.out; omega)
                             cases e5
                             simp only [Int.toNat_natCast] at p5
                             rw [hx1.out i hil] at p15
                             have d1 : decide ((i : Int) < (l.length : Int)) = true := decide_eq_true (by omega)
                             have d2 : decide ((l.length : Int) ≤ (i : Int)) = false := decide_eq_false (by omega)
                             have d1n : decide (i < l.length) = true := decide_eq_true hil
                             have d2n : decide (l.length ≤ i) = false := decide_eq_false (by omega)
                             have hil2 : (i : Int) < (l.length : Int) := by omega
                             clear hil
                             go_wp2
                             repeat (go_quiet (fail); try go_wp2)
                             go_roundg gk
                             case measure => omega
                             case rel => exact ⟨i + 1, by go_num, by have := hik.out; omega, by repeat (first | exact B | apply below_alloc | apply pw_below_drewN | apply below_drew1)⟩
                            ·rw [hx2.out i (by omega) (by rw [hxl.out]; omega)] at p15
                             have d1 : decide ((i : Int) < (l.length : Int)) = false := decide_eq_false (by omega)
                             have d2 : decide ((l.length : Int) ≤ (i : Int)) = true := decide_eq_true (by omega)
                             have d1n : decide (i < l.length) = false := decide_eq_false hil
                             have d2n : decide (l.length ≤ i) = true := decide_eq_true (by omega)
                             clear hil
                             go_wp2
                             repeat (go_quiet (fail); try go_wp2)
                             go_roundg gk
                             case measure => omega
                             case rel => exact ⟨i + 1, by go_num, by have := hik.out; omega, by repeat (first | exact B | apply below_alloc | apply pw_below_drewN | apply below_drew1)⟩
                       case rest =>
                        as_aux_lemma =>
                         go_wp2_with (first
                          | (go_at_call 28; (with_reducible refine (aw.out _).mono ?_); rintro e w5 ⟨rfl, hB⟩))
                         go_ret
                         exact ⟨rfl, below_step (below_step (below_step D.out.bel P.out) hcut) hB⟩
end Go.Proofs.Ytjbpljcfogekhaa.Q
namespace Go.Proofs.Ytjbpljcfogekhaa.Opened
open Go.RowKit Ytjbpljcfogekhaa.Q YtjbpljcfogekhaaW.PrintWords YtjbpljcfogekhaaW.PrintLast YtjbpljcfogekhaaW.PrintMore
/-- The numbers of an instruction are of their kinds. -/
def InsWf (x : S36) : Prop := (Lit.int .i64 x.f0).wf = true ∧ (Lit.int .u64 x.f1).wf = true ∧ (Lit.int .i64 x.f2).wf = true ∧ (Lit.int .i64 x.f3).wf = true
theorem u64_bounds {n : Int} (h : (Lit.int .u64 n).wf = true) : 0 ≤ n ∧ n < 18446744073709551616 := by
 simp only [Lit.wf, Bool.and_eq_true, decide_eq_true_eq] at h
 have h0 : IntKind.u64.min = 0 := rfl
 have h1 : IntKind.u64.max = 18446744073709551615 := rfl
 rw [h0, h1] at h
 omega
instance : Inhabited S36 := ⟨z36⟩
theorem cells36 : Try.prog.cellsOf 36 = 4 := by kernel_rfl
theorem cells34 : Try.prog.cellsOf 34 = 1 := by kernel_rfl
theorem cells3 : Try.prog.cellsOf 3 = 1 := by kernel_rfl
section
variable {H : Type} {enc : TypeId × Value → H} {w : World} {base : Nat} {spare : Nat → Bool} {held : Bool}
theorem ins_cells {fuel : Nat} {cs : List Value} {x : DataW H × List MemPlace} (h : DataW.trod enc Try.prog w base spare held fuel 36 cs = some x) :
  ∃ y : S36, cs = [.int .i64 y.f0, .int .u64 y.f1, .int .i64 y.f2, .int .i64 y.f3] ∧ InsWf y ∧ x = (.agg [.lit (.int .i64 y.f0), .lit (.int .u64 y.f1), .lit (.int .i64 y.f2), .lit (.int .i64 y.f3)], []) := by
 obtain ⟨y0, y1, y2, y3, n, rfl, hl, h0, h1, h2, h3⟩ := Go.Joins.trod_struct4 Try.underlying36 h
 rw [cells36] at hl
 match cs, hl with
 | [c0, c1, c2, c3], _ =>
  obtain ⟨n0, e0, rfl, w0⟩ := DataW.trod_int Try.underlying3 h0
  obtain ⟨n1, e1, rfl, w1⟩ := DataW.trod_int Try.underlying34 h1
  obtain ⟨n2, e2, rfl, w2⟩ := DataW.trod_int Try.underlying3 h2
  obtain ⟨n3, e3, rfl, w3⟩ := DataW.trod_int Try.underlying3 h3
  simp only [cells3, cells34, List.drop, List.take, List.cons.injEq, and_true] at e0 e1 e2 e3
  subst e0 e1 e2 e3
  exact ⟨⟨n0, n1, n2, n3⟩, rfl, ⟨w0, w1, w2, w3⟩, rfl⟩
theorem ins_row {fuel : Nat} {A : Option Addr} {len cap : Nat} {x : DataW H × List MemPlace} (h : DataW.trod enc Try.prog w base spare held fuel 22 [.slice A len cap] = some x) :
  ∃ l : List S36, len = l.length ∧ l.length ≤ cap ∧ Kd.C k36 w A l.length l ∧ ∀ y ∈ l, InsWf y := by
 rcases Go.Deep.open_slice Try.underlying22 h with ⟨hcs, _⟩ | ⟨a, len', cap', m, n, D, Pl, hcs, _, hl, hm, hmm, _, hx⟩
 ·simp only [List.cons.injEq, Value.slice.injEq, and_true] at hcs
  obtain ⟨rfl, rfl, rfl⟩ := hcs
  exact ⟨[], rfl, by simp, ⟨rfl, by simp, fun hp => absurd hp (by simp)⟩, fun y hy => by cases hy⟩
 ·simp only [List.cons.injEq, Value.slice.injEq, and_true] at hcs
  obtain ⟨rfl, rfl, rfl⟩ := hcs
  have hle : len ≤ m := by rw [hmm]; split <;> omega
  obtain ⟨f, hf⟩ := Go.Deep.choose_lt (α := S36) (n := len) (p := fun i y => w.cells? base (a.add (i * 4)) 4 = some [.int .i64 y.f0, .int .u64 y.f1, .int .i64 y.f2, .int .i64 y.f3] ∧ InsWf y) (fun i hi => by
   obtain ⟨cs', hc, hd⟩ := hx i (by omega)
   obtain ⟨y, rfl, hw, _⟩ := ins_cells hd
   rw [cells36] at hc
   exact ⟨y, hc, hw⟩)
  have hlen : ((List.range len).map f).length = len := by simp
  refine ⟨(List.range len).map f, hlen.symm, by rw [hlen]; exact hl, ?_, fun y hy => ?_⟩
  ·rw [hlen]
   unfold maxLen at hm
   refine ⟨hlen, by omega, fun _ => ⟨a, rfl, fun j p hj => ?_⟩⟩
   have hjl : j < len := by have := (List.getElem?_eq_some_iff.1 hj).1; omega
   rw [List.getElem?_map, List.getElem?_range hjl] at hj
   simp only [Option.map_some, Option.some.injEq] at hj
   subst hj
   obtain ⟨hc, _⟩ := hf j hjl
   obtain ⟨_, hcl, hcell⟩ := World.cells?_some hc
   refine ⟨_, rfl, k36_mk w (f j), fun i u hu => ?_⟩
   have hi : i < 4 := by have := (List.getElem?_eq_some_iff.1 hu).1; simpa using this
   rw [← Go.Deep.add_add]
   exact (hcell i hi).trans hu
  ·obtain ⟨i, hi, rfl⟩ := List.mem_map.1 hy
   exact (hf i (List.mem_range.1 hi)).2
end
end Go.Proofs.Ytjbpljcfogekhaa.Opened
namespace Go.Proofs.Ytjbpljcfogekhaa.Q
open Go.RowKit Ytjbpljcfogekhaa.Core YtjbpljcfogekhaaW.PrintWords YtjbpljcfogekhaaW.PrintLast YtjbpljcfogekhaaW.PrintMore
theorem dead_all : True := by
 have a1 := @dead_calls
 have a2 := @Opened.ins_row
 have a3 := @Opened.u64_bounds
 trivial
end Go.Proofs.Ytjbpljcfogekhaa.Q
