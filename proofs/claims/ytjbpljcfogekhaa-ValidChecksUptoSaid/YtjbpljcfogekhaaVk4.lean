/- januslaw06.ValidChecks: part 4 of 4: what the walks and the plain law need, in order. -/
import Derived.Test.YtjbpljcfogekhaaVk3
import Derived.Deep.CutRange
set_option linter.unusedVariables false
set_option linter.unusedSimpArgs false
namespace Go.Proofs.Ytjbpljcfogekhaa.Core
open Go.RowKit Go.Proofs.Ytjbpljcfogekhaa.Q Go.Proofs.YtjbpljcfogekhaaW.PrintWords Go.Proofs.YtjbpljcfogekhaaW.PrintLast Go.Proofs.YtjbpljcfogekhaaW.PrintMore
theorem depths_none {s : ByteArray} (h : readS s = none) : depthsS s = ([], 8) := by unfold depthsS; rw [h]; rfl
theorem depths_right {s : ByteArray} {l : List S36} (hda : decAll s = some l) (hsz : ¬ (s.size < 1 ∨ 192 < s.size)) (hok : okS l = true) {q : Option (List Int)} (hq : Right l q) : depthsS s = depRes q := by
  have hlp := decAll_pos hda (by omega)
  have hln := decAll_length hda
  obtain ⟨r, hr, hR⟩ := look_right hok hlp 400 (by omega)
  have e := hR.one hq
  subst e
  unfold depthsS readS
  rw [hda]
  simp only
  rw [if_neg hsz, if_pos hok, hr]
  cases r <;> rfl
theorem findI_neg {l : List S36} {a : Int} : findI l a < 0 ↔ (findS l a).isSome = false := by
  unfold findI
  cases findS l a with
  | none => simp
  | some i => simp
theorem findI_some {l : List S36} {a : Int} (h : (findS l a).isSome = true) : findI l a = ((findS l a).getD 0 : Nat) := by
  unfold findI
  cases e : findS l a with
  | none => rw [e] at h; cases h
  | some i => rfl
end Go.Proofs.Ytjbpljcfogekhaa.Core
namespace Go.Proofs.Ytjbpljcfogekhaa.Q
open Go.RowKit Go.Proofs.Ytjbpljcfogekhaa.Core Go.Proofs.YtjbpljcfogekhaaW.PrintWords Go.Proofs.YtjbpljcfogekhaaW.PrintLast Go.Proofs.YtjbpljcfogekhaaW.PrintMore
set_option linter.unusedVariables false
set_option linter.unusedSimpArgs false
theorem rdec_calls (s : ByteArray) (hs : s.size ≤ 4398046511104) (W : World) : Calls Try.prog 19 #[.string s] W fun e w' => ∃ v : Value, e = .returned (.tuple #[v, .int .i64 (decRes [] (decAll s)).2]) ∧ Kd.R k36 36 w' W.heap.size (fun _ => True) v (decRes [] (decAll s)).1 ∧ Below W.heap.size W w' := by
  obtain ⟨k, hk⟩ := (RDecode_evL s hs).rounds
  exact janusref05_Decode.calls k s _ _ W hk
theorem rmv_calls (x : S36) (h : 0 ≤ x.f1) (W : World) : Calls Try.prog 24 #[.agg #[.int .i64 x.f0, .int .u64 x.f1, .int .i64 x.f2, .int .i64 x.f3]] W fun e w' => e = .returned (.tuple #[.int .i64 (tk x), .int .i64 (pt x)]) ∧ Below W.heap.size W w' := by
  obtain ⟨k, hk⟩ := (RMoves_ev x.f0 x.f1 x.f2 x.f3 h).rounds
  exact janusref05_Moves.calls k x.f0 x.f1 x.f2 x.f3 (tk x) (pt x) W hk
theorem find_calls {l : List S36} (hp : Placed l) (hl : l.length ≤ 4398046511104) (a : Int) (A : Option Addr) (c : Nat) (W : World) (hr : Kd.C k36 W A l.length l) (hc : l.length ≤ c) :
    Calls Try.prog 44 #[.slice A l.length c, .int .u64 a] W fun e w' => e = .returned (.int .i64 (findI l a)) ∧ Below W.heap.size W w' := by
  obtain ⟨k, hk⟩ := (RFind_ev hp a hl).rounds
  refine (janusref06_find.calls k A c l a _ W hr hc hk).mono ?_
  rintro e w' ⟨he, nd, rfl⟩
  exact ⟨he, pw_below_drewN (Below.refl _ _) _⟩
def RefPost (w : World) (s : ByteArray) (e : Ending) (w' : World) : Prop := ∃ v : Value, e = .returned (.tuple #[v, .int .i64 (depthsS s).2]) ∧ Kd.R (Kd.int .i64) 3 w' w.heap.size (fun _ => True) v (depthsS s).1 ∧ Below w.heap.size w w'
theorem RefPost.no {w w' : World} {s : ByteArray} (h : depthsS s = ([], 8)) (hb : Below w.heap.size w w') : RefPost w s (.returned (.tuple #[.slice none 0 0, .int .i64 8])) w' := by
  refine ⟨_, by rw [h], ?_, hb⟩
  rw [h]
  exact Kd.R_nil _ _ _ _ _
/-- The instructions and the depths. -/
structure RS (w : World) (l : List S36) (v4 v6 : Value) (ds : List Int) (wc : World) : Prop where
  rl : Kd.R k36 36 wc w.heap.size (fun _ => True) v4 l
  rd : Kd.R (Kd.int .i64) 3 wc w.heap.size (fun _ => True) v6 ds
  bel : Below w.heap.size w wc
theorem RS.below {w : World} {l : List S36} {v4 v6 : Value} {ds : List Int} {wc wd : World} (r : RS w l v4 v6 ds wc) (hb : Below wc.heap.size wc wd) : RS w l v4 v6 ds wd :=
  ⟨Kd.R_below r.rl hb, Kd.R_below r.rd hb, below_step r.bel hb⟩
theorem RS.alloc {w : World} {l : List S36} {v4 v6 : Value} {ds : List Int} {wc : World} (r : RS w l v4 v6 ds wc) (o : Obj) : RS w l v4 v6 ds (wc.alloc o) := r.below (below_alloc (Below.refl _ _) o)
theorem k36_typed {W : World} {base : Nat} {ok : Nat → Prop} {v : Value} {l : List S36} (h : Kd.R k36 36 W base ok v l) {k : Nat} (hk : v.ownBlock = some k) : ∃ cells, W.heap[k]? = some (.cells cells 36 (0, 0)) := by
  obtain ⟨_, inner, ho, _⟩ := h
  exact own_typed ho k hk
theorem i64_typed {W : World} {base : Nat} {ok : Nat → Prop} {v : Value} {l : List Int} (h : Kd.R (Kd.int .i64) 3 W base ok v l) {k : Nat} (hk : v.ownBlock = some k) : ∃ cells, W.heap[k]? = some (.cells cells 3 (0, 0)) := by
  obtain ⟨_, inner, ho, _⟩ := h
  exact own_typed ho k hk
theorem rows_ne {W : World} {b1 b2 : Nat} {ok1 ok2 : Nat → Prop} {v u : Value} {l : List S36} {xs : List Int} (h : Kd.R k36 36 W b1 ok1 v l) (h' : Kd.R (Kd.int .i64) 3 W b2 ok2 u xs) (k : Nat) (hk : u.ownBlock = some k) : some k ≠ v.ownBlock := fun e => by
  obtain ⟨c1, h1⟩ := k36_typed h e.symm
  obtain ⟨c2, h2⟩ := i64_typed h' hk
  rw [h1] at h2
  injection h2 with h2
  injection h2 with _ h2 _
  exact absurd h2 (by decide)
theorem RS.app {w : World} {l : List S36} {v4 v6 : Value} {ds : List Int} {wc w1 : World} {v1 : Value} {p : Int} (r : RS w l v4 v6 ds wc) (h1 : Kd.R (Kd.int .i64) 3 w1 w.heap.size (fun _ => True) v1 (ds ++ [p])) (h2 : Below w.heap.size w w1) (h3 : wc.grownBy w1 v6.ownBlock) : RS w l v4 v1 (ds ++ [p]) w1 :=
  ⟨Kd.R_grown2 r.rl rfl h3 (fun k hk => rows_ne r.rl r.rd k hk), h1, h2⟩
theorem RS.set {w : World} {l : List S36} {v4 : Value} {ds : List Int} {wc : World} {g n c : Nat} (r : RS w l v4 (.slice (some ⟨g, 0, none⟩) n c) ds wc) (k : Nat) (d : Int) : RS w l v4 (.slice (some ⟨g, 0, none⟩) n c) (ds.set k d) (wc.setCell ⟨g, k, none⟩ (.int .i64 d)) := by
  obtain ⟨cells, hc⟩ := i64_typed r.rd (k := g) rfl
  have hb := (Kd.R_bound r.rd).1 g rfl
  have hp := Kd.R_putn r.rd (k : Int) d
  have e : ((k : Int)).toNat = k := by simp
  rw [e] at hp
  refine ⟨Kd.R_set r.rl hc (fun q hq => ?_) k _, hp, below_set r.bel hb.2.1⟩
  have : q = 36 := by simpa [k36, Kd.iso, Kd.pair, Kd.int, Kd.scalar] using hq
  subst this
  decide
/-- .. and the list of where one leads. -/
structure RT (w : World) (l : List S36) (v4 : Value) (g6 n6 c6 : Nat) (ds tl : List Int) (v15 : Value) (wc : World) : Prop where
  rs : RS w l v4 (.slice (some ⟨g6, 0, none⟩) n6 c6) ds wc
  rt : Kd.R (Kd.int .i64) 3 wc w.heap.size (fun _ => True) v15 tl
  ne : ∀ k, v15.ownBlock = some k → k ≠ g6
theorem RT.below {w : World} {l : List S36} {v4 v15 : Value} {g6 n6 c6 : Nat} {ds tl : List Int} {wc wd : World} (r : RT w l v4 g6 n6 c6 ds tl v15 wc) (hb : Below wc.heap.size wc wd) : RT w l v4 g6 n6 c6 ds tl v15 wd :=
  ⟨r.rs.below hb, Kd.R_below r.rt hb, r.ne⟩
theorem RT.app {w : World} {l : List S36} {v4 v15 : Value} {g6 n6 c6 : Nat} {ds tl : List Int} {W w1 : World} {v1 : Value} {p : Int} (r : RT w l v4 g6 n6 c6 ds tl v15 W)
    (h1 : Kd.R (Kd.int .i64) 3 w1 w.heap.size (fun _ => True) v1 (tl ++ [p])) (h2 : Below w.heap.size w w1) (h3 : W.grownBy w1 v15.ownBlock) (h4 : v1.ownBlock = v15.ownBlock ∨ ∃ b, v1.ownBlock = some b ∧ W.heap.size ≤ b) : RT w l v4 g6 n6 c6 ds (tl ++ [p]) v1 w1 := by
  have hg := ((Kd.R_bound r.rs.rd).1 g6 rfl).2.2.1
  refine ⟨⟨Kd.R_grown2 r.rs.rl rfl h3 (fun k hk => rows_ne r.rs.rl r.rt k hk), Kd.R_grown2 r.rs.rd rfl h3 (fun k hk e => ?_), h2⟩, h1, fun k hk => ?_⟩
  · have := r.ne k hk
    simp [Value.ownBlock] at e
    omega
  · rcases h4 with h4 | ⟨b, hb, hle⟩
    · exact r.ne k (by rw [← h4]; exact hk)
    · rw [hb] at hk
      cases hk
      omega
theorem RT.set {w : World} {l : List S36} {v4 v15 : Value} {g6 n6 c6 : Nat} {ds tl : List Int} {W : World} (r : RT w l v4 g6 n6 c6 ds tl v15 W) (k : Nat) (d : Int) : RT w l v4 g6 n6 c6 (ds.set k d) tl v15 (W.setCell ⟨g6, k, none⟩ (.int .i64 d)) :=
  ⟨r.rs.set k d, Kd.R_mono (Kd.R_far (p := ⟨g6, k, none⟩) (Kd.R_mono (ok' := fun k => k ≠ g6) (Kd.R_tight rfl r.rt) (fun k hk => r.ne k hk.symm)) (fun _ hk => hk) _) (fun _ _ => trivial), r.ne⟩
/-- Over all instructions once. -/
def PSw (w : World) (l : List S36) (v4 : Value) (g6 c6 : Nat) (V : Option (List Int × Bool)) (k : Nat) (v11 v12 : Value) (wc : World) : Prop :=
  ∃ (i : Nat) (ds : List Int) (m : Bool), v12 = .int .i64 i ∧ i + k = l.length ∧ v11 = .bool m ∧ RS w l v4 (.slice (some ⟨g6, 0, none⟩) l.length c6) ds wc ∧ LookInv l [] ds ∧ sweepR l k i ds m = V
/-- Over where one instruction leads. -/
def PVi (w : World) (l : List S36) (v4 : Value) (g6 c6 : Nat) (i : Nat) (e0 dd : Int) (tl : List Int) (v15 : Value) (V : Option (List Int × Bool)) (k : Nat) (v11 v16 : Value) (wc : World) : Prop :=
  ∃ (j : Nat) (ds : List Int) (m : Bool), v16 = .int .i64 j ∧ j + k = tl.length ∧ v11 = .bool m ∧ RT w l v4 g6 l.length c6 ds tl v15 wc ∧ ds.length = l.length ∧ rd ds (i : Int) = e0 ∧ visitR dd (tl.drop j) ds m = V
set_option maxHeartbeats 4000000 in
set_option maxRecDepth 100000 in
theorem rdepths_calls (s : ByteArray) (hs : s.size ≤ 4398046511104) (w : World) : Calls Try.prog 30 #[.string s] w (RefPost w s) := by
  have hu36 := Try.underlying36
  replace hs := Aside0.mk hs
  obtain ⟨⟨l, er⟩, hdr⟩ : ∃ r, decRes [] (decAll s) = r := ⟨_, rfl⟩
  replace hdr := Aside0.mk hdr
  go_enter Try.func30, Try.ntmps30
  go_upto_region 1 with fail
  go_cut [4, 5] from 18 (fun v4 v5 wx => v5 = .int .i64 er ∧ RS w l v4 (.slice none 0 0) [] wx)
  case first =>
    as_aux_lemma =>
      go_wp2_with (first
        | (go_at_call 19; (with_reducible refine (rdec_calls s hs.out _).mono ?_); rintro e w5 ⟨v, rfl, hR, hB⟩; rw [hdr.out] at hR ⊢))
      go_meet
      case rel => exact ⟨rfl, hR, Kd.R_nil _ _ _ _ _, hB⟩
  case rest =>
    as_aux_lemma =>
      obtain ⟨rfl, D⟩ := hcut
      replace D := Aside0.mk D
      go_upto_region 2 with fail
      go_cut [34] from 18 (fun v30 wx => v30 = .bool (decide (er ≠ 0 ∨ s.size < 1 ∨ 192 < s.size)) ∧ wc = wx)
      case first =>
        as_aux_lemma =>
          by_cases h1 : er = 0
          · have d1 : (er != 0) = false := by simpa using h1
            by_cases h2 : (s.size : Int) < 1
            · have d2 : decide ((s.size : Int) < 1) = true := decide_eq_true h2
              have h3 := Aside0.mk (show decide (er ≠ 0 ∨ s.size < 1 ∨ 192 < s.size) = true from decide_eq_true (.inr (.inl (by omega))))
              clear h1 h2
              go_wp2
              go_meet
              case rel => exact ⟨by rw [h3.out], rfl⟩
            · have d2 : decide ((s.size : Int) < 1) = false := decide_eq_false h2
              by_cases h4 : 192 < (s.size : Int)
              · have d4 : decide (192 < (s.size : Int)) = true := decide_eq_true h4
                have h3 := Aside0.mk (show decide (er ≠ 0 ∨ s.size < 1 ∨ 192 < s.size) = true from decide_eq_true (.inr (.inr (by omega))))
                clear h1 h2 h4
                go_wp2
                go_meet
                case rel => exact ⟨by rw [h3.out], rfl⟩
              · have d4 : decide (192 < (s.size : Int)) = false := decide_eq_false h4
                have h3 := Aside0.mk (show decide (er ≠ 0 ∨ s.size < 1 ∨ 192 < s.size) = false from decide_eq_false (by omega))
                clear h1 h2 h4
                go_wp2
                go_meet
                case rel => exact ⟨by rw [h3.out], rfl⟩
          · have d1 : (er != 0) = true := by simpa using h1
            have h3 := Aside0.mk (show decide (er ≠ 0 ∨ s.size < 1 ∨ 192 < s.size) = true from decide_eq_true (.inl h1))
            clear h1
            go_wp2
            go_meet
            case rel => exact ⟨by rw [h3.out], rfl⟩
      case rest =>
        as_aux_lemma =>
          obtain ⟨rfl, rfl⟩ := hcut
          by_cases hbad : er ≠ 0 ∨ s.size < 1 ∨ 192 < s.size
          · rw [decide_eq_true hbad]
            have hr : depthsS s = ([], 8) := depths_none (by
              have := hdr.out
              unfold readS
              cases h : decAll s with
              | none => rfl
              | some l' =>
                rw [h] at this
                simp only [decRes, Prod.mk.injEq] at this
                have h0 : er = 0 := this.2.symm
                simp only
                rw [if_pos (by omega)])
            replace hr := Aside0.mk hr
            clear hbad
            go_wp2
            go_ret2
            exact RefPost.no hr.out D.out.bel
          · rw [decide_eq_false hbad]
            have hda : decAll s = some l := by
              have := hdr.out
              cases h : decAll s with
              | none => rw [h] at this; simp only [decRes, Prod.mk.injEq] at this; omega
              | some l' => rw [h] at this; simp only [decRes, Prod.mk.injEq, List.nil_append] at this; rw [this.1]
            have hln := decAll_length hda
            have hlp := decAll_pos hda (by omega)
            have hl192 : l.length ≤ 192 := by omega
            have hsz : ¬ (s.size < 1 ∨ 192 < s.size) := by omega
            replace hsz := Aside0.mk hsz
            have hrng := Aside0.mk (decAll_range hda)
            have hplc := Aside0.mk (show Placed l from fun x hx => by have := decAll_range hda x hx; omega)
            replace hda := Aside0.mk hda
            clear hbad hln
            obtain ⟨A4, c4, rfl⟩ := Kd.R_slice D.out.rl
            have hc4 := Aside0.mk (Kd.R_reads' D.out.rl).2.1
            go_upto_block 0 with fail
            go_cut [6] from 18 (fun v6 wx => okS l = true ∧ RS w l (.slice A4 l.length c4) v6 (List.replicate l.length (-1)) wx)
            case first =>
              as_aux_lemma =>
                go_wp2
                go_loopg [6, 7] l.length (fun k v6 v7 wx => ∃ j : Nat, v7 = .int .i64 j ∧ j + k = l.length ∧ (∀ y ∈ l.take j, okx l y = true) ∧ RS w l (.slice A4 l.length c4) v6 (List.replicate j (-1)) wx)
                case atStart => exact ⟨0, rfl, by omega, by simp, D.out⟩
                case round =>
                  as_aux_lemma =>
                    clear D
                    obtain ⟨j, rfl, hjk, hok, r⟩ := hrel
                    cases gk with
                    | zero =>
                      have ej : j = l.length := by omega
                      subst ej
                      have hlt : ¬ (l.length : Int) < (l.length : Int) := by omega
                      rw [List.take_length] at hok
                      have hok' := Aside0.mk (show okS l = true by rw [okS_all, List.all_eq_true]; exact hok)
                      clear hjk hok
                      go_wp2
                      go_meet
                      case rel => exact ⟨hok'.out, r⟩
                    | succ gk =>
                      have hjl : j < l.length := by omega
                      have hlt : (j : Int) < (l.length : Int) := by omega
                      have hj2 : (j : Int) ≤ 192 := by omega
                      obtain ⟨x, hx⟩ : ∃ x, l[j]? = some x := ⟨_, List.getElem?_eq_getElem hjl⟩
                      have hxm := Aside0.mk (List.mem_of_getElem? hx)
                      have hok2 := Aside0.mk (show okx l x = true → ∀ y ∈ l.take (j + 1), okx l y = true by
                        intro h y hy
                        rw [List.take_succ_eq_append_getElem hjl] at hy
                        rcases List.mem_append.1 hy with hy | hy
                        · exact hok y hy
                        · rw [List.getElem?_eq_getElem hjl] at hx
                          rw [List.mem_singleton.1 hy, Option.some.inj hx]
                          exact h)
                      have hf1 := Aside0.mk (hrng.out x hxm.out)
                      have hl9 := Aside0.mk (show (List.replicate j (-1 : Int)).length < 1000000 by rw [List.length_replicate]; omega)
                      have hb1 := Aside0.mk r.bel.size
                      replace hjk := Aside0.mk hjk
                      replace hx := Aside0.mk hx
                      replace r := Aside0.mk r
                      clear hok
                      go_upto_region 8 with fail
                      go_cut [6] from 35 to 80 (fun v6 wx => RS w l (.slice A4 l.length c4) v6 (List.replicate (j + 1) (-1)) wx)
                      case first =>
                        as_aux_lemma =>
                          go_wp2_with (first
                            | (at_builtin; refine app_i64 rfl (.tmp 41) (.tmp 42) rfl _ _ (-1) rfl rfl rfl r.out.rd r.out.bel (Nat.le_refl _) hb1.out hl9.out ?_; intro v1 w1 j1 j2 j3 j4))
                          go_meet
                          case rel => exact (by rw [List.replicate_succ']; exact r.out.app j1 j2 j3)
                      case rest =>
                        as_aux_lemma =>
                          clear r hb1 hl9
                          obtain ⟨ad, e4, q0, q1, q2, q3⟩ := at_T36 (Kd.R_reads' hcut.rl).2.2 (j : Int) (by omega) (by omega)
                          subst e4
                          rw [rdT_of hx.out] at q0 q1 q2 q3
                          simp only [Int.toNat_natCast] at q0 q1 q2 q3
                          have r := Aside0.mk hcut
                          clear hcut
                          go_upto_region 9 with fail
                          go_cut [8, 9] from 35 to 80 (fun v8 v9 wx => v8 = .int .i64 (tk x) ∧ v9 = .int .i64 (pt x) ∧ RS w l (.slice (some ad) l.length c4) u6 (List.replicate (j + 1) (-1)) wx)
                          case first =>
                            as_aux_lemma =>
                              go_wp2_with (first
                                | (go_at_call 24; (with_reducible refine (rmv_calls x hf1.out.2.2.2.2.1 _).mono ?_); rintro e w5 ⟨rfl, hB⟩))
                              go_meet
                              case rel => exact ⟨rfl, rfl, r.out.below hB⟩
                          case rest =>
                            as_aux_lemma =>
                              clear q0 q1 q2 q3 r
                              obtain ⟨rfl, rfl, r⟩ := hcut
                              obtain ⟨ad', e4, q0, q1, q2, q3⟩ := at_T36 (Kd.R_reads' r.rl).2.2 (j : Int) (by omega) (by omega)
                              cases e4
                              rw [rdT_of hx.out] at q0 q1 q2 q3
                              simp only [Int.toNat_natCast] at q0 q1 q2 q3
                              replace r := Aside0.mk r
                              go_upto_region 10 with fail
                              go_cut [10] from 35 to 80 (fun v10 wx => v10 = .bool (jmp x) ∧ wc = wx)
                              case first =>
                                as_aux_lemma =>
                                  by_cases h1 : x.f0 = 21
                                  · have h2 := Aside0.mk (show jmp x = true by unfold jmp; simp [h1])
                                    have d1 : (x.f0 == 21) = true := by simpa using h1
                                    clear h1
                                    go_wp2
                                    go_meet
                                    case rel => exact ⟨by rw [h2.out], rfl⟩
                                  · have d1 : (x.f0 == 21) = false := by simpa using h1
                                    by_cases h3 : x.f0 = 22
                                    · have h2 := Aside0.mk (show jmp x = true by unfold jmp; simp [h3])
                                      have d3 : (x.f0 == 22) = true := by simpa using h3
                                      clear h1 h3
                                      go_wp2
                                      go_meet
                                      case rel => exact ⟨by rw [h2.out], rfl⟩
                                    · have h2 := Aside0.mk (show jmp x = false by unfold jmp; simp [h1, h3])
                                      have d3 : (x.f0 == 22) = false := by simpa using h3
                                      clear h1 h3
                                      go_wp2
                                      go_meet
                                      case rel => exact ⟨by rw [h2.out], rfl⟩
                              case rest =>
                                as_aux_lemma =>
                                  obtain ⟨rfl, rfl⟩ := hcut
                                  go_upto_region 11 with fail
                                  go_cut [10, 80] from 66 to 80 (fun _ v80 wx => v80 = .bool (!okx l x) ∧ RS w l (.slice (some ad) l.length c4) u6 (List.replicate (j + 1) (-1)) wx)
                                  case first =>
                                    as_aux_lemma =>
                                      have hfc := Aside0.mk (fun (W : World) (hB : Below _ _ W) => find_calls hplc.out (by omega) x.f1 (some ad) c4 W (Kd.C_below (Kd.R_reads' r.out.rl).2.2 hB) hc4.out)
                                      by_cases ht : tk x < 0
                                      · have he := Aside0.mk (show (!okx l x) = true by unfold okx; rw [decide_eq_false (by omega)]; rfl)
                                        have d1 : decide (tk x < 0) = true := decide_eq_true ht
                                        clear ht
                                        go_wp2
                                        go_meet
                                        case rel => exact ⟨by rw [he.out], r.out⟩
                                      · have d1 : decide (tk x < 0) = false := decide_eq_false ht
                                        have hox := Aside0.mk (show okx l x = (!jmp x || (findS l x.f1).isSome) by unfold okx; rw [decide_eq_true (by omega)]; simp)
                                        clear ht
                                        cases hj : jmp x with
                                        | false =>
                                          have he := Aside0.mk (show (!okx l x) = false by rw [hox.out, hj]; rfl)
                                          replace hj := Aside0.mk hj
                                          go_wp2
                                          go_meet
                                          case rel => exact ⟨by rw [he.out], r.out⟩
                                        | true =>
                                          cases hs1 : (findS l x.f1).isSome with
                                          | false =>
                                            have he := Aside0.mk (show (!okx l x) = true by rw [hox.out, hj, hs1]; rfl)
                                            have d3 : decide (findI l x.f1 < 0) = true := decide_eq_true (findI_neg.2 hs1)
                                            replace hj := Aside0.mk hj
                                            replace hs1 := Aside0.mk hs1
                                            go_wp2_with (first
                                              | (go_at_call 44; (with_reducible refine (hfc.out _ (Below.refl _ _)).mono ?_); rintro e w5 ⟨rfl, hB⟩))
                                            go_meet
                                            case rel => exact ⟨by rw [he.out], r.out.below hB⟩
                                          | true =>
                                            have he := Aside0.mk (show (!okx l x) = false by rw [hox.out, hj, hs1]; rfl)
                                            have d3 : decide (findI l x.f1 < 0) = false := decide_eq_false (fun h => by rw [findI_neg.1 h] at hs1; cases hs1)
                                            replace hj := Aside0.mk hj
                                            replace hs1 := Aside0.mk hs1
                                            go_wp2_with (first
                                              | (go_at_call 44; (with_reducible refine (hfc.out _ (Below.refl _ _)).mono ?_); rintro e w5 ⟨rfl, hB⟩))
                                            go_meet
                                            case rel => exact ⟨by rw [he.out], r.out.below hB⟩
                                  case rest =>
                                    as_aux_lemma =>
                                      clear q0 q1 q2 q3 r
                                      obtain ⟨rfl, r⟩ := hcut
                                      replace r := Aside0.mk r
                                      cases hb : okx l x with
                                      | false =>
                                        have hr := Aside0.mk (depths_none (readS_bad hda.out hsz.out hxm.out hb))
                                        replace hb := Aside0.mk hb
                                        go_wp2
                                        go_ret2
                                        exact RefPost.no hr.out r.out.bel
                                      | true =>
                                        replace hb := Aside0.mk hb
                                        go_wp2
                                        go_roundg gk
                                        case measure => omega
                                        case rel => exact ⟨j + 1, by go_num, by have := hjk.out; omega, hok2.out hb.out, r.out⟩
            case rest =>
              as_aux_lemma =>
                obtain ⟨hok, r⟩ := hcut
                obtain ⟨g6, c6, rfl, hg6, hc6, -⟩ := R_own0 r.rd (by rw [List.length_replicate]; exact hlp)
                rw [List.length_replicate] at r hc6
                obtain ⟨y0, f0⟩ := R_cell r.rd (i := 0) (by rw [List.length_replicate]; exact hlp)
                have r0 := Aside0.mk (r.set 0 0)
                have hlp' : (0 : Int) < (l.length : Int) := by omega
                replace hok := Aside0.mk hok
                clear r D
                rw [List.length_replicate]
                go_upto_block 2 with fail
                have inv0 := Aside0.mk (show LookInv l [] (Core.start l) from ⟨(start_inv hlp).len, (start_inv hlp).sound, (start_inv hlp).neg, (start_inv hlp).zero, by simp⟩)
                have neg0 := Aside0.mk (show negs (Core.start l) < l.length + 2 from by
                  have : negs (Core.start l) ≤ (Core.start l).length := List.countP_le_length
                  have e : (Core.start l).length = l.length := by simp [Core.start]
                  omega)
                replace r0 := Aside0.mk (show RS w l (.slice A4 l.length c4) (.slice (some ⟨g6, 0, none⟩) l.length c6) (Core.start l) _ from r0.out)
                generalize (World.setCell _ ⟨g6, 0, none⟩ (.int .i64 0)) = W1 at *
                clear y0 f0
                go_cut [] from 83 (fun wx => ∃ ds, RS w l (.slice A4 l.length c4) (.slice (some ⟨g6, 0, none⟩) l.length c6) ds wx ∧ Right l (some ds))
                case first =>
                  as_aux_lemma =>
                    go_wp2
                    go_loopg [11] (l.length + 2) (fun k v11 wx => ∃ (ds : List Int) (m : Bool), v11 = .bool m ∧ RS w l (.slice A4 l.length c4) (.slice (some ⟨g6, 0, none⟩) l.length c6) ds wx ∧ LookInv l [] ds ∧ (m = false → ∀ j, Closed l ds j) ∧ (m = true → negs ds < k))
                    case atStart => exact ⟨Core.start l, true, rfl, r0.out, inv0.out, by simp, fun _ => neg0.out⟩
                    case round =>
                      as_aux_lemma =>
                        clear r0 inv0 neg0
                        obtain ⟨ds, m, rfl, r, inv, hcl, hng⟩ := hrel
                        cases m with
                        | false =>
                          have hR := Aside0.mk (show Right l (some ds) from by
                            have hc := hcl rfl
                            have F : Core.Found l ds := ⟨inv.len, inv.sound, inv.neg, closed_all inv.zero (fun i d x h h0 hx => hc i d x h h0 hx) hok.out⟩
                            exact .yes F (F.not_bad (fun i d x h h0 hx => (hc i d x h h0 hx).1) (fun i d h => (Reach_range hok.out h).1)))
                          replace r := Aside0.mk r
                          clear hcl hng
                          go_wp2
                          go_meet
                          case rel => exact ⟨ds, r.out, hR.out⟩
                        | true =>
                          cases gk with
                          | zero => exact absurd (hng rfl) (by omega)
                          | succ gk1 =>
                            have hspec := sweepR_spec hok.out l.length 0 ds false (by omega) inv
                            obtain ⟨V, hV⟩ : ∃ V, sweepR l l.length 0 ds false = V := ⟨_, rfl⟩
                            rw [hV] at hspec
                            have hnone := Aside0.mk (show V = none → depthsS s = ([], 8) from fun e => by
                              rcases hspec with ⟨_, hB⟩ | ⟨ds', m', e', _⟩
                              · rw [depths_right hda.out hsz.out hok.out (.no hB)]; rfl
                              · rw [e] at e'; cases e')
                            have hend := Aside0.mk (show ∀ ds' m', V = some (ds', m') → LookInv l [] ds' ∧ (m' = false → ∀ j, Closed l ds' j) ∧ (m' = true → negs ds' < gk1) from fun ds' m' hVe => by
                              have hng' := hng rfl
                              rcases hspec with ⟨e, _⟩ | ⟨ds2, m2, e, h1, h2, h3, h4⟩
                              · rw [hVe] at e; cases e
                              · rw [hVe] at e
                                cases e
                                refine ⟨h1, fun e => ?_, fun e => ?_⟩
                                · obtain ⟨_, e1, h⟩ := h2 e
                                  subst e1
                                  exact fun j => h j (Nat.zero_le _)
                                · rcases h4 e with h | h
                                  · cases h
                                  · omega)
                            replace hV := Aside0.mk hV
                            replace r := Aside0.mk r
                            replace inv := Aside0.mk inv
                            clear hcl hng hspec
                            go_upto_block 4 with fail
                            go_wp2
                            go_loopg [11, 12] l.length (PSw w l (.slice A4 l.length c4) g6 c6 V)
                            case atStart => exact ⟨0, ds, false, rfl, by omega, rfl, r.out, inv.out, hV.out⟩
                            case round =>
                              as_aux_lemma =>
                                clear r inv hV
                                obtain ⟨i, ds, m, rfl, hik, rfl, r, inv, hsw⟩ := hrel
                                cases gk with
                                | zero =>
                                  have ei : i = l.length := by omega
                                  subst ei
                                  rw [sweepR] at hsw
                                  have hlt : ¬ (l.length : Int) < (l.length : Int) := by omega
                                  obtain ⟨i1, i2, i3⟩ := hend.out ds m hsw.symm
                                  replace r := Aside0.mk r
                                  replace i1 := Aside0.mk i1
                                  replace i2 := Aside0.mk i2
                                  replace i3 := Aside0.mk i3
                                  clear hsw hik inv
                                  go_wp2
                                  go_roundg gk1
                                  case measure => omega
                                  case rel => exact ⟨ds, m, rfl, r.out, i1.out, i2.out, i3.out⟩
                                | succ gk2 =>
                                  have hil : i < l.length := by omega
                                  have hlt : (i : Int) < (l.length : Int) := by omega
                                  have hi2 : (i : Int) ≤ 192 := by omega
                                  have hid : i < ds.length := by rw [inv.len]; exact hil
                                  obtain ⟨x, hx⟩ : ∃ x, l[i]? = some x := ⟨_, List.getElem?_eq_getElem hil⟩
                                  rw [sweepR, rdT_of hx] at hsw
                                  obtain ⟨y0, -⟩ := R_cell r.rd hid
                                  have hg0 := rd_get hid
                                  obtain ⟨e0, he0⟩ : ∃ e0, rd ds (i : Int) = e0 := ⟨_, rfl⟩
                                  rw [he0] at y0 hsw hg0
                                  replace he0 := Aside0.mk he0
                                  have he0' := he0
                                  replace hg0 := Aside0.mk hg0
                                  replace hx := Aside0.mk hx
                                  replace hik := Aside0.mk hik
                                  replace r := Aside0.mk r
                                  replace inv := Aside0.mk inv
                                  go_upto_region 20 with fail
                                  by_cases hneg : e0 < 0
                                  · rw [if_pos hneg] at hsw
                                    replace hsw := Aside0.mk hsw
                                    go_wp2
                                    go_roundg gk2
                                    case measure => omega
                                    case rel => exact ⟨i + 1, ds, m, by go_num, by have := hik.out; omega, rfl, r.out, inv.out, hsw.out⟩
                                  · rw [if_neg hneg] at hsw
                                    replace hsw := Aside0.mk hsw
                                    go_upto_region 21 with fail
                                    have hxm := Aside0.mk (List.mem_of_getElem? hx.out)
                                    have hf1 := Aside0.mk (hrng.out x hxm.out)
                                    have hR0 := Aside0.mk (inv.out.sound i e0 hg0.out (by omega))
                                    have he32 : e0 ≤ 32 := (Reach_range hok.out hR0.out).2
                                    have t1 := tk_le (x := x)
                                    have t2 := okS_tk hok.out hx.out
                                    have t3 := pt_le (x := x)
                                    have t4 := pt_ge (x := x)
                                    obtain ⟨ad, e4, q0, q1, q2, q3⟩ := at_T36 (Kd.R_reads' r.out.rl).2.2 (i : Int) (by omega) (by omega)
                                    subst e4
                                    rw [rdT_of hx.out] at q0 q1 q2 q3
                                    simp only [Int.toNat_natCast] at q0 q1 q2 q3
                                    go_cut [13, 14] from 84 to 208 (fun v13 v14 wx => v13 = .int .i64 (tk x) ∧ v14 = .int .i64 (pt x) ∧ RS w l (.slice (some ad) l.length c4) (.slice (some ⟨g6, 0, none⟩) l.length c6) ds wx)
                                    case first =>
                                      as_aux_lemma =>
                                        go_wp2_with (first
                                          | (go_at_call 24; (with_reducible refine (rmv_calls x hf1.out.2.2.2.2.1 _).mono ?_); rintro e w5 ⟨rfl, hB⟩))
                                        go_meet
                                        case rel => exact ⟨rfl, rfl, r.out.below hB⟩
                                    case rest =>
                                      as_aux_lemma =>
                                        clear q0 q1 q2 q3 r y0
                                        obtain ⟨rfl, rfl, r⟩ := hcut
                                        have hid' : i < ds.length := by rw [inv.out.len]; exact hil
                                        obtain ⟨y0, -⟩ := R_cell r.rd hid'
                                        rw [he0.out] at y0
                                        replace r := Aside0.mk r
                                        go_upto_region 22 with fail
                                        go_cut [119] from 84 to 208 (fun v119 wx => v119 = .bool (decide (e0 < tk x ∨ 32 < e0 - tk x + pt x)) ∧ wc = wx)
                                        case first =>
                                          as_aux_lemma =>
                                            by_cases h1 : e0 < tk x
                                            · have h2 := Aside0.mk (show decide (e0 < tk x ∨ 32 < e0 - tk x + pt x) = true from decide_eq_true (.inl h1))
                                              have d1 : decide (e0 < tk x) = true := by simpa using h1
                                              go_wp2
                                              go_meet
                                              case rel => exact ⟨by rw [h2.out], rfl⟩
                                            · by_cases h3 : 32 < e0 - tk x + pt x
                                              · have h2 := Aside0.mk (show decide (e0 < tk x ∨ 32 < e0 - tk x + pt x) = true from decide_eq_true (.inr h3))
                                                have d1 : decide (e0 < tk x) = false := by simpa using h1
                                                have d3 : decide (32 < e0 - tk x + pt x) = true := by simpa using h3
                                                go_wp2
                                                go_meet
                                                case rel => exact ⟨by rw [h2.out], rfl⟩
                                              · have h2 := Aside0.mk (show decide (e0 < tk x ∨ 32 < e0 - tk x + pt x) = false from decide_eq_false (by omega))
                                                have d1 : decide (e0 < tk x) = false := by simpa using h1
                                                have d3 : decide (32 < e0 - tk x + pt x) = false := by simpa using h3
                                                go_wp2
                                                go_meet
                                                case rel => exact ⟨by rw [h2.out], rfl⟩
                                        case rest =>
                                          as_aux_lemma =>
                                            obtain ⟨rfl, rfl⟩ := hcut
                                            clear y0
                                            by_cases hbad : e0 < tk x ∨ 32 < e0 - tk x + pt x
                                            · rw [decide_eq_true hbad]
                                              have hr' := Aside0.mk (hnone.out (by have h := hsw.out; rw [if_pos hbad] at h; exact h.symm))
                                              clear hbad
                                              go_wp2
                                              go_ret2
                                              exact RefPost.no hr'.out r.out.bel
                                            · rw [decide_eq_false hbad]
                                              have hsw2 := hsw.out
                                              rw [if_neg hbad] at hsw2
                                              have hb1 : tk x ≤ e0 := by omega
                                              have hb2 : e0 - tk x + pt x ≤ 32 := by omega
                                              have hdd0 : 0 ≤ e0 - tk x + pt x := by
                                                have := pt_nonneg t2
                                                omega
                                              have hst := Aside0.mk (show ∀ j ∈ succs l i x, Core.Reach l j (e0 - tk x + pt x) from fun j hj => Core.Reach.step hR0.out hx.out hb1 hb2 hj)
                                              replace hsw2 := Aside0.mk hsw2
                                              clear hsw hbad t1
                                              go_upto_region 24 with fail
                                              go_cut [15] from 84 to 208 (RT w l (.slice (some ad) l.length c4) g6 l.length c6 ds [])
                                              case first =>
                                                as_aux_lemma =>
                                                  go_wp2
                                                  go_meet
                                                  case rel => exact ⟨r.out, Kd.R_nil _ _ _ _ _, fun k hk => by simp [Value.ownBlock] at hk⟩
                                              case rest =>
                                                as_aux_lemma =>
                                                  clear r
                                                  obtain ⟨ad', e4, q0, q1, q2, q3⟩ := at_T36 (Kd.R_reads' hcut.rs.rl).2.2 (i : Int) (by omega) (by omega)
                                                  cases e4
                                                  rw [rdT_of hx.out] at q0 q1 q2 q3
                                                  simp only [Int.toNat_natCast] at q0 q1 q2 q3
                                                  have T0 := Aside0.mk hcut
                                                  clear hcut
                                                  go_upto_region 25 with fail
                                                  go_cut [125] from 84 to 208 (fun v125 wx => v125 = .bool (x.f0 != 21) ∧ wc = wx)
                                                  case first =>
                                                    as_aux_lemma =>
                                                      go_wp2
                                                      go_meet
                                                      case rel => exact ⟨rfl, rfl⟩
                                                  case rest =>
                                                    as_aux_lemma =>
                                                      obtain ⟨rfl, rfl⟩ := hcut
                                                      go_upto_if 125 with fail
                                                      go_cut [15] from 84 to 208 (fun v15 wx => ¬ (x.f0 ≠ 21 ∧ i + 1 = l.length) ∧ RT w l (.slice (some ad) l.length c4) g6 l.length c6 ds (if x.f0 = 21 then [] else [(i : Int) + 1]) v15 wx)
                                                      case first =>
                                                        as_aux_lemma =>
                                                          by_cases h21 : x.f0 = 21
                                                          · have d1 : (x.f0 != 21) = false := by simpa using h21
                                                            replace h21 := Aside0.mk h21
                                                            go_wp2
                                                            go_meet
                                                            case rel => exact ⟨fun h => h.1 h21.out, by rw [if_pos h21.out]; exact T0.out⟩
                                                          · have d1 : (x.f0 != 21) = true := by simpa using h21
                                                            replace h21 := Aside0.mk h21
                                                            by_cases hen : i + 1 = l.length
                                                            · have d3 : ((i : Int) + 1 == (l.length : Int)) = true := by simp; omega
                                                              have hr' := Aside0.mk (hnone.out (by have h := hsw2.out; rw [if_pos ⟨h21.out, hen⟩] at h; exact h.symm))
                                                              replace hen := Aside0.mk hen
                                                              go_wp2
                                                              go_ret2
                                                              exact RefPost.no hr'.out T0.out.rs.bel
                                                            · have d3 : ((i : Int) + 1 == (l.length : Int)) = false := by simp; omega
                                                              have hsz2 := Aside0.mk T0.out.rs.bel.size
                                                              replace hen := Aside0.mk hen
                                                              go_wp2_with (first
                                                                | (at_builtin; refine app_i64 rfl (.tmp 131) (.tmp 134) rfl _ [] _ rfl rfl rfl T0.out.rt T0.out.rs.bel (Nat.le_refl _) hsz2.out (of_decide_eq_true rfl) ?_; intro v1 w1 j1 j2 j3 j4))
                                                              go_meet
                                                              case rel => exact ⟨fun h => hen.out h.2, by rw [if_neg h21.out]; exact T0.out.app j1 j2 j3 j4⟩
                                                      case rest =>
                                                        as_aux_lemma =>
                                                          clear q0 q1 q2 q3 T0
                                                          obtain ⟨hne, T0⟩ := hcut
                                                          have hsw3 := hsw2.out
                                                          rw [if_neg hne] at hsw3
                                                          replace hne := Aside0.mk hne
                                                          replace hsw3 := Aside0.mk hsw3
                                                          obtain ⟨ad', e4, q0, q1, q2, q3⟩ := at_T36 (Kd.R_reads' T0.rs.rl).2.2 (i : Int) (by omega) (by omega)
                                                          cases e4
                                                          rw [rdT_of hx.out] at q0 q1 q2 q3
                                                          simp only [Int.toNat_natCast] at q0 q1 q2 q3
                                                          replace T0 := Aside0.mk T0
                                                          clear hsw2
                                                          go_upto_region 29 with fail
                                                          go_cut [149] from 84 to 208 (fun v149 wx => v149 = .bool (jmp x) ∧ wc = wx)
                                                          case first =>
                                                            as_aux_lemma =>
                                                              by_cases h1 : x.f0 = 21
                                                              · have h2 := Aside0.mk (show jmp x = true by unfold jmp; simp [h1])
                                                                have d1 : (x.f0 == 21) = true := by simpa using h1
                                                                clear h1
                                                                go_wp2
                                                                go_meet
                                                                case rel => exact ⟨by rw [h2.out], rfl⟩
                                                              · have d1 : (x.f0 == 21) = false := by simpa using h1
                                                                by_cases h3 : x.f0 = 22
                                                                · have h2 := Aside0.mk (show jmp x = true by unfold jmp; simp [h3])
                                                                  have d3 : (x.f0 == 22) = true := by simpa using h3
                                                                  clear h1 h3
                                                                  go_wp2
                                                                  go_meet
                                                                  case rel => exact ⟨by rw [h2.out], rfl⟩
                                                                · have h2 := Aside0.mk (show jmp x = false by unfold jmp; simp [h1, h3])
                                                                  have d3 : (x.f0 == 22) = false := by simpa using h3
                                                                  clear h1 h3
                                                                  go_wp2
                                                                  go_meet
                                                                  case rel => exact ⟨by rw [h2.out], rfl⟩
                                                          case rest =>
                                                            as_aux_lemma =>
                                                              obtain ⟨rfl, rfl⟩ := hcut
                                                              go_upto_if 149 with fail
                                                              go_cut [15] from 84 to 208 (RT w l (.slice (some ad) l.length c4) g6 l.length c6 ds (toR l i x))
                                                              case first =>
                                                                as_aux_lemma =>
                                                                  cases hj : jmp x with
                                                                  | false =>
                                                                    have et := Aside0.mk (show toR l i x = (if x.f0 = 21 then [] else [(i : Int) + 1]) by unfold toR; rw [hj]; simp)
                                                                    replace hj := Aside0.mk hj
                                                                    go_wp2
                                                                    go_meet
                                                                    case rel => exact (by rw [et.out]; exact T0.out)
                                                                  | true =>
                                                                    have hso : (findS l x.f1).isSome = true := by
                                                                      obtain ⟨k, hk⟩ := okS_jmp hok.out hx.out hj
                                                                      rw [hk]; rfl
                                                                    have et := Aside0.mk (show toR l i x = (if x.f0 = 21 then [] else [(i : Int) + 1]) ++ [findI l x.f1] by unfold toR; rw [hj, findI_some hso]; simp)
                                                                    have hfc := Aside0.mk (find_calls hplc.out (by omega) x.f1 (some ad) c4 _ (Kd.R_reads' T0.out.rs.rl).2.2 hc4.out)
                                                                    have hlen9 := Aside0.mk (show (if x.f0 = 21 then [] else [(i : Int) + 1]).length < 1000000 by split <;> simp)
                                                                    replace hj := Aside0.mk hj
                                                                    clear hso
                                                                    go_wp2_with (first
                                                                      | (go_at_call 44; (with_reducible refine hfc.out.mono ?_); rintro e w5 ⟨rfl, hB⟩; have T1 := Aside0.mk (T0.out.below hB); have hsz2 := Aside0.mk T1.out.rs.bel.size; clear hB)
                                                                      | (at_builtin; refine app_i64 rfl (.tmp 150) (.tmp 158) rfl _ _ _ rfl rfl rfl T1.out.rt T1.out.rs.bel (Nat.le_refl _) hsz2.out hlen9.out ?_; intro v1 w1 j1 j2 j3 j4))
                                                                    go_meet
                                                                    case rel => exact (by rw [et.out]; exact T1.out.app j1 j2 j3 j4)
                                                              case rest =>
                                                                as_aux_lemma =>
                                                                  clear q0 q1 q2 q3 T0
                                                                  have T0 := Aside0.mk hcut
                                                                  clear hcut
                                                                  obtain ⟨A15, c15, e15⟩ := Kd.R_slice T0.out.rt
                                                                  subst e15
                                                                  have hlt' : ∀ j ∈ succs l i x, j < l.length := by
                                                                    intro j hj
                                                                    have hle := succs_le hx.out hj
                                                                    by_cases hjl : j = l.length
                                                                    · exfalso
                                                                      unfold succs at hj
                                                                      rcases List.mem_append.1 hj with h | h
                                                                      · split at h
                                                                        · rename_i hjx
                                                                          obtain ⟨k, hk⟩ := okS_jmp hok.out hx.out hjx
                                                                          rw [hk] at h
                                                                          simp at h
                                                                          have := findS_lt hk
                                                                          omega
                                                                        · simp at h
                                                                      · split at h
                                                                        · simp at h
                                                                        · rename_i h21
                                                                          simp at h
                                                                          exact hne.out ⟨h21, by omega⟩
                                                                    · omega
                                                                  have hts : ∀ k ∈ toR l i x, 0 ≤ k ∧ k < (l.length : Int) := fun k hk => by
                                                                    obtain ⟨j, rfl, hj⟩ := toR_succs k hk
                                                                    have := hlt' j hj
                                                                    omega
                                                                  have hspec := visitR_spec (n := i) hdd0 hst.out hlt' (toR l i x) ds m toR_succs inv.out
                                                                  have hspec2 : ∀ ds' m', visitR (e0 - tk x + pt x) (toR l i x) ds m = some (ds', m') → LookInv l [] ds' := fun ds' m' e => by
                                                                    rcases hspec with ⟨e1, _⟩ | ⟨ds1, m1, e1, i1, _⟩
                                                                    · rw [e] at e1; cases e1
                                                                    · rw [e] at e1; cases e1; exact i1
                                                                  have htl : (toR l i x).length ≤ 2 := by unfold toR; split <;> split <;> simp
                                                                  have hsw4 := hsw3.out
                                                                  have hel := inv.out.len
                                                                  clear hspec hlt' hsw3 hst
                                                                  generalize toR l i x = tl at *
                                                                  generalize hdd : e0 - tk x + pt x = dd at *
                                                                  obtain ⟨V2, hV2⟩ : ∃ V2, visitR dd tl ds m = V2 := ⟨_, rfl⟩
                                                                  rw [hV2] at hsw4 hspec2
                                                                  replace hdd := Aside0.mk hdd
                                                                  replace hsw4 := Aside0.mk hsw4
                                                                  replace hspec2 := Aside0.mk hspec2
                                                                  replace hV2 := Aside0.mk hV2
                                                                  replace hts := Aside0.mk hts
                                                                  have hnone2 := Aside0.mk (show V2 = none → depthsS s = ([], 8) from fun e => hnone.out (by have h := hsw4.out; rw [e] at h; exact h.symm))
                                                                  have he0p := Aside0.mk (show 0 ≤ e0 by omega)
                                                                  clear hb1 hb2 hneg
                                                                  go_upto_block 6 with fail
                                                                  go_wp2
                                                                  go_loopg [11, 16] tl.length (PVi w l (.slice (some ad) l.length c4) g6 c6 i e0 dd tl (.slice A15 tl.length c15) V2)
                                                                  case atStart => exact ⟨0, ds, m, rfl, by omega, rfl, T0.out, hel, he0'.out, hV2.out⟩
                                                                  case round =>
                                                                    as_aux_lemma =>
                                                                      clear T0 hV2 he0' hel
                                                                      obtain ⟨j, ds1, m1, rfl, hjk, rfl, T, hel, hei, hvi⟩ := hrel
                                                                      cases gk with
                                                                      | zero =>
                                                                        have ej : j = tl.length := by omega
                                                                        subst ej
                                                                        rw [List.drop_length, visitR] at hvi
                                                                        subst hvi
                                                                        have inv' := Aside0.mk (hspec2.out ds1 m1 rfl)
                                                                        have hltj : ¬ (tl.length : Int) < (tl.length : Int) := by omega
                                                                        replace T := Aside0.mk T
                                                                        clear hei hjk
                                                                        go_wp2
                                                                        go_roundg gk2
                                                                        case measure => omega
                                                                        case rel => exact ⟨i + 1, ds1, m1, by go_num, by have := hik.out; omega, rfl, T.out.rs, inv'.out, hsw4.out⟩
                                                                      | succ gk =>
                                                                        have hjl : j < tl.length := by omega
                                                                        have hltj : (j : Int) < (tl.length : Int) := by omega
                                                                        obtain ⟨k, hk⟩ : ∃ k, tl[j]? = some k := ⟨_, List.getElem?_eq_getElem hjl⟩
                                                                        have hdr : tl.drop j = k :: tl.drop (j + 1) := by
                                                                          rw [List.drop_eq_getElem_cons hjl]
                                                                          rw [List.getElem?_eq_getElem hjl] at hk
                                                                          rw [Option.some.inj hk]
                                                                        have hkb := hts.out k (List.mem_of_getElem? hk)
                                                                        obtain ⟨kn, rfl⟩ := Int.eq_ofNat_of_zero_le hkb.1
                                                                        have en : ((kn : Int)).toNat = kn := by simp
                                                                        rw [hdr, visitR, en] at hvi
                                                                        obtain ⟨g15, c15', e15, -, -, -⟩ := R_own0 T.rt (by omega)
                                                                        obtain ⟨rfl, rfl⟩ : A15 = some ⟨g15, 0, none⟩ ∧ c15 = c15' := by
                                                                          injection e15 with a b c
                                                                          exact ⟨a, c⟩
                                                                        obtain ⟨y0, -⟩ := R_cell T.rt (i := j) hjl
                                                                        rw [rd_of hk] at y0
                                                                        have hkl : kn < ds1.length := by omega
                                                                        have hil1 : i < ds1.length := by omega
                                                                        have hkl' : (kn : Int) < (l.length : Int) := hkb.2
                                                                        replace hjk := Aside0.mk hjk
                                                                        replace hdr := Aside0.mk hdr
                                                                        replace hk := Aside0.mk hk
                                                                        have hj2 : (j : Int) ≤ 2 := by omega
                                                                        replace T := Aside0.mk T
                                                                        clear e15 en hkb
                                                                        go_upto_region 34 with fail
                                                                        go_cut [17] from 160 to 208 (fun v17 wx => v17 = .int .i64 (kn : Int) ∧ wr = wx)
                                                                        case first =>
                                                                          as_aux_lemma =>
                                                                            go_wp2
                                                                            go_meet
                                                                            case rel => exact ⟨rfl, rfl⟩
                                                                        case rest =>
                                                                          as_aux_lemma =>
                                                                            obtain ⟨rfl, rfl⟩ := hcut
                                                                            clear y0
                                                                            obtain ⟨y0, f0⟩ := R_cell T.out.rs.rd (i := kn) hkl
                                                                            obtain ⟨y1, -⟩ := R_cell T.out.rs.rd (i := i) hil1
                                                                            rw [hei] at y1
                                                                            obtain ⟨e, he⟩ : ∃ e, rd ds1 (kn : Int) = e := ⟨_, rfl⟩
                                                                            rw [he] at hvi y0
                                                                            have hei2 := Aside0.mk (show (e ≥ 0 → e = dd) → rd (ds1.set kn dd) (i : Int) = e0 from fun h => by
                                                                              by_cases hki : kn = i
                                                                              · subst hki
                                                                                rw [he] at hei
                                                                                rw [rd_of (List.getElem?_set_self hkl), ← h (by have := he0p.out; omega), hei]
                                                                              · rw [← hei]
                                                                                unfold rd
                                                                                simp [List.getD, List.getElem?_set_ne hki])
                                                                            replace he := Aside0.mk he
                                                                            replace hei := Aside0.mk hei
                                                                            have hddv : e0 - tk x + pt x = dd := hdd.out
                                                                            go_upto_region 35 with fail
                                                                            go_cut [189] from 160 to 208 (fun v189 wx => v189 = .bool (decide (0 ≤ e ∧ e ≠ dd)) ∧ RT w l (.slice (some ad) l.length c4) g6 l.length c6 ds1 tl (.slice (some ⟨g15, 0, none⟩) tl.length c15) wx)
                                                                            case first =>
                                                                              as_aux_lemma =>
                                                                                by_cases h1 : 0 ≤ e
                                                                                · have d1 : decide (0 ≤ e) = true := decide_eq_true h1
                                                                                  by_cases h2 : e = dd
                                                                                  · have d2 : (e != dd) = false := by simpa using h2
                                                                                    have h3 := Aside0.mk (show decide (0 ≤ e ∧ e ≠ dd) = false from decide_eq_false (fun h => h.2 h2))
                                                                                    replace h2 := Aside0.mk h2
                                                                                    go_quiet (fail)
                                                                                    go_wp2
                                                                                    go_meet
                                                                                    case rel => exact ⟨by rw [h3.out], T.out.below (pw_below_drewN (Below.refl _ _) _)⟩
                                                                                  · have d2 : (e != dd) = true := by simpa using h2
                                                                                    have h3 := Aside0.mk (show decide (0 ≤ e ∧ e ≠ dd) = true from decide_eq_true ⟨h1, h2⟩)
                                                                                    replace h2 := Aside0.mk h2
                                                                                    go_quiet (fail)
                                                                                    go_wp2
                                                                                    go_meet
                                                                                    case rel => exact ⟨by rw [h3.out], T.out.below (pw_below_drewN (Below.refl _ _) _)⟩
                                                                                · have d1 : decide (0 ≤ e) = false := decide_eq_false h1
                                                                                  have h3 := Aside0.mk (show decide (0 ≤ e ∧ e ≠ dd) = false from decide_eq_false (fun h => h1 h.1))
                                                                                  go_quiet (fail)
                                                                                  go_wp2
                                                                                  go_meet
                                                                                  case rel => exact ⟨by rw [h3.out], T.out.below (pw_below_drewN (Below.refl _ _) _)⟩
                                                                            case rest =>
                                                                              as_aux_lemma =>
                                                                                clear y0 f0 y1 T
                                                                                obtain ⟨rfl, T⟩ := hcut
                                                                                replace T := Aside0.mk T
                                                                                by_cases hbad : 0 ≤ e ∧ e ≠ dd
                                                                                · rw [decide_eq_true hbad]
                                                                                  have hr' := Aside0.mk (hnone2.out (by have h := hvi; rw [if_pos hbad.1, if_neg hbad.2] at h; exact h.symm))
                                                                                  clear hbad hvi
                                                                                  go_wp2
                                                                                  go_ret2
                                                                                  exact RefPost.no hr'.out T.out.rs.bel
                                                                                · rw [decide_eq_false hbad]
                                                                                  have hvi2 := Aside0.mk (show visitR dd (tl.drop (j + 1)) (ds1.set kn dd) (m1 || decide (e < 0)) = V2 by
                                                                                    by_cases h1 : e ≥ 0
                                                                                    · have h2 : e = dd := Classical.not_not.1 (fun h => hbad ⟨h1, h⟩)
                                                                                      rw [if_pos h1, if_pos h2] at hvi
                                                                                      rw [decide_eq_false (by omega), Bool.or_false]
                                                                                      exact hvi
                                                                                    · rw [if_neg h1] at hvi
                                                                                      rw [decide_eq_true (by omega), Bool.or_true]
                                                                                      exact hvi)
                                                                                  have hei3 := Aside0.mk (hei2.out (fun h1 => Classical.not_not.1 (fun h => hbad ⟨h1, h⟩)))
                                                                                  clear hbad hvi
                                                                                  obtain ⟨y0, f0⟩ := R_cell T.out.rs.rd (i := kn) hkl
                                                                                  obtain ⟨y1, -⟩ := R_cell T.out.rs.rd (i := i) hil1
                                                                                  rw [he.out] at y0
                                                                                  rw [hei.out] at y1
                                                                                  go_upto_region 37 with fail
                                                                                  go_cut [11] from 160 to 208 (fun v11 wx => v11 = .bool (m1 || decide (e < 0)) ∧ wc = wx)
                                                                                  case first =>
                                                                                    as_aux_lemma =>
                                                                                      cases m1 with
                                                                                      | true =>
                                                                                        go_wp2
                                                                                        go_meet
                                                                                        case rel => exact ⟨by simp, rfl⟩
                                                                                      | false =>
                                                                                        go_wp2
                                                                                        go_meet
                                                                                        case rel => exact ⟨by simp, rfl⟩
                                                                                  case rest =>
                                                                                    as_aux_lemma =>
                                                                                      obtain ⟨rfl, rfl⟩ := hcut
                                                                                      have T2 := Aside0.mk (T.out.set kn dd)
                                                                                      have hel2 := Aside0.mk (show (ds1.set kn dd).length = l.length by rw [List.length_set]; exact hel)
                                                                                      clear hel
                                                                                      go_wp2
                                                                                      go_roundg gk
                                                                                      case measure => omega
                                                                                      case rel => exact ⟨j + 1, ds1.set kn dd, _, by go_num, by have := hjk.out; omega, rfl, T2.out, hel2.out, hei3.out, hvi2.out⟩
                case rest =>
                  as_aux_lemma =>
                    obtain ⟨ds, r, hR⟩ := hcut
                    have hres := Aside0.mk (show depthsS s = (ds, 0) by rw [depths_right hda.out hsz.out hok.out hR]; rfl)
                    replace r := Aside0.mk r
                    go_wp2
                    go_ret2
                    refine ⟨_, by rw [hres.out]; rfl, ?_, r.out.bel⟩
                    rw [hres.out]
                    exact r.out.rd
end Go.Proofs.Ytjbpljcfogekhaa.Q
namespace Go.Proofs.Ytjbpljcfogekhaa.Q
open Go.RowKit Go.Proofs.Ytjbpljcfogekhaa.Core Go.Proofs.YtjbpljcfogekhaaW.PrintWords Go.Proofs.YtjbpljcfogekhaaW.PrintLast Go.Proofs.YtjbpljcfogekhaaW.PrintMore
def janusref06_Depths.f (_ : Nat) (a0 : ByteArray) : Option (List Int × Int) := if a0.size ≤ 4398046511104 then some (depthsS a0) else none
theorem janusref06_Depths.calls (k : Nat) (a0 : ByteArray) (r1 : List Int) (r2 : Int) (w : World) (h : janusref06_Depths.f k a0 = some (r1, r2)) :
    Calls Try.prog 30 #[.string a0] w fun e w' => ∃ v0_ : Value, e = .returned (.tuple #[v0_, .int .i64 r2]) ∧ Kd.R (Kd.int .i64) 3 w' w.heap.size (fun _ => True) v0_ r1 ∧ Below w.heap.size w w' := by
  unfold janusref06_Depths.f at h
  split at h
  · rename_i hs
    have e := Option.some.inj h
    have e1 : r1 = (depthsS a0).1 := by rw [e]
    have e2 : r2 = (depthsS a0).2 := by rw [e]
    subst e1
    subst e2
    exact rdepths_calls a0 hs w
  · cases h
end Go.Proofs.Ytjbpljcfogekhaa.Q
namespace Go.Proofs.Ytjbpljcfogekhaa.Q
open Go.RowKit Go.Proofs.YtjbpljcfogekhaaW.PrintWords Go.Proofs.YtjbpljcfogekhaaW.PrintLast Go.Proofs.YtjbpljcfogekhaaW.PrintMore
attribute [local go_sem] max2_int min2_int max_two min_two max_three min_three max_four min_four
set_option linter.unusedVariables false
set_option linter.unusedSimpArgs false
def janusref06_Entry.j0 : Nat → ByteArray → Int → List Int → Bool → Option (Bool)
 | 0, _, _, _, _ => none
 | k + 1, x0, x1, x5, x20 => if x20 = true then (some false) else ((janusref05_Decode.f k x0).bind fun bt321 => ((janusref06_find.f k bt321.1 (IntKind.u64.wrap (x1))).bind fun t325 => (if t325 ≥ 0 then (if 0 ≤ t325 then (if t325 < (x5.length : Int) then (some ((rd x5 t325) == 0)) else (none)) else (none)) else (some false))))
def janusref06_Entry.f (k : Nat) (a0 : ByteArray) (a1 : Int) : Option (Bool) := (janusref06_Depths.f k a0).bind fun bt317 => (if bt317.2 = 0 then (janusref06_Entry.j0 k a0 a1 bt317.1 (decide (a1 < 0))) else (janusref06_Entry.j0 k a0 a1 bt317.1 true))
set_option maxHeartbeats 8000000 in
set_option maxRecDepth 100000 in
theorem janusref06_Entry.calls (k : Nat) (a0 : ByteArray) (a1 : Int) (r : Bool) (w : World) (h : janusref06_Entry.f k a0 a1 = some r) :
  Calls Try.prog 33 #[.string a0, .int .i64 a1] w fun e w' => e = .returned (.bool r) ∧ Below w.heap.size w w' := by
 have HB := Aside0.mk (Below.refl w.heap.size w)
 have H : ((janusref06_Depths.f k a0).bind fun bt317 => (if bt317.2 = 0 then (janusref06_Entry.j0 k a0 a1 bt317.1 (decide (a1 < 0))) else (janusref06_Entry.j0 k a0 a1 bt317.1 true))) = some r := h
 clear h
 replace H := Option.bind_eq_some_iff.mp H
 obtain ⟨⟨t317, t318⟩, A30, H⟩ := H
 replace H : (if t318 = 0 then (janusref06_Entry.j0 k a0 a1 t317 (decide (a1 < 0))) else (janusref06_Entry.j0 k a0 a1 t317 true)) = some r := H
 have A3 := Aside0.mk A30
 clear A30
 have HC4 := Aside0.mk H
 clear H
 go_enter Try.func33, Try.ntmps33
 go_upto_region 2 with (first | ((with_reducible refine gate_callee (f := 30) rfl ?_); refine goesL_ (some 12) rfl rfl Try.func30 (by kernel_rfl) rfl #[.string a0] rfl (by (try simp only [List.map_toArray, List.map_cons, List.map_nil]); first | done | rfl | (simp only [List.length_drop, List.length_take]; rfl)) ?_; (with_reducible refine (janusref06_Depths.calls k a0 t317 t318 _ A3.out).mono ?_); rintro e w5 ⟨v319, rfl, ho0, hb⟩; refine ⟨_, rfl, ?_⟩; have n0_ := Aside0.mk (Kd.R_lower ho0 (below_size (by repeat (first | (with_reducible first | exact HB.out | apply below_alloc | apply pw_below_drewN | apply below_drew1) | exact HB.out)))); have n1_ := Aside0.mk (below_step (by repeat (first | (with_reducible first | exact HB.out | apply below_alloc | apply pw_below_drewN | apply below_drew1) | exact HB.out)) hb); clear HB; have HO320 := n0_; have HB := n1_; clear n0_ n1_; (try clear hb); (try clear hb2); (try clear hk); (try clear hi); (try clear ho0)))
 (try simp only [Act.put, List.setIfInBounds_toArray, List.set_cons_zero, List.set_cons_succ])
 go_cut [20] (fun v20 wc => ∃ (kq : Nat) (x20_3 : Bool), v20 = .bool x20_3 ∧ Aside0 (janusref06_Entry.j0 kq a0 a1 t317 x20_3 = some r) ∧ Aside0 (kq ≤ k) ∧ Aside0 (Kd.R (Kd.int .i64) 3 wc w.heap.size (fun _ => True) v319 t317) ∧ Aside0 (Below w.heap.size w wc))
 case first =>
  have H := HC4.out
  clear HC4
  by_cases c6 : t318 = 0
  ·rw [if_pos c6] at H
   have c6b0 : (t318 == 0) = true := beq_iff_eq.mpr c6
   have c6b1 : (t318 != 0) = false := bne_eq_false_iff_eq.mpr c6
   clear c6
   (first | rw [c6b0] | (simp only [i64_w, i32_w]; rw [c6b0]) | skip)
   have H' := Aside0.mk H
   clear H
   go_wp2
   go_meet
   case rel => exact ⟨_, (decide (a1 < 0)), (by first | rfl | (simp; done) | (simp [*]; done)), H', ⟨by first | omega | exact Nat.le_refl _⟩, ⟨by (with_reducible repeat (first | apply Kd.R_alloc | apply Kd.R_drewN | apply Kd.R_drew)); exact HO320.out⟩, ⟨by repeat (first | (with_reducible first | exact HB.out | apply below_alloc | apply pw_below_drewN | apply below_drew1) | exact HB.out)⟩⟩
  ·rw [if_neg c6] at H
   have c6b0 : (t318 == 0) = false := beq_eq_false_iff_ne.mpr c6
   have c6b1 : (t318 != 0) = true := bne_iff_ne.mpr c6
   (first | rw [c6b0] | (simp only [i64_w, i32_w]; rw [c6b0]) | skip)
   have H' := Aside0.mk H
   clear H
   go_wp2
   go_meet
   case rel => exact ⟨_, (true), (by first | rfl | (simp; done) | (simp [*]; done)), H', ⟨by first | omega | exact Nat.le_refl _⟩, ⟨by (with_reducible repeat (first | apply Kd.R_alloc | apply Kd.R_drewN | apply Kd.R_drew)); exact HO320.out⟩, ⟨by repeat (first | (with_reducible first | exact HB.out | apply below_alloc | apply pw_below_drewN | apply below_drew1) | exact HB.out)⟩⟩
 case rest =>
  clear HC4
  try clear p2
  try clear c3
  try clear c6
  try clear c6b0
  try clear c6b1
  obtain ⟨kq, x20_3, rfl, HA, HJ3, HO_5, HB⟩ := hcut
  cases kq with
  | zero => exact absurd HA.out (by simp [janusref06_Entry.j0])
  | succ kj3 =>
   have H := HA.out
   clear HA
   simp only [janusref06_Entry.j0] at H
   by_cases c7 : x20_3 = true
   ·subst c7
    have H1 : (some false) = some r := by rw [if_pos rfl] at H; exact H
    clear H
    have H := H1
    clear H1
    obtain rfl := Option.some.inj H
    go_wp2
    go_ret
    exact ⟨by first | rfl | (simp [errW_none, errW_some] <;> rfl) | (simp [*, errW_none, errW_some] <;> rfl), by repeat (first | (with_reducible first | exact HB.out | apply below_alloc | apply pw_below_drewN | apply below_drew1) | exact HB.out)⟩
   ·replace c7 := Bool.eq_false_iff.mpr c7
    subst c7
    have H1 : ((janusref05_Decode.f kj3 a0).bind fun bt321 => ((janusref06_find.f kj3 bt321.1 (IntKind.u64.wrap (a1))).bind fun t325 => (if t325 ≥ 0 then (if 0 ≤ t325 then (if t325 < (t317.length : Int) then (some ((rd t317 t325) == 0)) else (none)) else (none)) else (some false)))) = some r := by rw [if_neg (show ¬ (false = true) by decide)] at H; exact H
    clear H
    have H := H1
    clear H1
    replace H := Option.bind_eq_some_iff.mp H
    obtain ⟨⟨t321, t322⟩, A80, H⟩ := H
    replace H : ((janusref06_find.f kj3 t321 (IntKind.u64.wrap (a1))).bind fun t325 => (if t325 ≥ 0 then (if 0 ≤ t325 then (if t325 < (t317.length : Int) then (some ((rd t317 t325) == 0)) else (none)) else (none)) else (some false))) = some r := H
    have A8 := Aside0.mk A80
    clear A80
    replace H := Option.bind_eq_some_iff.mp H
    obtain ⟨t325, A90, H⟩ := H
    replace H : (if t325 ≥ 0 then (if 0 ≤ t325 then (if t325 < (t317.length : Int) then (some ((rd t317 t325) == 0)) else (none)) else (none)) else (some false)) = some r := H
    have A9 := Aside0.mk A90
    clear A90
    by_cases c10 : t325 ≥ 0
    ·rw [if_pos c10] at H
     have c10b0 : decide (0 ≤ t325) = true := decide_eq_true c10
     clear c10
     by_cases c11 : 0 ≤ t325
     ·rw [if_pos c11] at H
      have c11b0 : decide (0 ≤ t325) = true := decide_eq_true c11
      clear c11
      by_cases c12 : t325 < (t317.length : Int)
      ·rw [if_pos c12] at H
       have c12b0 : decide (t325 < (t317.length : Int)) = true := decide_eq_true c12
       clear c12
       obtain rfl := Option.some.inj H
       go_wp2_with (first | ((with_reducible refine gate_callee (f := 19) rfl ?_); refine goesL_ (some 23) rfl rfl Try.func19 (by kernel_rfl) rfl #[.string a0] rfl (by (try simp only [List.map_toArray, List.map_cons, List.map_nil]); first | done | rfl | (simp only [List.length_drop, List.length_take]; rfl)) ?_; (with_reducible refine (janusref05_Decode.calls kj3 a0 t321 t322 _ A8.out).mono ?_); rintro e w13 ⟨v323, rfl, ho0, hb⟩; refine ⟨_, rfl, ?_⟩; have n0_ := Aside0.mk (Kd.R_below (by (with_reducible repeat (first | apply Kd.R_alloc | apply Kd.R_drewN | apply Kd.R_drew)); exact HO_5.out) hb); have n1_ := Aside0.mk (Kd.R_lower ho0 (below_size (by repeat (first | (with_reducible first | exact HB.out | apply below_alloc | apply pw_below_drewN | apply below_drew1) | exact HB.out)))); have n2_ := Aside0.mk (below_step (by repeat (first | (with_reducible first | exact HB.out | apply below_alloc | apply pw_below_drewN | apply below_drew1) | exact HB.out)) hb); clear HO_5; clear HB; have HO_5 := n0_; have HO324 := n1_; have HB := n2_; clear n0_ n1_ n2_; (try clear hb); (try clear hb2); (try clear hk); (try clear hi); (try clear ho0); obtain ⟨Ao14, co14, eo14⟩ := Kd.R_slice HO324.out; subst eo14) | ((with_reducible refine gate_callee (f := 44) rfl ?_); refine goesL_ (some 29) rfl rfl Try.func44 (by kernel_rfl) rfl #[.slice Ao14 t321.length co14, .int .u64 (IntKind.u64.wrap (a1))] rfl (by (try simp only [List.map_toArray, List.map_cons, List.map_nil]); first | done | rfl | (simp only [List.length_drop, List.length_take]; rfl)) ?_; (with_reducible refine (janusref06_find.calls kj3 _ _ t321 (IntKind.u64.wrap (a1)) t325 _ ?side1 ?side2 A9.out).mono ?_); (case side1 => repeat (first | exact (Kd.R_reads' HO324.out).2.2 | (with_reducible refine Kd.C_alloc ?_ _) | (with_reducible refine Kd.C_drewN ?_ _) | (with_reducible refine Kd.C_drew ?_))); (case side2 => exact (Kd.R_reads' HO324.out).2.1); rintro e w' ⟨rfl, ⟨nd, rfl⟩⟩; refine ⟨_, rfl, ?_⟩; obtain ⟨Ao15, co15, eo15⟩ := Kd.R_slice HO_5.out; subst eo15; have p326 : 0 ≤ (t325 : Int) := of_decide_eq_true (by first | (with_reducible assumption) | assumption); have q326 : t325 < (t317.length : Int) := of_decide_eq_true (by first | (with_reducible assumption) | assumption); obtain ⟨ad326, e326, hx326_0⟩ := Kd.at_int (Kd.R_reads' HO_5.out).2.2 t325 p326 q326; cases e326; replace p326 := eq_true p326; replace q326 := eq_true q326))
       go_ret
       exact ⟨by first | rfl | (simp [errW_none, errW_some] <;> rfl) | (simp [*, errW_none, errW_some] <;> rfl), by repeat (first | (with_reducible first | exact HB.out | apply below_alloc | apply pw_below_drewN | apply below_drew1) | exact HB.out)⟩
      ·rw [if_neg c12] at H
       exact absurd H (by simp)
     ·rw [if_neg c11] at H
      exact absurd H (by simp)
    ·rw [if_neg c10] at H
     have c10b0 : decide (0 ≤ t325) = false := decide_eq_false c10
     clear c10
     obtain rfl := Option.some.inj H
     go_wp2_with (first | ((with_reducible refine gate_callee (f := 19) rfl ?_); refine goesL_ (some 23) rfl rfl Try.func19 (by kernel_rfl) rfl #[.string a0] rfl (by (try simp only [List.map_toArray, List.map_cons, List.map_nil]); first | done | rfl | (simp only [List.length_drop, List.length_take]; rfl)) ?_; (with_reducible refine (janusref05_Decode.calls kj3 a0 t321 t322 _ A8.out).mono ?_); rintro e w16 ⟨v323, rfl, ho0, hb⟩; refine ⟨_, rfl, ?_⟩; have n0_ := Aside0.mk (Kd.R_below (by (with_reducible repeat (first | apply Kd.R_alloc | apply Kd.R_drewN | apply Kd.R_drew)); exact HO_5.out) hb); have n1_ := Aside0.mk (Kd.R_lower ho0 (below_size (by repeat (first | (with_reducible first | exact HB.out | apply below_alloc | apply pw_below_drewN | apply below_drew1) | exact HB.out)))); have n2_ := Aside0.mk (below_step (by repeat (first | (with_reducible first | exact HB.out | apply below_alloc | apply pw_below_drewN | apply below_drew1) | exact HB.out)) hb); clear HO_5; clear HB; have HO_5 := n0_; have HO324 := n1_; have HB := n2_; clear n0_ n1_ n2_; (try clear hb); (try clear hb2); (try clear hk); (try clear hi); (try clear ho0); obtain ⟨Ao17, co17, eo17⟩ := Kd.R_slice HO324.out; subst eo17) | ((with_reducible refine gate_callee (f := 44) rfl ?_); refine goesL_ (some 29) rfl rfl Try.func44 (by kernel_rfl) rfl #[.slice Ao17 t321.length co17, .int .u64 (IntKind.u64.wrap (a1))] rfl (by (try simp only [List.map_toArray, List.map_cons, List.map_nil]); first | done | rfl | (simp only [List.length_drop, List.length_take]; rfl)) ?_; (with_reducible refine (janusref06_find.calls kj3 _ _ t321 (IntKind.u64.wrap (a1)) t325 _ ?side1 ?side2 A9.out).mono ?_); (case side1 => repeat (first | exact (Kd.R_reads' HO324.out).2.2 | (with_reducible refine Kd.C_alloc ?_ _) | (with_reducible refine Kd.C_drewN ?_ _) | (with_reducible refine Kd.C_drew ?_))); (case side2 => exact (Kd.R_reads' HO324.out).2.1); rintro e w' ⟨rfl, ⟨nd, rfl⟩⟩; refine ⟨_, rfl, ?_⟩))
     go_ret
     exact ⟨by first | rfl | (simp [errW_none, errW_some] <;> rfl) | (simp [*, errW_none, errW_some] <;> rfl), by repeat (first | (with_reducible first | exact HB.out | apply below_alloc | apply pw_below_drewN | apply below_drew1) | exact HB.out)⟩
end Go.Proofs.Ytjbpljcfogekhaa.Q
namespace Go.Proofs.Ytjbpljcfogekhaa.Q
open Go.RowKit Go.Proofs.YtjbpljcfogekhaaW.PrintWords Go.Proofs.YtjbpljcfogekhaaW.PrintLast Go.Proofs.YtjbpljcfogekhaaW.PrintMore
attribute [local go_sem] max2_int min2_int max_two min_two max_three min_three max_four min_four
set_option linter.unusedVariables false
set_option linter.unusedSimpArgs false
def januslaw06_ValidChecks.f (k : Nat) (a0 : ByteArray) (a1 : Int) : Option (Bool) := if (a0.size : Int) > 1000 then ((valid_Check.f k a0).bind fun t343 => (if t343 = 8 then ((januslaw06_awake.f k).bind fun t344 => (some t344)) else (none))) else ((valid_Depths.f k a0).bind fun bt345 => ((janusref06_Depths.f k a0).bind fun bt349 => ((janusref01_Ints.f k bt345.1 bt349.1).bind fun t353 => (if t353 = true then (if bt345.2 = bt349.2 then ((valid_Check.f k a0).bind fun t354 => (if t354 = bt349.2 then ((valid_Entry.f k a0 a1).bind fun t355 => ((janusref06_Entry.f k a0 a1).bind fun t356 => (if (t355 == t356) = true then ((januslaw06_awake.f k).bind fun t357 => (some t357)) else (none)))) else (none))) else (none)) else (none)))))
set_option maxHeartbeats 8000000 in
set_option maxRecDepth 100000 in
theorem januslaw06_ValidChecks.calls (k : Nat) (a0 : ByteArray) (a1 : Int) (r : Bool) (w : World) (h : januslaw06_ValidChecks.f k a0 a1 = some r) :
  Calls Try.prog 8 #[.string a0, .int .i64 a1] w fun e w' => e = .returned (.bool r) ∧ Below w.heap.size w w' := by
 have HB := Aside0.mk (Below.refl w.heap.size w)
 have H : (if (a0.size : Int) > 1000 then ((valid_Check.f k a0).bind fun t343 => (if t343 = 8 then ((januslaw06_awake.f k).bind fun t344 => (some t344)) else (none))) else ((valid_Depths.f k a0).bind fun bt345 => ((janusref06_Depths.f k a0).bind fun bt349 => ((janusref01_Ints.f k bt345.1 bt349.1).bind fun t353 => (if t353 = true then (if bt345.2 = bt349.2 then ((valid_Check.f k a0).bind fun t354 => (if t354 = bt349.2 then ((valid_Entry.f k a0 a1).bind fun t355 => ((janusref06_Entry.f k a0 a1).bind fun t356 => (if (t355 == t356) = true then ((januslaw06_awake.f k).bind fun t357 => (some t357)) else (none)))) else (none))) else (none)) else (none)))))) = some r := h
 clear h
 by_cases c3 : (a0.size : Int) > 1000
 ·rw [if_pos c3] at H
  have c3b0 : decide (1000 < (a0.size : Int)) = true := decide_eq_true c3
  have c3b1 : decide (1000 < a0.size) = true := decide_eq_true (by omega)
  clear c3
  replace H := Option.bind_eq_some_iff.mp H
  obtain ⟨t343, A40, H⟩ := H
  replace H : (if t343 = 8 then ((januslaw06_awake.f k).bind fun t344 => (some t344)) else (none)) = some r := H
  have A4 := Aside0.mk A40
  clear A40
  by_cases c5 : t343 = 8
  ·rw [if_pos c5] at H
   have c5b0 : (t343 == 8) = true := beq_iff_eq.mpr c5
   have c5b1 : (t343 != 8) = false := bne_eq_false_iff_eq.mpr c5
   clear c5
   replace H := Option.bind_eq_some_iff.mp H
   obtain ⟨t344, A60, H⟩ := H
   replace H : (some t344) = some r := H
   have A6 := Aside0.mk A60
   clear A60
   obtain rfl := Option.some.inj H
   go_enter Try.func8, Try.ntmps8
   go_wp2_with (first | ((with_reducible refine gate_callee (f := 27) rfl ?_); refine goesL_ (some 13) rfl rfl Try.func27 (by kernel_rfl) rfl #[.string a0] rfl (by (try simp only [List.map_toArray, List.map_cons, List.map_nil]); first | done | rfl | (simp only [List.length_drop, List.length_take]; rfl)) ?_; (with_reducible refine (valid_Check.calls k a0 t343 _ A4.out).mono ?_); rintro e w7 ⟨rfl, hb⟩; refine ⟨_, rfl, ?_⟩; have n0_ := Aside0.mk (below_step (by repeat (first | (with_reducible first | exact HB.out | apply below_alloc | apply pw_below_drewN | apply below_drew1) | exact HB.out)) hb); clear HB; have HB := n0_; clear n0_; (try clear hb); (try clear hb2); (try clear hk); (try clear hi)) | (go_at_call 28; (with_reducible refine (januslaw06_awake.calls k  t344 _ A6.out).mono ?_); rintro e w8 ⟨rfl, hb⟩; have n0_ := Aside0.mk (below_step (by repeat (first | (with_reducible first | exact HB.out | apply below_alloc | apply pw_below_drewN | apply below_drew1) | exact HB.out)) hb); clear HB; have HB := n0_; clear n0_; (try clear hb); (try clear hb2); (try clear hk); (try clear hi)))
   go_ret
   exact ⟨by first | rfl | (simp [errW_none, errW_some] <;> rfl) | (simp [*, errW_none, errW_some] <;> rfl), by repeat (first | (with_reducible first | exact HB.out | apply below_alloc | apply pw_below_drewN | apply below_drew1) | exact HB.out)⟩
  ·rw [if_neg c5] at H
   exact absurd H (by simp)
 ·rw [if_neg c3] at H
  have c3b0 : decide (1000 < (a0.size : Int)) = false := decide_eq_false c3
  have c3b1 : decide (1000 < a0.size) = false := decide_eq_false (by omega)
  clear c3
  replace H := Option.bind_eq_some_iff.mp H
  obtain ⟨⟨t345, t346⟩, A90, H⟩ := H
  replace H : ((janusref06_Depths.f k a0).bind fun bt349 => ((janusref01_Ints.f k t345 bt349.1).bind fun t353 => (if t353 = true then (if t346 = bt349.2 then ((valid_Check.f k a0).bind fun t354 => (if t354 = bt349.2 then ((valid_Entry.f k a0 a1).bind fun t355 => ((janusref06_Entry.f k a0 a1).bind fun t356 => (if (t355 == t356) = true then ((januslaw06_awake.f k).bind fun t357 => (some t357)) else (none)))) else (none))) else (none)) else (none)))) = some r := H
  have A9 := Aside0.mk A90
  clear A90
  replace H := Option.bind_eq_some_iff.mp H
  obtain ⟨⟨t349, t350⟩, A100, H⟩ := H
  replace H : ((janusref01_Ints.f k t345 t349).bind fun t353 => (if t353 = true then (if t346 = t350 then ((valid_Check.f k a0).bind fun t354 => (if t354 = t350 then ((valid_Entry.f k a0 a1).bind fun t355 => ((janusref06_Entry.f k a0 a1).bind fun t356 => (if (t355 == t356) = true then ((januslaw06_awake.f k).bind fun t357 => (some t357)) else (none)))) else (none))) else (none)) else (none))) = some r := H
  have A10 := Aside0.mk A100
  clear A100
  replace H := Option.bind_eq_some_iff.mp H
  obtain ⟨t353, A110, H⟩ := H
  replace H : (if t353 = true then (if t346 = t350 then ((valid_Check.f k a0).bind fun t354 => (if t354 = t350 then ((valid_Entry.f k a0 a1).bind fun t355 => ((janusref06_Entry.f k a0 a1).bind fun t356 => (if (t355 == t356) = true then ((januslaw06_awake.f k).bind fun t357 => (some t357)) else (none)))) else (none))) else (none)) else (none)) = some r := H
  have A11 := Aside0.mk A110
  clear A110
  by_cases c12 : t353 = true
  ·subst c12
   have H1 : (if t346 = t350 then ((valid_Check.f k a0).bind fun t354 => (if t354 = t350 then ((valid_Entry.f k a0 a1).bind fun t355 => ((janusref06_Entry.f k a0 a1).bind fun t356 => (if (t355 == t356) = true then ((januslaw06_awake.f k).bind fun t357 => (some t357)) else (none)))) else (none))) else (none)) = some r := by rw [if_pos rfl] at H; exact H
   clear H
   have H := H1
   clear H1
   by_cases c13 : t346 = t350
   ·rw [if_pos c13] at H
    have c13b0 : (t346 == t350) = true := beq_iff_eq.mpr c13
    have c13b1 : (t346 != t350) = false := bne_eq_false_iff_eq.mpr c13
    clear c13
    replace H := Option.bind_eq_some_iff.mp H
    obtain ⟨t354, A140, H⟩ := H
    replace H : (if t354 = t350 then ((valid_Entry.f k a0 a1).bind fun t355 => ((janusref06_Entry.f k a0 a1).bind fun t356 => (if (t355 == t356) = true then ((januslaw06_awake.f k).bind fun t357 => (some t357)) else (none)))) else (none)) = some r := H
    have A14 := Aside0.mk A140
    clear A140
    by_cases c15 : t354 = t350
    ·rw [if_pos c15] at H
     have c15b0 : (t354 == t350) = true := beq_iff_eq.mpr c15
     have c15b1 : (t354 != t350) = false := bne_eq_false_iff_eq.mpr c15
     clear c15
     replace H := Option.bind_eq_some_iff.mp H
     obtain ⟨t355, A160, H⟩ := H
     replace H : ((janusref06_Entry.f k a0 a1).bind fun t356 => (if (t355 == t356) = true then ((januslaw06_awake.f k).bind fun t357 => (some t357)) else (none))) = some r := H
     have A16 := Aside0.mk A160
     clear A160
     replace H := Option.bind_eq_some_iff.mp H
     obtain ⟨t356, A170, H⟩ := H
     replace H : (if (t355 == t356) = true then ((januslaw06_awake.f k).bind fun t357 => (some t357)) else (none)) = some r := H
     have A17 := Aside0.mk A170
     clear A170
     by_cases c18 : (t355 == t356) = true
     ·rw [if_pos c18] at H
      have c18b0 : (t355 == t356) = true := c18
      (try (have c18b1 : decide (t355 = t356) = true := by simpa using c18))
      (try (have c18b2 : (t355 == t356) = true := by simpa using c18))
      clear c18
      replace H := Option.bind_eq_some_iff.mp H
      obtain ⟨t357, A190, H⟩ := H
      replace H : (some t357) = some r := H
      have A19 := Aside0.mk A190
      clear A190
      obtain rfl := Option.some.inj H
      go_enter Try.func8, Try.ntmps8
      go_wp2_with (first | ((with_reducible refine gate_callee (f := 29) rfl ?_); refine goesL_ (some 20) rfl rfl Try.func29 (by kernel_rfl) rfl #[.string a0] rfl (by (try simp only [List.map_toArray, List.map_cons, List.map_nil]); first | done | rfl | (simp only [List.length_drop, List.length_take]; rfl)) ?_; (with_reducible refine (valid_Depths.calls k a0 t345 t346 _ A9.out).mono ?_); rintro e w20 ⟨v347, rfl, ho0, hb⟩; refine ⟨_, rfl, ?_⟩; have n0_ := Aside0.mk (Kd.R_lower ho0 (below_size (by repeat (first | (with_reducible first | exact HB.out | apply below_alloc | apply pw_below_drewN | apply below_drew1) | exact HB.out)))); have n1_ := Aside0.mk (below_step (by repeat (first | (with_reducible first | exact HB.out | apply below_alloc | apply pw_below_drewN | apply below_drew1) | exact HB.out)) hb); clear HB; have HO348 := n0_; have HB := n1_; clear n0_ n1_; (try clear hb); (try clear hb2); (try clear hk); (try clear hi); (try clear ho0)) | ((with_reducible refine gate_callee (f := 30) rfl ?_); refine goesL_ (some 25) rfl rfl Try.func30 (by kernel_rfl) rfl #[.string a0] rfl (by (try simp only [List.map_toArray, List.map_cons, List.map_nil]); first | done | rfl | (simp only [List.length_drop, List.length_take]; rfl)) ?_; (with_reducible refine (janusref06_Depths.calls k a0 t349 t350 _ A10.out).mono ?_); rintro e w21 ⟨v351, rfl, ho0, hb⟩; refine ⟨_, rfl, ?_⟩; have n0_ := Aside0.mk (Kd.R_elder' (by (with_reducible repeat (first | apply Kd.R_alloc | apply Kd.R_drewN | apply Kd.R_drew)); exact HO348.out) (Kd.R_base ho0) hb); have n1_ := Aside0.mk (Kd.R_lower (Kd.R_new' ho0 (Kd.R_lt (by (with_reducible repeat (first | apply Kd.R_alloc | apply Kd.R_drewN | apply Kd.R_drew)); exact HO348.out))) (below_size (by repeat (first | (with_reducible first | exact HB.out | apply below_alloc | apply pw_below_drewN | apply below_drew1) | exact HB.out)))); have n2_ := Aside0.mk (below_step (by repeat (first | (with_reducible first | exact HB.out | apply below_alloc | apply pw_below_drewN | apply below_drew1) | exact HB.out)) hb); clear HO348; clear HB; have HO348 := n0_; have HO352 := n1_; have HB := n2_; clear n0_ n1_ n2_; (try clear hb); (try clear hb2); (try clear hk); (try clear hi); (try clear ho0); obtain ⟨Ao22, co22, eo22⟩ := Kd.R_slice HO348.out; subst eo22; obtain ⟨Ao23, co23, eo23⟩ := Kd.R_slice HO352.out; subst eo23) | ((with_reducible refine gate_callee (f := 31) rfl ?_); refine goesL_ (some 30) rfl rfl Try.func31 (by kernel_rfl) rfl #[.slice Ao22 t345.length co22, .slice Ao23 t349.length co23] rfl (by (try simp only [List.map_toArray, List.map_cons, List.map_nil]); first | done | rfl | (simp only [List.length_drop, List.length_take]; rfl)) ?_; (with_reducible refine (janusref01_Ints.calls k _ _ t345 _ _ t349 true _ ?side1 ?side2 ?side3 ?side4 A11.out).mono ?_); (case side1 => repeat (first | exact (Kd.R_reads' HO348.out).2.2 | (with_reducible refine Kd.C_alloc ?_ _) | (with_reducible refine Kd.C_drewN ?_ _) | (with_reducible refine Kd.C_drew ?_))); (case side2 => exact (Kd.R_reads' HO348.out).2.1); (case side3 => repeat (first | exact (Kd.R_reads' HO352.out).2.2 | (with_reducible refine Kd.C_alloc ?_ _) | (with_reducible refine Kd.C_drewN ?_ _) | (with_reducible refine Kd.C_drew ?_))); (case side4 => exact (Kd.R_reads' HO352.out).2.1); rintro e w' ⟨rfl, ⟨nd, rfl⟩⟩; refine ⟨_, rfl, ?_⟩) | (go_at_call 27; (with_reducible refine (valid_Check.calls k a0 t354 _ A14.out).mono ?_); rintro e w24 ⟨rfl, hb⟩; have n0_ := Aside0.mk (Kd.R_below (by (with_reducible repeat (first | apply Kd.R_alloc | apply Kd.R_drewN | apply Kd.R_drew)); exact HO348.out) hb); have n1_ := Aside0.mk (Kd.R_below (by (with_reducible repeat (first | apply Kd.R_alloc | apply Kd.R_drewN | apply Kd.R_drew)); exact HO352.out) hb); have n2_ := Aside0.mk (below_step (by repeat (first | (with_reducible first | exact HB.out | apply below_alloc | apply pw_below_drewN | apply below_drew1) | exact HB.out)) hb); clear HO348; clear HO352; clear HB; have HO348 := n0_; have HO352 := n1_; have HB := n2_; clear n0_ n1_ n2_; (try clear hb); (try clear hb2); (try clear hk); (try clear hi)) | (go_at_call 32; (with_reducible refine (valid_Entry.calls k a0 a1 t355 _ A16.out).mono ?_); rintro e w25 ⟨rfl, hb⟩; have n0_ := Aside0.mk (Kd.R_below (by (with_reducible repeat (first | apply Kd.R_alloc | apply Kd.R_drewN | apply Kd.R_drew)); exact HO348.out) hb); have n1_ := Aside0.mk (Kd.R_below (by (with_reducible repeat (first | apply Kd.R_alloc | apply Kd.R_drewN | apply Kd.R_drew)); exact HO352.out) hb); have n2_ := Aside0.mk (below_step (by repeat (first | (with_reducible first | exact HB.out | apply below_alloc | apply pw_below_drewN | apply below_drew1) | exact HB.out)) hb); clear HO348; clear HO352; clear HB; have HO348 := n0_; have HO352 := n1_; have HB := n2_; clear n0_ n1_ n2_; (try clear hb); (try clear hb2); (try clear hk); (try clear hi)) | (go_at_call 33; (with_reducible refine (janusref06_Entry.calls k a0 a1 t356 _ A17.out).mono ?_); rintro e w26 ⟨rfl, hb⟩; have n0_ := Aside0.mk (Kd.R_below (by (with_reducible repeat (first | apply Kd.R_alloc | apply Kd.R_drewN | apply Kd.R_drew)); exact HO348.out) hb); have n1_ := Aside0.mk (Kd.R_below (by (with_reducible repeat (first | apply Kd.R_alloc | apply Kd.R_drewN | apply Kd.R_drew)); exact HO352.out) hb); have n2_ := Aside0.mk (below_step (by repeat (first | (with_reducible first | exact HB.out | apply below_alloc | apply pw_below_drewN | apply below_drew1) | exact HB.out)) hb); clear HO348; clear HO352; clear HB; have HO348 := n0_; have HO352 := n1_; have HB := n2_; clear n0_ n1_ n2_; (try clear hb); (try clear hb2); (try clear hk); (try clear hi)) | (go_at_call 28; (with_reducible refine (januslaw06_awake.calls k  t357 _ A19.out).mono ?_); rintro e w27 ⟨rfl, hb⟩; have n0_ := Aside0.mk (Kd.R_below (by (with_reducible repeat (first | apply Kd.R_alloc | apply Kd.R_drewN | apply Kd.R_drew)); exact HO348.out) hb); have n1_ := Aside0.mk (Kd.R_below (by (with_reducible repeat (first | apply Kd.R_alloc | apply Kd.R_drewN | apply Kd.R_drew)); exact HO352.out) hb); have n2_ := Aside0.mk (below_step (by repeat (first | (with_reducible first | exact HB.out | apply below_alloc | apply pw_below_drewN | apply below_drew1) | exact HB.out)) hb); clear HO348; clear HO352; clear HB; have HO348 := n0_; have HO352 := n1_; have HB := n2_; clear n0_ n1_ n2_; (try clear hb); (try clear hb2); (try clear hk); (try clear hi)))
      go_ret
      exact ⟨by first | rfl | (simp [errW_none, errW_some] <;> rfl) | (simp [*, errW_none, errW_some] <;> rfl), by repeat (first | (with_reducible first | exact HB.out | apply below_alloc | apply pw_below_drewN | apply below_drew1) | exact HB.out)⟩
     ·rw [if_neg c18] at H
      exact absurd H (by simp)
    ·rw [if_neg c15] at H
     exact absurd H (by simp)
   ·rw [if_neg c13] at H
    exact absurd H (by simp)
  ·replace c12 := Bool.eq_false_iff.mpr c12
   subst c12
   have H1 : (none) = some r := by rw [if_neg (show ¬ (false = true) by decide)] at H; exact H
   clear H
   have H := H1
   clear H1
   exact absurd H (by simp)
end Go.Proofs.Ytjbpljcfogekhaa.Q
namespace Go.Proofs.Ytjbpljcfogekhaa.Core
open Go.RowKit Go.Proofs.Ytjbpljcfogekhaa.Q Go.Proofs.YtjbpljcfogekhaaW.PrintWords Go.Proofs.YtjbpljcfogekhaaW.PrintLast Go.Proofs.YtjbpljcfogekhaaW.PrintMore
theorem ints_l0 {l : List Int} (hl : l.length ≤ 1048576) : ∀ (d i : Nat), i + d = l.length → Ev (fun k => janusref01_Ints.l0 k l l (i : Int)) true
  | 0, i, hd => Ev.from 1 fun k => by
    simp only [janusref01_Ints.l0]
    rw [if_neg (by omega)]
  | d + 1, i, hd => by
    refine Ev.step (f := fun k => janusref01_Ints.l0 k l l ((i + 1 : Nat) : Int)) (fun k => ?_) (ints_l0 hl d (i + 1) (by omega))
    simp only [janusref01_Ints.l0]
    have e : ((i + 1 : Nat) : Int) = (i : Int) + 1 := by omega
    rw [if_pos (by omega), if_pos (by omega), if_pos (by omega), if_pos trivial, wrap_in (by omega) (by omega), e]
theorem ints_ev {l : List Int} (hl : l.length ≤ 1048576) : Ev (fun k => janusref01_Ints.f k l l) true := by
  simp only [janusref01_Ints.f]
  exact Ev.pos trivial (by simpa using ints_l0 hl l.length 0 (by omega))
theorem RDepths_f {s : ByteArray} (hs : s.size ≤ 1048576) (k : Nat) : janusref06_Depths.f k s = some (depthsS s) := by unfold janusref06_Depths.f; rw [if_pos (by omega)]
theorem Check_f {s : ByteArray} (hs : s.size ≤ 1048576) (k : Nat) : valid_Check.f k s = some (checkS s) := by unfold valid_Check.f; rw [if_pos (by omega)]
theorem check_big {s : ByteArray} (hs : 1000 < s.size) : checkS s = 8 := by
  unfold checkS
  cases hr : readS s with
  | none => rfl
  | some p => obtain ⟨l, ds⟩ := p; have := (readS_some hr).size; omega
theorem REntry_ev {s : ByteArray} (hs : s.size ≤ 1048576) (a : Int) (ha : -9223372036854775808 ≤ a ∧ a < 9223372036854775808) : Ev (fun k => janusref06_Entry.f k s a) (entryS s a) := by
  simp only [janusref06_Entry.f]
  refine Ev.bind (Ev.ret (fun k => RDepths_f hs k)) ?_
  cases hr : readS s with
  | none =>
    rw [depths_none' hr]
    have e1 : entryS s a = false := by unfold entryS; rw [hr]
    rw [e1]
    refine Ev.neg (by simp) (Ev.from 1 fun k => ?_)
    simp only [janusref06_Entry.j0]
    rw [if_pos trivial]
  | some p =>
    obtain ⟨l, ds⟩ := p
    have R := readS_some hr
    rw [depthsS_some hr]
    refine Ev.pos rfl ?_
    have hrng := decAll_range R.dec
    have hlen := decAll_length R.dec
    by_cases hn : a < 0
    · have e1 : entryS s a = false := by unfold entryS; rw [hr]; simp only; rw [if_pos hn]
      rw [e1]
      refine Ev.from 1 fun k => ?_
      simp only [janusref06_Entry.j0]
      rw [if_pos (decide_eq_true hn)]
    · refine Ev.step (f := fun k => (janusref05_Decode.f k s).bind fun bt321 => ((janusref06_find.f k bt321.1 (IntKind.u64.wrap (a))).bind fun t325 => (if t325 ≥ 0 then (if 0 ≤ t325 then (if t325 < (ds.length : Int) then (some ((rd ds t325) == 0)) else (none)) else (none)) else (some false)))) (fun k => by
        simp only [janusref06_Entry.j0]
        rw [if_neg (by simpa using hn)]) ?_
      refine Ev.bind (RDec_ev hs R.dec) ?_
      have hw : IntKind.u64.wrap a = a := by simp [IntKind.wrap, IntKind.signed, IntKind.bits]; omega
      rw [hw]
      refine Ev.bind (RFind_ev (l := l) (fun x hx => by have := hrng x hx; omega) a (by have := R.size; omega)) ?_
      unfold entryS findI
      rw [hr]
      simp only
      rw [if_neg hn]
      cases hf : findS l a with
      | none => exact Ev.neg (by simp) (Ev.now _)
      | some n =>
        have hlt := findS_lt hf
        have := R.found.len
        exact Ev.pos (by simp) (Ev.pos (by simp) (Ev.pos (by simp only; omega) (Ev.now _)))
theorem ValidChecks_ev {s : ByteArray} (hs : s.size ≤ 1048576) (a : Int) (ha : -9223372036854775808 ≤ a ∧ a < 9223372036854775808) : Ev (fun k => januslaw06_ValidChecks.f k s a) true := by
  simp only [januslaw06_ValidChecks.f]
  by_cases hb : (s.size : Int) > 1000
  · refine Ev.pos hb (Ev.bind (Ev.ret (fun k => Check_f hs k)) (Ev.pos (check_big (by omega)) (Ev.bind awake06 (Ev.now _))))
  · refine Ev.neg hb (Ev.bind (Ev.ret (fun k => Depths_f hs k)) (Ev.bind (Ev.ret (fun k => RDepths_f hs k)) ?_))
    have hl : (depthsS s).1.length ≤ 1048576 ∧ checkS s = (depthsS s).2 := by
      cases hr : readS s with
      | none =>
        rw [depths_none' hr]
        refine ⟨by simp, ?_⟩
        unfold checkS; rw [hr]; rfl
      | some p =>
        obtain ⟨l, ds⟩ := p
        have R := readS_some hr
        have hlen := decAll_length R.dec
        have := R.found.len
        have := R.size
        rw [depthsS_some hr]
        refine ⟨by simp only; omega, ?_⟩
        unfold checkS; rw [hr]; rfl
    refine Ev.bind (ints_ev hl.1) (Ev.pos rfl (Ev.pos rfl (Ev.bind (Ev.ret (fun k => Check_f hs k)) (Ev.pos hl.2 ?_))))
    refine Ev.bind (Ev.ret (fun k => Entry_f hs a ha.2 k)) (Ev.bind (REntry_ev hs a ha) (Ev.pos (by simp) (Ev.bind awake06 (Ev.now _))))
end Go.Proofs.Ytjbpljcfogekhaa.Core
namespace Go.Proofs.Ytjbpljcfogekhaa.Q
open Go.RowKit Go.Proofs.Ytjbpljcfogekhaa.Core Go.Proofs.YtjbpljcfogekhaaW.PrintWords Go.Proofs.YtjbpljcfogekhaaW.PrintLast Go.Proofs.YtjbpljcfogekhaaW.PrintMore
theorem chk_all : True := by
  have a1 := @ValidChecks_ev
  have a3 := @januslaw06_ValidChecks.calls
  have a5 := @Ev.rounds
  trivial
end Go.Proofs.Ytjbpljcfogekhaa.Q
