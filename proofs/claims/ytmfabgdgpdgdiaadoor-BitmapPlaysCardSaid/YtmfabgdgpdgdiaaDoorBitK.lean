/- januslaw14.BitmapPlays, walked. -/
import Derived.Test.YtmfabgdgpdgdiaaDoorBitJ
import Derived.Deep.CutRange
import Derived.WalkMore
namespace Go.Proofs.YtmfabgdgpdgdiaaDoor.Q
open Go.RowKit Go.Proofs.YtmfabgdgpdgdiaaDoor.Bit Go.Proofs.YtmfabgdgpdgdiaaDoorW.PrintWords Go.Proofs.YtmfabgdgpdgdiaaDoorW.PrintLast Go.Proofs.YtmfabgdgpdgdiaaDoorW.PrintMore
set_option linter.unusedVariables false
set_option linter.unusedSimpArgs false
/-- a deed -/
structure D35 where
  k : Int
  i : Int
  on : Bool
def d35 : D35 := ⟨0, 0, false⟩
/-- where the deeds lie -/
def RD (w : World) (A : Option Addr) (l : List D35) : Prop :=
  ∀ j, j < l.length → ∃ ad, A = some ad ∧ w.cell? (ad.add (j * 3)) = some (.int .i64 (l.getD j d35).k) ∧ w.cell? ⟨(ad.add (j * 3)).block, (ad.add (j * 3)).off + 1, none⟩ = some (.int .i64 (l.getD j d35).i) ∧ w.cell? ⟨(ad.add (j * 3)).block, (ad.add (j * 3)).off + 2, none⟩ = some (.bool (l.getD j d35).on)
theorem RD.below {w W : World} {A : Option Addr} {l : List D35} (h : RD w A l) (hb : Below w.heap.size w W) : RD W A l := fun j hj => by
  obtain ⟨ad, e, h0, h1, h2⟩ := h j hj
  exact ⟨ad, e, pw_cell_below hb h0, pw_cell_below hb h1, pw_cell_below hb h2⟩
/-- both bitmaps, saying the same bits -/
structure SX (w W : World) (b g n bx gx : Nat) (L : List Bool) : Prop where
  s : Sc w W b g n L
  r : RW W w.heap.size bx gx L
section
variable {w W W' : World} {b g n bx gx : Nat} {L L' : List Bool}
theorem apart (s : Sc w W b g n L) (r : RW W w.heap.size bx gx L') : bx ≠ b ∧ bx ≠ g ∧ gx ≠ b ∧ gx ≠ g := by
  obtain ⟨ws, h1, _⟩ := s.bm
  exact ⟨blk_ne r.pb h1.pb (by decide), blk_ne r.pb h1.wb (by decide), blk_ne r.wb h1.pb (by decide), blk_ne r.wb h1.wb (by decide)⟩
theorem SX.below (h : SX w W b g n bx gx L) (hb : Below W.heap.size W W') : SX w W' b g n bx gx L := ⟨h.s.below hb, h.r.below hb⟩
theorem SX.drewN (h : SX w W b g n bx gx L) (m : Nat) : SX w (W.drewN m) b g n bx gx L := ⟨h.s.drewN m, h.r.drewN m⟩
theorem SX.drew (h : SX w W b g n bx gx L) : SX w W.drew b g n bx gx L := ⟨h.s.drew, h.r.drew⟩
end
theorem rnew_at {w W : World} {b g m : Nat} {L : List Bool} (s : Sc w W b g m L) (h1 : 1 ≤ m) (h2 : m ≤ 1024) : Calls Tryd.prog 12 #[.int .i64 (m : Int)] W fun e W' => ∃ bx gx, e = .returned (.pointer (some ⟨bx, 0, none⟩)) ∧ Sc w W' b g m L ∧ RW W' w.heap.size bx gx (List.replicate m false) := by
  refine (rnew_calls m W).mono fun e W' ⟨hb', hc⟩ => ?_
  rcases hc with ⟨hh, _⟩ | ⟨m', bx, gx, hm, _, _, he, hrw⟩
  · omega
  · obtain rfl : m' = m := by omega
    have hs := s.bel.size
    exact ⟨bx, gx, he, s.below hb', ⟨hrw.pb, hrw.wb, Nat.le_trans hs hrw.hb, Nat.le_trans hs hrw.hg⟩⟩
theorem new_none (n : Int) (h : n < 1 ∨ 1024 < n) (W : World) : Calls Tryd.prog 7 #[.int .i64 n] W fun e W' => e = .returned (.pointer none) ∧ Below W.heap.size W W' :=
  (new_calls n W).mono fun e W' ⟨hb, hc⟩ => by
    rcases hc with ⟨_, he⟩ | ⟨m, _, _, hm, _, _, _, _⟩
    · exact ⟨he, hb⟩
    · omega
theorem rnew_none (n : Int) (h : n < 1 ∨ 1024 < n) (W : World) : Calls Tryd.prog 12 #[.int .i64 n] W fun e W' => e = .returned (.pointer none) ∧ Below W.heap.size W W' :=
  (rnew_calls n W).mono fun e W' ⟨hb, hc⟩ => by
    rcases hc with ⟨_, he⟩ | ⟨m, _, _, hm, _, _, _, _⟩
    · exact ⟨he, hb⟩
    · omega
theorem rwords_at {w W : World} {bx gx : Nat} {L : List Bool} {ws : List Nat} (hrw : RW W w.heap.size bx gx L) (h1024 : L.length ≤ 1024) (hrep : Rep ws L) :
    Calls Tryd.prog 21 #[.pointer (some ⟨bx, 0, none⟩)] W fun e W' => ∃ A c, e = .returned (.slice A ws.length c) ∧ ws.length ≤ c ∧ (Kd.int .u64).C W' A ws.length (nw ws) ∧ Below W.heap.size W W' :=
  (rwords_calls _ bx gx L W hrw h1024).mono fun e W' ⟨A, vs, c, hv, he, hc, hC, hB⟩ => by
    obtain rfl := hv.uniq hrep
    exact ⟨A, c, he, hc, hC, hB⟩
set_option maxHeartbeats 4000000 in
set_option maxRecDepth 100000 in
theorem plays_calls (n : Int) (hn : -9223372036854775808 ≤ n ∧ n < 9223372036854775808) (l : List D35) (A : Option Addr) (c : Nat) (w : World) (h : Ok0 w) (hr : RD w A l) (hc : l.length ≤ c) :
    Calls Tryd.prog 4 #[.int .i64 n, .slice A l.length c] w (TruePost w) := by
  have hw := Aside0.mk h
  have hr2 := Aside0.mk hr
  have hc2 := Aside0.mk hc
  clear h hr hc hn
  have hu35 := Tryd.underlying35
  by_cases hno : n < 1 ∨ 1024 < n
  · have hno2 := Aside0.mk hno
    clear hno
    go_enter Tryd.func4, Tryd.ntmps4
    go_wp2_with (first
      | (go_at_call 7; (with_reducible refine (new_none n hno2.out _).mono ?_); rintro e w1 ⟨rfl, hB⟩; replace hB := Aside0.mk hB)
      | (go_at_call 12; (with_reducible refine (rnew_none n hno2.out _).mono ?_); rintro e w2 ⟨rfl, hB2⟩; replace hB := Aside0.mk (below_step hB.out hB2); clear hB2))
    go_loopg [7] 0 (fun k v7 wx => v7 = .int .i64 0 ∧ k = 0 ∧ Aside0 (Below w.heap.size w wx))
    case atStart => exact ⟨rfl, rfl, hB⟩
    case round =>
      clear hB
      obtain ⟨rfl, rfl, hB⟩ := hrel
      go_wp2_with (go_at_call 11; (with_reducible refine (awake_at hw.out hB.out).mono ?_); rintro e w4 ⟨rfl, hB4⟩; replace hB4 := Aside0.mk hB4)
      all_goals
        go_ret
        exact ⟨rfl, hB4.out⟩
  · obtain ⟨m, rfl⟩ := Int.eq_ofNat_of_zero_le (show 0 ≤ n by omega)
    have h1 : 1 ≤ m := by omega
    have h2 : m ≤ 1024 := by omega
    clear hno
    go_enter Tryd.func4, Tryd.ntmps4
    go_wp2_with (first
      | (go_at_call 7; (with_reducible refine (new_at hw.out (Below.refl _ _) m h1 h2).mono ?_); rintro e w1 ⟨b, g, rfl, hS⟩; replace hS := Aside0.mk hS)
      | (go_at_call 12; (with_reducible refine (rnew_at hS.out h1 h2).mono ?_); rintro e w2 ⟨bx, gx, rfl, hS2, hX⟩; replace hS := Aside0.mk hS2; clear hS2; replace hX := Aside0.mk hX))
    obtain ⟨Nn, hNn⟩ : ∃ Nn, min l.length 200 = Nn := ⟨_, rfl⟩
    go_loopg [7] Nn (fun k v7 wx => ∃ (i : Nat) (L : List Bool), v7 = .int .i64 i ∧ i + k = Nn ∧ SX w wx b g m bx gx L)
    case atStart => exact ⟨0, _, rfl, by omega, hS.out, hX.out⟩
    case round =>
      clear hS hX
      obtain ⟨i, L, rfl, hik, hSX⟩ := hrel
      cases gk with
      | zero =>
        have hB := Aside0.mk hSX.s.bel
        have hcond : (decide ((i : Int) < (l.length : Int)) = true ∧ decide (i < l.length) = true ∧ ¬ (i : Int) < 200) ∨ (decide ((i : Int) < (l.length : Int)) = false ∧ decide (i < l.length) = false) := by
          by_cases hiu : i < l.length
          · exact .inl ⟨decide_eq_true (by omega), decide_eq_true hiu, by omega⟩
          · exact .inr ⟨decide_eq_false (by omega), decide_eq_false hiu⟩
        clear hik hNn hSX
        rcases hcond with ⟨d1, d1n, d2⟩ | ⟨d1, d1n⟩
        all_goals
          go_wp2_with (go_at_call 11; (with_reducible refine (awake_at hw.out hB.out).mono ?_); rintro e w4 ⟨rfl, hB4⟩; replace hB4 := Aside0.mk hB4)
          go_ret
          exact ⟨rfl, hB4.out⟩
      | succ gk =>
        have hiu : i < l.length := by omega
        have d1 : decide ((i : Int) < (l.length : Int)) = true := decide_eq_true (by omega)
        have d1n : decide (i < l.length) = true := decide_eq_true hiu
        have d2 : (i : Int) < 200 := by omega
        have hlt2 : (i : Int) < (l.length : Int) := by omega
        obtain ⟨ad, e, q0, q1, q2⟩ := (hr2.out.below hSX.s.bel) i hiu
        subst e
        have hq := Aside0.mk (fun (W : World) (hb : Below w.heap.size w W) => by
          obtain ⟨ad', e, z0, z1, z2⟩ := (hr2.out.below hb) i hiu
          cases e
          exact (⟨z1, z2⟩ : W.cell? ⟨(ad.add (i * 3)).block, (ad.add (i * 3)).off + 1, none⟩ = some (.int .i64 (l.getD i d35).i) ∧ W.cell? ⟨(ad.add (i * 3)).block, (ad.add (i * 3)).off + 2, none⟩ = some (.bool (l.getD i d35).on)))
        obtain ⟨⟨kk, ii, on⟩, hD⟩ : ∃ D, l.getD i d35 = D := ⟨_, rfl⟩
        rw [hD] at q0 q1 q2 hq
        clear hD
        replace hik := Aside0.mk hik
        replace hNn := Aside0.mk hNn
        replace hSX := Aside0.mk hSX
        clear hiu
        go_upto_block 2 with fail
        go_cut [8] from 18 to 112 (fun v8 wx => v8 = .bool true ∧ ∃ L', SX w wx b g m bx gx L')
        case first =>
          by_cases hk0 : kk = 0
          · subst hk0
            obtain ⟨v, hv⟩ : ∃ v, takeR L = v := ⟨_, rfl⟩
            obtain ⟨L1, hL1⟩ : ∃ L1, L.set (ff L) true = L1 := ⟨_, rfl⟩
            have htk := Aside0.mk (hSX.out.s.take v L1 hv hL1)
            have hrt := Aside0.mk (fun (W : World) (hrw : RW W w.heap.size bx gx L) => by
              have := rtake_calls _ bx gx L W hrw (by have := hSX.out.s.ln; have := hSX.out.s.le; omega)
              unfold RTakePost at this
              rw [hv, hL1] at this
              exact this)
            have hap := Aside0.mk (apart hSX.out.s hSX.out.r)
            clear hv hL1
            go_wp2_with (first
              | (go_at_call 9; (with_reducible refine htk.out.mono ?_); rintro e w3 ⟨rfl, hS3, hg3⟩; (have hX3 := Aside0.mk (hSX.out.r.grown hg3 (by have := hap.out.2.1; simpa using this) (by have := hap.out.2.2.2; simpa using this))); replace hS3 := Aside0.mk hS3; clear hg3)
              | (go_at_call 13; (with_reducible refine (hrt.out _ hX3.out).mono ?_); rintro e w4 ⟨rfl, hX4, hg4⟩; (have hS4 := Aside0.mk (hS3.out.other hg4 hX3.out.hg (by have := hap.out.2.2.1; exact fun e => this e.symm) (by have := hap.out.2.2.2; exact fun e => this e.symm))); replace hX4 := Aside0.mk hX4; clear hg4))
            go_meet
            case rel => exact ⟨rfl, L1, hS4.out, hX4.out⟩
          · have d3 : (kk == 0) = false := by simpa using hk0
            by_cases hk1 : kk = 1
            · subst hk1
              clear hk0 d3
              by_cases hin : 0 ≤ ii ∧ ii < (m : Int)
              · obtain ⟨k, rfl⟩ := Int.eq_ofNat_of_zero_le hin.1
                have hkm := Aside0.mk (show k < m by omega)
                clear hin
                have hmk := Aside0.mk (fun (W : World) (hs : Sc w W b g m L) => hs.mark (k : Int) k rfl hkm.out on)
                have hrm := Aside0.mk (fun (W : World) (hrw : RW W w.heap.size bx gx L) => rmark_calls _ bx gx L k on W hrw (by rw [hSX.out.s.ln]; exact hkm.out) (by have := hSX.out.s.ln; have := hSX.out.s.le; omega))
                have hap := Aside0.mk (apart hSX.out.s hSX.out.r)
                go_wp2_with fail
                go_region_held3 (fun W => W.cell? ⟨(ad.add (i * 3)).block, (ad.add (i * 3)).off + 1, none⟩ = some (.int .i64 (k : Int)) ∧ W.cell? ⟨(ad.add (i * 3)).block, (ad.add (i * 3)).off + 2, none⟩ = some (.bool on)) (first | exact ⟨q1, q2⟩ | exact hka | exact hkb | exact hkc | exact hkd | go_keep)
                  (first
                    | (go_at_call 8; (with_reducible refine (hmk.out _ hSX.out.drew.s).mono ?_); rintro e w3 ⟨rfl, hS3, hg3⟩; (have hka := hq.out _ hS3.bel); (have hXa := Aside0.mk (hSX.out.drew.r.grown hg3 (by have := hap.out.2.1; simpa using this) (by have := hap.out.2.2.2; simpa using this))); (have hSa := Aside0.mk hS3); clear hS3 hg3)
                    | (go_at_call 14; (with_reducible refine (hrm.out _ hXa.out).mono ?_); rintro e w4 ⟨rfl, hX4, hg4⟩; (have hSb := Aside0.mk (hSa.out.other hg4 hXa.out.hg (fun e => hap.out.2.2.1 e.symm) (fun e => hap.out.2.2.2 e.symm))); (have hkb := hq.out _ hSb.out.bel); (have hXb := Aside0.mk hX4); clear hX4 hg4)
                    | (go_at_call 14; (with_reducible refine (hrm.out _ hSX.out.drew.r).mono ?_); rintro e w4 ⟨rfl, hX4, hg4⟩; (have hSc := Aside0.mk (hSX.out.drew.s.other hg4 hSX.out.r.hg (fun e => hap.out.2.2.1 e.symm) (fun e => hap.out.2.2.2 e.symm))); (have hkc := hq.out _ hSc.out.bel); (have hXc := Aside0.mk hX4); clear hX4 hg4)
                    | (go_at_call 8; (with_reducible refine (hmk.out _ hSc.out).mono ?_); rintro e w3 ⟨rfl, hS3, hg3⟩; (have hkd := hq.out _ hS3.bel); (have hXb := Aside0.mk (hXc.out.grown hg3 (by have := hap.out.2.1; simpa using this) (by have := hap.out.2.2.2; simpa using this))); (have hSb := Aside0.mk hS3); clear hS3 hg3))
                all_goals
                  go_wp2
                  go_meet
                  case rel => exact ⟨rfl, _, hSb.out, hXb.out⟩
              · have hout := Aside0.mk (show inB m ii = false from decide_eq_false hin)
                clear hin
                go_wp2_with fail
                go_quiet ((first | (go_at_call 8; exact Calls.quiet_of_same ((hSX.out.drewN _).s.mark_out ii hout.out on)) | (go_at_call 14; exact Calls.quiet_of_same (rmark_out _ bx gx L ii on _ ((hSX.out.drewN _).r) (by rw [hSX.out.s.ln]; exact hout.out)))))
                go_wp2
                go_meet
                case rel => exact ⟨rfl, L, hSX.out.drewN _⟩
            · have d4 : (kk == 1) = false := by simpa using hk1
              clear hk0 hk1
              obtain ⟨v, hv⟩ : ∃ v, (inB m ii && L.getD ii.toNat false) = v := ⟨_, rfl⟩
              replace hv := Aside0.mk hv
              have hru := Aside0.mk (fun (W : World) (hrw : RW W w.heap.size bx gx L) => by
                have := rused_calls _ bx gx L ii W hrw (by have := hSX.out.s.ln; have := hSX.out.s.le; omega)
                rw [hSX.out.s.ln, hv.out] at this
                exact this)
              go_wp2_with fail
              go_quiet ((first | (go_at_call 15; exact Calls.quiet_of_same ((hSX.out.drewN _).s.used ii v hv.out)) | (go_at_call 16; exact Calls.quiet_of_same (hru.out _ (hSX.out.drewN _).r))))
              go_wp2
              go_meet
              case rel => exact ⟨by cases v <;> rfl, L, hSX.out.drewN _⟩
        case rest =>
          clear q0 q1 q2 hSX hq
          obtain ⟨rfl, L1, hSX⟩ := hcut
          have hln := Aside0.mk hSX.s.ln
          have hle := Aside0.mk hSX.s.le
          obtain ⟨ws, hbw, hrep⟩ := hSX.s.bm
          have hl16 := Aside0.mk (show ws.length ≤ 1000000 by have := hrep.len; have := hln.out; omega)
          replace hrep := Aside0.mk hrep
          have h0x := hSX.r.c0
          rw [hln.out] at h0x
          have hd := Aside0.mk hSX.drew
          obtain ⟨lv, hlv⟩ : ∃ lv, (leftN L1 : Int) = lv := ⟨_, rfl⟩
          have hrl := Aside0.mk (by
            have := rleft_calls _ bx gx L1 _ hd.out.r (by rw [hln.out]; exact hle.out)
            rw [hlv] at this
            exact this)
          replace hlv := Aside0.mk hlv
          have dmm : ((m : Int) != (m : Int)) = false := by simp
          have dll : (lv != lv) = false := by simp
          clear hbw hSX
          go_upto_region 14 with fail
          go_cut [112] from 18 to 112 (fun v112 wx => v112 = .bool false ∧ SX w wx b g m bx gx L1)
          case first =>
            go_region_held3 (fun W => W.cell? ⟨bx, 0, none⟩ = some (.slice (some ⟨gx, 0, none⟩) m m)) (first | exact h0x | exact hk1 | exact hk2 | exact hk3 | exact hk4 | exact hk5 | go_keep)
              (first
                | (go_at_call 17; (with_reducible refine hd.out.s.len.mono ?_); rintro e w3 ⟨rfl, rfl⟩)
                | (go_at_call 10; (with_reducible refine (hd.out.s.left lv hlv.out).mono ?_); rintro e w3 ⟨rfl, rfl⟩)
                | (go_at_call 18; (with_reducible refine hrl.out.mono ?_); rintro e w3 ⟨rfl, rfl⟩)
                | (go_at_call 20; (with_reducible refine (hd.out.s.words ws hrep.out _ rfl).mono ?_); rintro e w5 ⟨A5, c5, rfl, hc5, hC5, hB5⟩; (have hSa := Aside0.mk (hd.out.below hB5)); (have hk1 := hSa.out.r.c0); rw [hln.out] at hk1; replace hc5 := Aside0.mk hc5; replace hC5 := Aside0.mk hC5; clear hB5)
                | (go_at_call 21; (with_reducible refine (rwords_at hSa.out.r (by rw [hln.out]; exact hle.out) hrep.out).mono ?_); rintro e w6 ⟨A6, c6, rfl, hc6, hC6, hB6⟩; (have hSb := Aside0.mk (hSa.out.below hB6)); (have hk2 := hSb.out.r.c0); rw [hln.out] at hk2; (have hcm := Aside0.mk (cmp_calls ws hl16.out _ _ _ _ _ (Kd.C_below hC5.out hB6) hc5.out hC6 hc6)); clear hB6 hC6 hc6)
                | (go_at_call 21; (with_reducible refine (rwords_at hd.out.r (by rw [hln.out]; exact hle.out) hrep.out).mono ?_); rintro e w5 ⟨A5, c5, rfl, hc5, hC5, hB5⟩; (have hSr := Aside0.mk (hd.out.below hB5)); (have hk3 := hSr.out.r.c0); rw [hln.out] at hk3; replace hc5 := Aside0.mk hc5; replace hC5 := Aside0.mk hC5; clear hB5)
                | (go_at_call 20; (with_reducible refine (hSr.out.s.words ws hrep.out _ rfl).mono ?_); rintro e w6 ⟨A6, c6, rfl, hc6, hC6, hB6⟩; (have hSb := Aside0.mk (hSr.out.below hB6)); (have hk4 := hSb.out.r.c0); rw [hln.out] at hk4; (have hcm := Aside0.mk (cmp_calls ws hl16.out _ _ _ _ _ hC6 hc6 (Kd.C_below hC5.out hB6) hc5.out)); clear hB6 hC6 hc6)
                | (go_at_call 19; (with_reducible refine hcm.out.mono ?_); rintro e w7 ⟨rfl, hB7⟩; (have hSc := Aside0.mk (hSb.out.below hB7)); (have hk5 := hSc.out.r.c0); rw [hln.out] at hk5; clear hB7))
            all_goals
              go_wp2
              go_meet
              case rel => exact ⟨rfl, hSc.out⟩
          case rest =>
            clear h0x hd hrl
            obtain ⟨rfl, hSX⟩ := hcut
            replace hSX := Aside0.mk hSX
            go_wp2
            go_roundg gk
            case measure => have := hik.out; omega
            case rel => exact ⟨i + 1, L1, by go_num, by have := hik.out; omega, hSX.out⟩
end Go.Proofs.YtmfabgdgpdgdiaaDoor.Q
