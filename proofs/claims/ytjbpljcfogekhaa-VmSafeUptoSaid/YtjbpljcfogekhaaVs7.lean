/- januslaw07.VmSafe: part 7 of 7: what the walks and the plain law need, in order. -/
import Derived.Test.YtjbpljcfogekhaaVs6
set_option linter.unusedVariables false
set_option linter.unusedSimpArgs false
namespace Go.Proofs.Ytjbpljcfogekhaa.Q
open Go.RowKit YtjbpljcfogekhaaW.PrintWords YtjbpljcfogekhaaW.PrintLast YtjbpljcfogekhaaW.PrintMore
attribute [local go_sem] max2_int min2_int max_two min_two max_three min_three max_four min_four
mutual
def lVs.l0 : Nat → ByteArray → Int → List Int → List (S36) → List Int → Int → Int → List Int → Option (Bool)
 | 0, _, _, _, _, _, _, _, _ => none
 | k + 1, x0, x1, x5, x7, x10, x11, xc0z0, xc0z1 => if x11 < x1 then (lVs.j1 k x0 x1 x5 x7 x10 x11 (decide (x11 < 200)) xc0z0 xc0z1) else (lVs.j1 k x0 x1 x5 x7 x10 x11 false xc0z0 xc0z1)
def lVs.j1 : Nat → ByteArray → Int → List Int → List (S36) → List Int → Int → Bool → Int → List Int → Option (Bool)
 | 0, _, _, _, _, _, _, _, _, _ => none
 | k + 1, x0, x1, x5, x7, x10, x11, x40, xc0z0, xc0z1 => if x40 = true then ((vm_Run.f k x0 xc0z0 xc0z1 x10 1).bind fun btc4 => (lVs.l1 k x0 x1 x5 x7 x11 btc4.2.2.1 btc4.2.2.2.2.2.2.2 (-1) 0 xc0z0 xc0z1 btc4.1 btc4.2.1 btc4.2.2.2.1 btc4.2.2.2.2.1 btc4.2.2.2.2.2.1 btc4.2.2.2.2.2.2.1)) else ((januslaw07_awake.f k).bind fun tc3 => (some tc3))
def lVs.l1 : Nat → ByteArray → Int → List Int → List (S36) → Int → List Int → Int → Int → Int → Int → List Int → Int → List Int → Int → Int → Int → Int → Option (Bool)
 | 0, _, _, _, _, _, _, _, _, _, _, _, _, _, _, _, _, _ => none
 | k + 1, x0, x1, x5, x7, x11, x13, x15, x16, x17, xc0z0, xc0z1, xd7z0, xd7z1, xd8z0, xd8z1, xd8z2, xd8z3 => if x17 < (x7.length : Int) then (if 0 ≤ x17 then (if ((rd_T36 x7 x17).f2) = xc0z0 then (lVs.l1 k x0 x1 x5 x7 x11 x13 x15 x17 (wrap64 (x17 + 1)) xc0z0 xc0z1 xd7z0 xd7z1 xd8z0 xd8z1 xd8z2 xd8z3) else (lVs.l1 k x0 x1 x5 x7 x11 x13 x15 x16 (wrap64 (x17 + 1)) xc0z0 xc0z1 xd7z0 xd7z1 xd8z0 xd8z1 xd8z2 xd8z3)) else (none)) else (if x16 < 0 then (lVs.j3 k x0 x1 x5 x7 x11 x13 x15 x16 true xc0z0 xc0z1 xd7z0 xd7z1 xd8z0 xd8z1 xd8z2 xd8z3) else (if 0 ≤ x16 then (if x16 < (x5.length : Int) then (lVs.j3 k x0 x1 x5 x7 x11 x13 x15 x16 ((rd x5 x16) != (xc0z1.length : Int)) xc0z0 xc0z1 xd7z0 xd7z1 xd8z0 xd8z1 xd8z2 xd8z3) else (none)) else (none)))
def lVs.j3 : Nat → ByteArray → Int → List Int → List (S36) → Int → List Int → Int → Int → Bool → Int → List Int → Int → List Int → Int → Int → Int → Int → Option (Bool)
 | 0, _, _, _, _, _, _, _, _, _, _, _, _, _, _, _, _, _ => none
 | k + 1, x0, x1, x5, x7, x11, x13, x15, x16, x78, xc0z0, xc0z1, xd7z0, xd7z1, xd8z0, xd8z1, xd8z2, xd8z3 => if x78 = true then (none) else (if xd8z0 = 4 then (if 0 ≤ x16 then (if x16 < (x7.length : Int) then (if ((rd_T36 x7 x16).f0) = 9 then (if x15 = 0 then ((januslaw07_awake.f k).bind fun te1 => (some te1)) else (none)) else (if ((rd_T36 x7 x16).f0) = 10 then (if x15 = 0 then ((januslaw07_awake.f k).bind fun te2 => (some te2)) else (none)) else (if ((rd_T36 x7 x16).f0) = 19 then (if x15 = 0 then ((januslaw07_awake.f k).bind fun te3 => (some te3)) else (none)) else (if ((rd_T36 x7 x16).f0) = 20 then (if x15 = 0 then ((januslaw07_awake.f k).bind fun te4 => (some te4)) else (none)) else (none))))) else (none)) else (none)) else (if xd8z0 = 3 then ((vm_Done.f k x0 xc0z0 xc0z1 (IntKind.u64.wrap (x11))).bind fun bte5 => (if 0 ≤ x16 then (if x16 < (x7.length : Int) then (if ((rd_T36 x7 x16).f0) = 23 then (if (x13.length : Int) = 128 then (lVs.l0 k x0 x1 x5 x7 x13 (wrap64 (x11 + 1)) bte5.1 bte5.2) else (none)) else (none)) else (none)) else (none))) else (if (x13.length : Int) = 128 then (lVs.l0 k x0 x1 x5 x7 x13 (wrap64 (x11 + 1)) xd7z0 xd7z1) else (none))))
end
def lVs.f (k : Nat) (a0 : ByteArray) (a1 : Int) : Option (Bool) := (janusref06_Depths.f k a0).bind fun btb0 => (if btb0.2 = 0 then ((janusref05_Decode.f k a0).bind fun btb5 => (if 128 ≤ 35184372088832 then (lVs.l0 k a0 a1 btb0.1 btb5.1 (List.replicate 128 0) 0 0 ([] : List Int)) else (none))) else ((januslaw07_awake.f k).bind fun tb4 => (some tb4)))
set_option maxHeartbeats 8000000 in
set_option maxRecDepth 100000 in
theorem lVs.calls (k : Nat) (a0 : ByteArray) (a1 : Int) (r : Bool) (w : World) (h : lVs.f k a0 a1 = some r) :
  Calls Try.prog 12 #[.string a0, .int .i64 a1] w fun e w' => e = .returned (.bool r) ∧ Below w.heap.size w w' := by
 have hu59 := Try.underlying59
 have hu61 := Try.underlying61
 have HB := Aside0.mk (Below.refl w.heap.size w)
 have H : ((janusref06_Depths.f k a0).bind fun btb0 => (if btb0.2 = 0 then ((janusref05_Decode.f k a0).bind fun btb5 => (if 128 ≤ 35184372088832 then (lVs.l0 k a0 a1 btb0.1 btb5.1 (List.replicate 128 0) 0 0 ([] : List Int)) else (none))) else ((januslaw07_awake.f k).bind fun tb4 => (some tb4)))) = some r := h
 clear h
 replace H := Option.bind_eq_some_iff.mp H
 obtain ⟨⟨tb0, tb1⟩, A30, H⟩ := H
 replace H : (if tb1 = 0 then ((janusref05_Decode.f k a0).bind fun btb5 => (if 128 ≤ 35184372088832 then (lVs.l0 k a0 a1 tb0 btb5.1 (List.replicate 128 0) 0 0 ([] : List Int)) else (none))) else ((januslaw07_awake.f k).bind fun tb4 => (some tb4))) = some r := H
 have A3 := Aside0.mk A30
 clear A30
 by_cases c4 : tb1 = 0
 ·rw [if_pos c4] at H
  have c4b0 : (tb1 == 0) = true := beq_iff_eq.mpr c4
  have c4b1 : (tb1 != 0) = false := bne_eq_false_iff_eq.mpr c4
  clear c4
  replace H := Option.bind_eq_some_iff.mp H
  obtain ⟨⟨tb5, tb6⟩, A50, H⟩ := H
  replace H : (if 128 ≤ 35184372088832 then (lVs.l0 k a0 a1 tb0 tb5 (List.replicate 128 0) 0 0 ([] : List Int)) else (none)) = some r := H
  have A5 := Aside0.mk A50
  clear A50
  by_cases c6 : 128 ≤ 35184372088832
  ·rw [if_pos c6] at H
   have c6b0 := eq_true c6
   have c6b1 : decide (128 ≤ 35184372088832) = true := decide_eq_true c6
   clear c6
   obtain ⟨yc0, hyc0⟩ : ∃ y_ : List Int, y_ = (List.replicate 128 0) := ⟨_, rfl⟩
   replace H : (lVs.l0 k a0 a1 tb0 tb5 yc0 0 0 ([] : List Int)) = some r := by first | (rw [hyc0]; with_reducible exact H) | (have H2_ := (Option.bind_some _ _).symm.trans H; rw [hyc0]; with_reducible exact H2_) | (have H2_ := (Option.bind_some _ _).symm.trans H; with_reducible exact H2_) | with_reducible exact H | (rw [hyc0]; exact H) | exact H
   have Nyc0 := Aside0.mk hyc0
   clear hyc0
   have H' := Aside0.mk H
   clear H
   go_enter Try.func12, Try.ntmps12
   go_wp2_with (first | (go_at_call 30; (with_reducible refine (janusref06_Depths.calls k a0 tb0 tb1 _ A3.out).mono ?_); rintro e w7 ⟨vb2, rfl, ho0, hb⟩; have n0_ := Aside0.mk (Kd.R_lower ho0 (below_size (by repeat (first | (with_reducible first | exact HB.out | apply below_alloc | apply pw_below_drewN | apply below_drew1) | exact HB.out)))); have n1_ := Aside0.mk (below_step (by repeat (first | (with_reducible first | exact HB.out | apply below_alloc | apply pw_below_drewN | apply below_drew1) | exact HB.out)) hb); clear HB; have HOb3 := n0_; have HB := n1_; clear n0_ n1_; (try clear hb); (try clear hb2); (try clear hk); (try clear hi); (try clear ho0)) | (go_at_call 19; (with_reducible refine (janusref05_Decode.calls k a0 tb5 tb6 _ A5.out).mono ?_); rintro e w8 ⟨vb7, rfl, ho0, hb⟩; have n0_ := Aside0.mk (Kd.R_below (by (with_reducible repeat (first | apply Kd.R_alloc | apply Kd.R_drewN | apply Kd.R_drew)); exact HOb3.out) hb); have n1_ := Aside0.mk (Kd.R_lower ho0 (below_size (by repeat (first | (with_reducible first | exact HB.out | apply below_alloc | apply pw_below_drewN | apply below_drew1) | exact HB.out)))); have n2_ := Aside0.mk (below_step (by repeat (first | (with_reducible first | exact HB.out | apply below_alloc | apply pw_below_drewN | apply below_drew1) | exact HB.out)) hb); clear HOb3; clear HB; have HOb3 := n0_; have HOb8 := n1_; have HB := n2_; clear n0_ n1_ n2_; (try clear hb); (try clear hb2); (try clear hk); (try clear hi); (try clear ho0)) | ((with_reducible refine gate_dst (N := 9) rfl ?_); (try (refine gate_guard (by rfl) ?_; dsimp only)); refine box_event ?hg (N := 9) ?hd (cs := #[.int .i64 0, .slice none 0 0]) (t := 59) ?hr ?_; (case hd => rfl); (case hg => rfl); (case hr => first | (go_simp; done) | (go_simp; rfl)); intro gbb9 hg w9 hbox hb; have n0_ := Aside0.mk (Kd.R_below (by (with_reducible repeat (first | apply Kd.R_alloc | apply Kd.R_drewN | apply Kd.R_drew)); exact HOb3.out) hb); have n1_ := Aside0.mk (Kd.R_below (by (with_reducible repeat (first | apply Kd.R_alloc | apply Kd.R_drewN | apply Kd.R_drew)); exact HOb8.out) hb); have n2_ := Aside0.mk (below_step (by repeat (first | (with_reducible first | exact HB.out | apply below_alloc | apply pw_below_drewN | apply below_drew1) | exact HB.out)) hb); have n3_ := Aside0.mk (hbox); have n4_ := Aside0.mk ((by rw [hg]; exact (below_size (by repeat (first | (with_reducible first | exact HB.out | apply below_alloc | apply pw_below_drewN | apply below_drew1) | exact HB.out))) : w.heap.size ≤ gbb9)); have n5_ := Aside0.mk ((by rw [hg]; exact (below_size (by repeat (first | (with_reducible first | exact HB.out | apply below_alloc | apply pw_below_drewN | apply below_drew1) | exact HB.out))) : w.heap.size ≤ gbb9)); clear HOb3; clear HOb8; clear HB; have HOb3 := n0_; have HOb8 := n1_; have HB := n2_; have BKb9 := n3_; have GWb9 := n4_; have GEb9 := n5_; clear n0_ n1_ n2_ n3_ n4_ n5_; clear hb hbox hg; have hcz10_0 : w9.cell? ⟨gbb9, 0, none⟩ = some (.int .i64 0) := (blk_cell BKb9.out 0).trans rfl; have hcz10_1 : w9.cell? ⟨gbb9, 1, none⟩ = some (.slice none 0 0) := (blk_cell BKb9.out 1).trans rfl; have hfz10_0 := blk_frozen BKb9.out 0; have hfz10_1 := blk_frozen BKb9.out 1) | ((with_reducible refine gate_dst (N := 33) rfl ?_); (try (refine gate_guard (by rfl) ?_; dsimp only)); refine Kd.R_make (Kd.int .u64) _ 34 rfl (N := 33) rfl 57 _ _ rfl 128 rfl rfl Try.underlying57 (.int .u64 0) 8 info34 rfl (by decide) (by omega) 0 (ok := fun _ => True) (okp := fun _ => True) rfl (fun _ hk => hk) trivial (by omega) (by omega) (Below.refl _ _) (Nat.le_refl _) ?_; intro vc1 w11 ho12 hb hg_ hnew_; clear hg_ hnew_; (first | rw [← Nyc0.out] at ho12 | (simp only [Int.reduceToNat] at ho12; rw [← Nyc0.out] at ho12)); have n0_ := Aside0.mk (Kd.R_below (by (with_reducible repeat (first | apply Kd.R_alloc | apply Kd.R_drewN | apply Kd.R_drew)); exact (Kd.R_mono (Kd.R_far (p := ⟨gbb9, 1, none⟩) (Kd.R_far (p := ⟨gbb9, 0, none⟩) (Kd.R_types HOb3.out BKb9.out (by decide)) (fun _ hk => hk.2) (.int .i64 0)) (fun _ hk => hk.2) (.slice none 0 0)) (fun _ h_ => h_.1))) hb); have n1_ := Aside0.mk (Kd.R_below (by (with_reducible repeat (first | apply Kd.R_alloc | apply Kd.R_drewN | apply Kd.R_drew)); exact (Kd.R_mono (Kd.R_far (p := ⟨gbb9, 1, none⟩) (Kd.R_far (p := ⟨gbb9, 0, none⟩) (Kd.R_types HOb8.out BKb9.out (by decide)) (fun _ hk => hk.2) (.int .i64 0)) (fun _ hk => hk.2) (.slice none 0 0)) (fun _ h_ => h_.1))) hb); have n2_ := Aside0.mk (Kd.R_lower ho12 (below_size (by repeat (first | (with_reducible first | exact HB.out | apply below_alloc | apply pw_below_drewN | apply below_drew1 | refine below_set ?_ GEb9.out) | exact HB.out)))); have n3_ := Aside0.mk (blk_below (g := gbb9) (o := .cells #[.int .i64 0, .slice none 0 0] 59 (0, 0)) (by (with_reducible repeat (first | refine blk_drewN ?_ _ | refine blk_drew ?_ | refine blk_alloc ?_ _)); refine blk_put (cs := #[.int .i64 0, .slice none 0 0]) ?_ 1 _ rfl; (with_reducible repeat (first | refine blk_drewN ?_ _ | refine blk_drew ?_ | refine blk_alloc ?_ _)); refine blk_put (cs := #[.int .i64 0, .slice none 0 0]) ?_ 0 _ rfl; (with_reducible repeat (first | refine blk_drewN ?_ _ | refine blk_drew ?_ | refine blk_alloc ?_ _)); exact BKb9.out) hb); have n4_ := Aside0.mk (below_step (by repeat (first | (with_reducible first | exact HB.out | apply below_alloc | apply pw_below_drewN | apply below_drew1 | refine below_set ?_ GEb9.out) | exact HB.out)) hb); clear HOb3; clear HOb8; clear BKb9; clear HB; have HOb3 := n0_; have HOb8 := n1_; have HOc2 := n2_; have BKb9 := n3_; have HB := n4_; clear n0_ n1_ n2_ n3_ n4_; clear hb ho12))
   repeat (go_quiet (fail); try go_wp2)
   go_loopg [10, 11] k (fun kq v10 v11 w' => ∃ (x10_1 : List Int) (x11_1 : Int) (xc0z0_1 : Int) (xc0z1_1 : List Int) (uc0z1 : Value), v11 = .int .i64 x11_1 ∧ Aside0 (lVs.l0 kq a0 a1 tb0 tb5 x10_1 x11_1 xc0z0_1 xc0z1_1 = some r) ∧ Aside0 (kq ≤ k) ∧ Aside0 (Kd.R (Kd.int .i64) 3 w' w.heap.size (fun _ => True) vb2 tb0) ∧ Aside0 (Kd.R k36 36 w' w.heap.size (fun _ => True) vb7 tb5) ∧ Aside0 (Kd.R (Kd.int .u64) 34 w' w.heap.size (fun k_ => some k_ ≠ (uc0z1 : Value).ownBlock) v10 x10_1) ∧ Aside0 (Kd.R (Kd.int .u64) 34 w' w.heap.size (fun k_ => some k_ ≠ (v10 : Value).ownBlock) uc0z1 xc0z1_1) ∧ Aside0 (w'.heap[gbb9]? = some (.cells #[.int .i64 xc0z0_1, uc0z1] 59 (0, 0))) ∧ Aside0 (Below w.heap.size w w'))
   case atStart => exact ⟨(yc0), (0), (0), (([] : List Int)), (.slice none 0 0), (by first | rfl | (simp; done) | (simp [*]; done)), H', ⟨Nat.le_refl _⟩, ⟨by (with_reducible repeat (first | apply Kd.R_alloc | apply Kd.R_drewN | apply Kd.R_drew)); exact HOb3.out⟩, ⟨by (with_reducible repeat (first | apply Kd.R_alloc | apply Kd.R_drewN | apply Kd.R_drew)); exact HOb8.out⟩, ⟨by (with_reducible repeat (first | apply Kd.R_alloc | apply Kd.R_drewN | apply Kd.R_drew)); exact Kd.R_mono HOc2.out (fun _ hk => (by simp [Value.ownBlock]))⟩, ⟨by first | exact Kd.R_nil _ _ _ _ _ | exact Kd.N_nil _ _ _ _ _ | exact Kd.V_nil _ _ _ _ _ | exact Kd.Q_nil _ _ _ _ _ | exact Kd.S_nil _ _ _ _ _⟩, ⟨by (with_reducible repeat (first | refine blk_drewN ?_ _ | refine blk_drew ?_ | refine blk_alloc ?_ _)); exact BKb9.out⟩, ⟨by repeat (first | (with_reducible first | exact HB.out | apply below_alloc | apply pw_below_drewN | apply below_drew1 | refine below_set ?_ GEb9.out) | exact HB.out)⟩⟩
   case round =>
    clear H'
    try clear c1
    try clear p2
    try clear c4
    try clear c4b0
    try clear c4b1
    try clear c6
    try clear c6b0
    try clear c6b1
    try clear c12
    try clear hcz10_0
    try clear hcz10_1
    try clear hfz10_0
    try clear hfz10_1
    obtain ⟨x10_1, x11_1, xc0z0_1, xc0z1_1, uc0z1, rfl, HA, HK1, HO_5, HO_7, HO_10, HO_c0z1, BKb9, HB⟩ := hrel
    cases gk with
    | zero => exact absurd HA.out (by simp [lVs.l0])
    | succ k1 =>
     have H := HA.out
     clear HA
     simp only [lVs.l0] at H
     have HC13 := Aside0.mk H
     clear H
     go_upto_region 8 with (fail)
     repeat (go_quiet (fail); go_upto_region 8 with (fail))
     go_cut [40] (fun v40 wc => ∃ (kq : Nat) (x40_12 : Bool), v40 = .bool x40_12 ∧ Aside0 (lVs.j1 kq a0 a1 tb0 tb5 x10_1 x11_1 x40_12 xc0z0_1 xc0z1_1 = some r) ∧ Aside0 (kq ≤ k1) ∧ Aside0 (Kd.R (Kd.int .i64) 3 wc w.heap.size (fun _ => True) vb2 tb0) ∧ Aside0 (Kd.R k36 36 wc w.heap.size (fun _ => True) vb7 tb5) ∧ Aside0 (Kd.R (Kd.int .u64) 34 wc w.heap.size (fun k_ => some k_ ≠ (uc0z1 : Value).ownBlock) u10 x10_1) ∧ Aside0 (Kd.R (Kd.int .u64) 34 wc w.heap.size (fun k_ => some k_ ≠ (u10 : Value).ownBlock) uc0z1 xc0z1_1) ∧ Aside0 (wc.heap[gbb9]? = some (.cells #[.int .i64 xc0z0_1, uc0z1] 59 (0, 0))) ∧ Aside0 (Below w.heap.size w wc))
     case first =>
      have H := HC13.out
      clear HC13
      by_cases c14 : x11_1 < a1
      ·rw [if_pos c14] at H
       have c14b0 : decide (x11_1 < a1) = true := decide_eq_true c14
       clear c14
       (first | rw [c14b0] | (simp only [i64_w, i32_w]; rw [c14b0]) | skip)
       have H' := Aside0.mk H
       clear H
       go_wp2
       repeat (go_quiet (fail); try go_wp2)
       go_meet
       case rel => exact ⟨_, (decide (x11_1 < 200)), (by first | rfl | (simp; done) | (simp [*]; done)), H', ⟨by have := HK1.out; first | omega | exact Nat.le_refl _⟩, ⟨by (with_reducible repeat (first | apply Kd.R_alloc | apply Kd.R_drewN | apply Kd.R_drew)); exact HO_5.out⟩, ⟨by (with_reducible repeat (first | apply Kd.R_alloc | apply Kd.R_drewN | apply Kd.R_drew)); exact HO_7.out⟩, ⟨by (with_reducible repeat (first | apply Kd.R_alloc | apply Kd.R_drewN | apply Kd.R_drew)); exact HO_10.out⟩, ⟨by (with_reducible repeat (first | apply Kd.R_alloc | apply Kd.R_drewN | apply Kd.R_drew)); exact HO_c0z1.out⟩, ⟨by (with_reducible repeat (first | refine blk_drewN ?_ _ | refine blk_drew ?_ | refine blk_alloc ?_ _)); exact BKb9.out⟩, ⟨by repeat (first | (with_reducible first | exact HB.out | apply below_alloc | apply pw_below_drewN | apply below_drew1 | refine below_set ?_ GEb9.out) | exact HB.out)⟩⟩
      ·rw [if_neg c14] at H
       have c14b0 : decide (x11_1 < a1) = false := decide_eq_false c14
       clear c14
       (first | rw [c14b0] | (simp only [i64_w, i32_w]; rw [c14b0]) | skip)
       have H' := Aside0.mk H
       clear H
       go_wp2
       repeat (go_quiet (fail); try go_wp2)
       go_meet
       case rel => exact ⟨_, (false), (by first | rfl | (simp; done) | (simp [*]; done)), H', ⟨by have := HK1.out; first | omega | exact Nat.le_refl _⟩, ⟨by (with_reducible repeat (first | apply Kd.R_alloc | apply Kd.R_drewN | apply Kd.R_drew)); exact HO_5.out⟩, ⟨by (with_reducible repeat (first | apply Kd.R_alloc | apply Kd.R_drewN | apply Kd.R_drew)); exact HO_7.out⟩, ⟨by (with_reducible repeat (first | apply Kd.R_alloc | apply Kd.R_drewN | apply Kd.R_drew)); exact HO_10.out⟩, ⟨by (with_reducible repeat (first | apply Kd.R_alloc | apply Kd.R_drewN | apply Kd.R_drew)); exact HO_c0z1.out⟩, ⟨by (with_reducible repeat (first | refine blk_drewN ?_ _ | refine blk_drew ?_ | refine blk_alloc ?_ _)); exact BKb9.out⟩, ⟨by repeat (first | (with_reducible first | exact HB.out | apply below_alloc | apply pw_below_drewN | apply below_drew1 | refine below_set ?_ GEb9.out) | exact HB.out)⟩⟩
     case rest =>
      clear HC13
      try clear c1
      try clear p2
      try clear c4
      try clear c4b0
      try clear c4b1
      try clear c6
      try clear c6b0
      try clear c6b1
      try clear c12
      try clear c14
      try clear c14b0
      try clear hcz10_0
      try clear hcz10_1
      try clear hfz10_0
      try clear hfz10_1
      try clear p2
      obtain ⟨kq, x40_12, rfl, HA, HJ12, HO_5, HO_7, HO_10, HO_c0z1, BKb9, HB⟩ := hcut
      cases kq with
      | zero => exact absurd HA.out (by simp [lVs.j1])
      | succ kj12 =>
       have H := HA.out
       clear HA
       simp only [lVs.j1] at H
       by_cases c15 : x40_12 = true
       ·subst c15
        have H1 : ((vm_Run.f kj12 a0 xc0z0_1 xc0z1_1 x10_1 1).bind fun btc4 => (lVs.l1 kj12 a0 a1 tb0 tb5 x11_1 btc4.2.2.1 btc4.2.2.2.2.2.2.2 (-1) 0 xc0z0_1 xc0z1_1 btc4.1 btc4.2.1 btc4.2.2.2.1 btc4.2.2.2.2.1 btc4.2.2.2.2.2.1 btc4.2.2.2.2.2.2.1)) = some r := by rw [if_pos rfl] at H; exact H
        clear H
        have H := H1
        clear H1
        replace H := Option.bind_eq_some_iff.mp H
        obtain ⟨⟨tc4, tc5, tc8, td1, td2, td3, td4, td5⟩, A160, H⟩ := H
        replace H : (lVs.l1 kj12 a0 a1 tb0 tb5 x11_1 tc8 td5 (-1) 0 xc0z0_1 xc0z1_1 tc4 tc5 td1 td2 td3 td4) = some r := H
        have A16 := Aside0.mk A160
        clear A160
        have H' := Aside0.mk H
        clear H
        have hcz17_0 : wc.cell? ⟨gbb9, 0, none⟩ = some (.int .i64 xc0z0_1) := (blk_cell BKb9.out 0).trans rfl
        have hcz17_1 : wc.cell? ⟨gbb9, 1, none⟩ = some (uc0z1) := (blk_cell BKb9.out 1).trans rfl
        have hfz17_0 := blk_frozen BKb9.out 0
        have hfz17_1 := blk_frozen BKb9.out 1
        obtain ⟨Ao18, co18, eo18⟩ := Kd.R_slice HO_c0z1.out
        subst eo18
        obtain ⟨Ao19, co19, eo19⟩ := Kd.R_slice HO_10.out
        subst eo19
        go_wp2_with (first | (go_at_call 35; (with_reducible refine (vm_Run.calls kj12 a0 xc0z0_1 _ _ xc0z1_1 _ _ x10_1 1 tc4 tc5 tc8 td1 td2 td3 td4 td5 _ ?side1 ?side2 ?side3 ?side4 A16.out).mono ?_); (case side1 => repeat (first | exact (Kd.R_reads' HO_c0z1.out).2.2 | (with_reducible refine Kd.C_alloc ?_ _) | (with_reducible refine Kd.C_drewN ?_ _) | (with_reducible refine Kd.C_drew ?_))); (case side2 => exact (Kd.R_reads' HO_c0z1.out).2.1); (case side3 => repeat (first | exact (Kd.R_reads' HO_10.out).2.2 | (with_reducible refine Kd.C_alloc ?_ _) | (with_reducible refine Kd.C_drewN ?_ _) | (with_reducible refine Kd.C_drew ?_))); (case side4 => exact (Kd.R_reads' HO_10.out).2.1); rintro e w20 ⟨vc6, vc9, rfl, ho0, ho1, hb⟩; have n0_ := Aside0.mk (Kd.R_below (by (with_reducible repeat (first | apply Kd.R_alloc | apply Kd.R_drewN | apply Kd.R_drew)); exact HO_5.out) hb); have n1_ := Aside0.mk (Kd.R_below (by (with_reducible repeat (first | apply Kd.R_alloc | apply Kd.R_drewN | apply Kd.R_drew)); exact HO_7.out) hb); have n2_ := Aside0.mk (Kd.R_mono (Kd.R_told (Kd.R_told (Kd.R_old (by (with_reducible repeat (first | apply Kd.R_alloc | apply Kd.R_drewN | apply Kd.R_drew)); exact HO_10.out) hb) (Kd.R_base ho0)) (Kd.R_base ho1)) (fun _ h_ => h_.1)); have n3_ := Aside0.mk (Kd.R_mono (Kd.R_told (Kd.R_told (Kd.R_old (by (with_reducible repeat (first | apply Kd.R_alloc | apply Kd.R_drewN | apply Kd.R_drew)); exact HO_c0z1.out) hb) (Kd.R_base ho0)) (Kd.R_base ho1)) (fun _ h_ => h_.1)); have n4_ := Aside0.mk (Kd.R_lower (Kd.R_new' (Kd.R_new' ho0 (Kd.R_lt (by (with_reducible repeat (first | apply Kd.R_alloc | apply Kd.R_drewN | apply Kd.R_drew)); exact HO_10.out))) (Kd.R_lt (by (with_reducible repeat (first | apply Kd.R_alloc | apply Kd.R_drewN | apply Kd.R_drew)); exact HO_c0z1.out))) (below_size (by repeat (first | (with_reducible first | exact HB.out | apply below_alloc | apply pw_below_drewN | apply below_drew1 | refine below_set ?_ GEb9.out) | exact HB.out)))); have n5_ := Aside0.mk (Kd.R_lower (Kd.R_new' (Kd.R_new' ho1 (Kd.R_lt (by (with_reducible repeat (first | apply Kd.R_alloc | apply Kd.R_drewN | apply Kd.R_drew)); exact HO_10.out))) (Kd.R_lt (by (with_reducible repeat (first | apply Kd.R_alloc | apply Kd.R_drewN | apply Kd.R_drew)); exact HO_c0z1.out))) (below_size (by repeat (first | (with_reducible first | exact HB.out | apply below_alloc | apply pw_below_drewN | apply below_drew1 | refine below_set ?_ GEb9.out) | exact HB.out)))); have n6_ := Aside0.mk (blk_below (g := gbb9) (o := .cells #[.int .i64 xc0z0_1, .slice Ao18 xc0z1_1.length co18] 59 (0, 0)) (by (with_reducible repeat (first | refine blk_drewN ?_ _ | refine blk_drew ?_ | refine blk_alloc ?_ _)); exact BKb9.out) hb); have n7_ := Aside0.mk (below_step (by repeat (first | (with_reducible first | exact HB.out | apply below_alloc | apply pw_below_drewN | apply below_drew1 | refine below_set ?_ GEb9.out) | exact HB.out)) hb); clear HO_5; clear HO_7; clear HO_10; clear HO_c0z1; clear BKb9; clear HB; have HO_5 := n0_; have HO_7 := n1_; have HO_10 := n2_; have HO_c0z1 := n3_; have HOc7 := n4_; have HOd0 := n5_; have BKb9 := n6_; have HB := n7_; clear n0_ n1_ n2_ n3_ n4_ n5_ n6_ n7_; (try clear hb); (try clear hb2); (try clear hk); (try clear hi); (try clear ho0); (try clear ho1)) | ((with_reducible refine gate_dst (N := 12) rfl ?_); (try (refine gate_guard (by rfl) ?_; dsimp only)); refine box_event ?hg (N := 12) ?hd (cs := #[.int .i64 0, .slice none 0 0]) (t := 59) ?hr ?_; (case hd => rfl); (case hg => rfl); (case hr => first | (go_simp; done) | (go_simp; rfl)); intro gbd6 hg w21 hbox hb; have n0_ := Aside0.mk (Kd.R_below (by (with_reducible repeat (first | apply Kd.R_alloc | apply Kd.R_drewN | apply Kd.R_drew)); exact HO_5.out) hb); have n1_ := Aside0.mk (Kd.R_below (by (with_reducible repeat (first | apply Kd.R_alloc | apply Kd.R_drewN | apply Kd.R_drew)); exact HO_7.out) hb); have n2_ := Aside0.mk (Kd.R_below (by (with_reducible repeat (first | apply Kd.R_alloc | apply Kd.R_drewN | apply Kd.R_drew)); exact HO_10.out) hb); have n3_ := Aside0.mk (Kd.R_below (by (with_reducible repeat (first | apply Kd.R_alloc | apply Kd.R_drewN | apply Kd.R_drew)); exact HO_c0z1.out) hb); have n4_ := Aside0.mk (Kd.R_below (by (with_reducible repeat (first | apply Kd.R_alloc | apply Kd.R_drewN | apply Kd.R_drew)); exact HOc7.out) hb); have n5_ := Aside0.mk (Kd.R_below (by (with_reducible repeat (first | apply Kd.R_alloc | apply Kd.R_drewN | apply Kd.R_drew)); exact HOd0.out) hb); have n6_ := Aside0.mk (blk_below (g := gbb9) (o := .cells #[.int .i64 xc0z0_1, .slice Ao18 xc0z1_1.length co18] 59 (0, 0)) (by (with_reducible repeat (first | refine blk_drewN ?_ _ | refine blk_drew ?_ | refine blk_alloc ?_ _)); exact BKb9.out) hb); have n7_ := Aside0.mk (below_step (by repeat (first | (with_reducible first | exact HB.out | apply below_alloc | apply pw_below_drewN | apply below_drew1 | refine below_set ?_ GEb9.out) | exact HB.out)) hb); have n8_ := Aside0.mk (hbox); have n9_ := Aside0.mk ((by rw [hg]; exact (below_size (by repeat (first | (with_reducible first | exact HB.out | apply below_alloc | apply pw_below_drewN | apply below_drew1 | refine below_set ?_ GEb9.out) | exact HB.out))) : w.heap.size ≤ gbd6)); have n10_ := Aside0.mk ((by rw [hg]; exact (below_size (by repeat (first | (with_reducible first | exact HB.out | apply below_alloc | apply pw_below_drewN | apply below_drew1 | refine below_set ?_ GEb9.out) | exact HB.out))) : w.heap.size ≤ gbd6)); have n11_ := Aside0.mk ((by rw [hg]; exact Nat.ne_of_lt (blk_lt (g := gbb9) (o := .cells #[.int .i64 xc0z0_1, .slice Ao18 xc0z1_1.length co18] 59 (0, 0)) (by (with_reducible repeat (first | refine blk_drewN ?_ _ | refine blk_drew ?_ | refine blk_alloc ?_ _)); exact BKb9.out)) : gbb9 ≠ gbd6)); have n12_ := Aside0.mk ((by rw [hg]; exact Nat.ne_of_gt (blk_lt (g := gbb9) (o := .cells #[.int .i64 xc0z0_1, .slice Ao18 xc0z1_1.length co18] 59 (0, 0)) (by (with_reducible repeat (first | refine blk_drewN ?_ _ | refine blk_drew ?_ | refine blk_alloc ?_ _)); exact BKb9.out)) : gbd6 ≠ gbb9)); clear HO_5; clear HO_7; clear HO_10; clear HO_c0z1; clear HOc7; clear HOd0; clear BKb9; clear HB; have HO_5 := n0_; have HO_7 := n1_; have HO_10 := n2_; have HO_c0z1 := n3_; have HOc7 := n4_; have HOd0 := n5_; have BKb9 := n6_; have HB := n7_; have BKd6 := n8_; have GWd6 := n9_; have GEd6 := n10_; have NBb9_d6 := n11_; have NBd6_b9 := n12_; clear n0_ n1_ n2_ n3_ n4_ n5_ n6_ n7_ n8_ n9_ n10_ n11_ n12_; clear hb hbox hg) | ((with_reducible refine gate_dst (N := 14) rfl ?_); (try (refine gate_guard (by rfl) ?_; dsimp only)); refine box_event ?hg (N := 14) ?hd (cs := #[.int .i64 0, .int .u64 0, .int .u64 0, .int .i64 0]) (t := 61) ?hr ?_; (case hd => rfl); (case hg => rfl); (case hr => first | (go_simp; done) | (go_simp; rfl)); intro gbd7 hg w22 hbox hb; have n0_ := Aside0.mk (Kd.R_below (by (with_reducible repeat (first | apply Kd.R_alloc | apply Kd.R_drewN | apply Kd.R_drew)); exact HO_5.out) hb); have n1_ := Aside0.mk (Kd.R_below (by (with_reducible repeat (first | apply Kd.R_alloc | apply Kd.R_drewN | apply Kd.R_drew)); exact HO_7.out) hb); have n2_ := Aside0.mk (Kd.R_below (by (with_reducible repeat (first | apply Kd.R_alloc | apply Kd.R_drewN | apply Kd.R_drew)); exact HO_10.out) hb); have n3_ := Aside0.mk (Kd.R_below (by (with_reducible repeat (first | apply Kd.R_alloc | apply Kd.R_drewN | apply Kd.R_drew)); exact HO_c0z1.out) hb); have n4_ := Aside0.mk (Kd.R_below (by (with_reducible repeat (first | apply Kd.R_alloc | apply Kd.R_drewN | apply Kd.R_drew)); exact HOc7.out) hb); have n5_ := Aside0.mk (Kd.R_below (by (with_reducible repeat (first | apply Kd.R_alloc | apply Kd.R_drewN | apply Kd.R_drew)); exact HOd0.out) hb); have n6_ := Aside0.mk (blk_below (g := gbb9) (o := .cells #[.int .i64 xc0z0_1, .slice Ao18 xc0z1_1.length co18] 59 (0, 0)) (by (with_reducible repeat (first | refine blk_drewN ?_ _ | refine blk_drew ?_ | refine blk_alloc ?_ _)); exact BKb9.out) hb); have n7_ := Aside0.mk (blk_below (g := gbd6) (o := .cells #[.int .i64 0, .slice none 0 0] 59 (0, 0)) (by (with_reducible repeat (first | refine blk_drewN ?_ _ | refine blk_drew ?_ | refine blk_alloc ?_ _)); exact BKd6.out) hb); have n8_ := Aside0.mk (below_step (by repeat (first | (with_reducible first | exact HB.out | apply below_alloc | apply pw_below_drewN | apply below_drew1 | refine below_set ?_ GEb9.out | refine below_set ?_ GEd6.out) | exact HB.out)) hb); have n9_ := Aside0.mk (hbox); have n10_ := Aside0.mk ((by rw [hg]; exact (below_size (by repeat (first | (with_reducible first | exact HB.out | apply below_alloc | apply pw_below_drewN | apply below_drew1 | refine below_set ?_ GEb9.out | refine below_set ?_ GEd6.out) | exact HB.out))) : w.heap.size ≤ gbd7)); have n11_ := Aside0.mk ((by rw [hg]; exact (below_size (by repeat (first | (with_reducible first | exact HB.out | apply below_alloc | apply pw_below_drewN | apply below_drew1 | refine below_set ?_ GEb9.out | refine below_set ?_ GEd6.out) | exact HB.out))) : w.heap.size ≤ gbd7)); have n12_ := Aside0.mk ((by rw [hg]; exact Nat.ne_of_lt (blk_lt (g := gbb9) (o := .cells #[.int .i64 xc0z0_1, .slice Ao18 xc0z1_1.length co18] 59 (0, 0)) (by (with_reducible repeat (first | refine blk_drewN ?_ _ | refine blk_drew ?_ | refine blk_alloc ?_ _)); exact BKb9.out)) : gbb9 ≠ gbd7)); have n13_ := Aside0.mk ((by rw [hg]; exact Nat.ne_of_gt (blk_lt (g := gbb9) (o := .cells #[.int .i64 xc0z0_1, .slice Ao18 xc0z1_1.length co18] 59 (0, 0)) (by (with_reducible repeat (first | refine blk_drewN ?_ _ | refine blk_drew ?_ | refine blk_alloc ?_ _)); exact BKb9.out)) : gbd7 ≠ gbb9)); have n14_ := Aside0.mk ((by rw [hg]; exact Nat.ne_of_lt (blk_lt (g := gbd6) (o := .cells #[.int .i64 0, .slice none 0 0] 59 (0, 0)) (by (with_reducible repeat (first | refine blk_drewN ?_ _ | refine blk_drew ?_ | refine blk_alloc ?_ _)); exact BKd6.out)) : gbd6 ≠ gbd7)); have n15_ := Aside0.mk ((by rw [hg]; exact Nat.ne_of_gt (blk_lt (g := gbd6) (o := .cells #[.int .i64 0, .slice none 0 0] 59 (0, 0)) (by (with_reducible repeat (first | refine blk_drewN ?_ _ | refine blk_drew ?_ | refine blk_alloc ?_ _)); exact BKd6.out)) : gbd7 ≠ gbd6)); clear HO_5; clear HO_7; clear HO_10; clear HO_c0z1; clear HOc7; clear HOd0; clear BKb9; clear BKd6; clear HB; have HO_5 := n0_; have HO_7 := n1_; have HO_10 := n2_; have HO_c0z1 := n3_; have HOc7 := n4_; have HOd0 := n5_; have BKb9 := n6_; have BKd6 := n7_; have HB := n8_; have BKd7 := n9_; have GWd7 := n10_; have GEd7 := n11_; have NBb9_d7 := n12_; have NBd7_b9 := n13_; have NBd6_d7 := n14_; have NBd7_d6 := n15_; clear n0_ n1_ n2_ n3_ n4_ n5_ n6_ n7_ n8_ n9_ n10_ n11_ n12_ n13_ n14_ n15_; clear hb hbox hg; have hnb23 := NBd6_b9.out; have hnc23 := NBb9_d6.out; have hnb24 := NBd6_d7.out; have hnc24 := NBd7_d6.out; have hcz25_0 : w22.cell? ⟨gbd6, 0, none⟩ = some (.int .i64 0) := (blk_cell BKd6.out 0).trans rfl; have hcz25_1 : w22.cell? ⟨gbd6, 1, none⟩ = some (.slice none 0 0) := (blk_cell BKd6.out 1).trans rfl; have hfz25_0 := blk_frozen BKd6.out 0; have hfz25_1 := blk_frozen BKd6.out 1; obtain ⟨Ao26, co26, eo26⟩ := Kd.R_slice HOc7.out; subst eo26; have hnb27 := NBd7_b9.out; have hnc27 := NBb9_d7.out; have hcz28_0 : w22.cell? ⟨gbd7, 0, none⟩ = some (.int .i64 0) := (blk_cell BKd7.out 0).trans rfl; have hcz28_1 : w22.cell? ⟨gbd7, 1, none⟩ = some (.int .u64 0) := (blk_cell BKd7.out 1).trans rfl; have hcz28_2 : w22.cell? ⟨gbd7, 2, none⟩ = some (.int .u64 0) := (blk_cell BKd7.out 2).trans rfl; have hcz28_3 : w22.cell? ⟨gbd7, 3, none⟩ = some (.int .i64 0) := (blk_cell BKd7.out 3).trans rfl; have hfz28_0 := blk_frozen BKd7.out 0; have hfz28_1 := blk_frozen BKd7.out 1; have hfz28_2 := blk_frozen BKd7.out 2; have hfz28_3 := blk_frozen BKd7.out 3))
        repeat (go_quiet (fail); try go_wp2)
        go_loopg [16, 17] kj12 (fun kq v16 v17 w' => ∃ (x16_3 : Int) (x17_3 : Int), v16 = .int .i64 x16_3 ∧ v17 = .int .i64 x17_3 ∧ Aside0 (lVs.l1 kq a0 a1 tb0 tb5 x11_1 tc8 td5 x16_3 x17_3 xc0z0_1 xc0z1_1 tc4 tc5 td1 td2 td3 td4 = some r) ∧ Aside0 (kq ≤ kj12) ∧ Aside0 (Kd.R (Kd.int .i64) 3 w' w.heap.size (fun _ => True) vb2 tb0) ∧ Aside0 (Kd.R k36 36 w' w.heap.size (fun _ => True) vb7 tb5) ∧ Aside0 (Kd.R (Kd.int .u64) 34 w' w.heap.size (fun k_ => some k_ ≠ ((.slice Ao18 xc0z1_1.length co18) : Value).ownBlock ∧ some k_ ≠ ((.slice Ao26 tc5.length co26) : Value).ownBlock) vc9 tc8) ∧ Aside0 (Kd.R (Kd.int .u64) 34 w' w.heap.size (fun k_ => some k_ ≠ (vc9 : Value).ownBlock ∧ some k_ ≠ ((.slice Ao26 tc5.length co26) : Value).ownBlock) (.slice Ao18 xc0z1_1.length co18) xc0z1_1) ∧ Aside0 (Kd.R (Kd.int .u64) 34 w' w.heap.size (fun k_ => some k_ ≠ (vc9 : Value).ownBlock ∧ some k_ ≠ ((.slice Ao18 xc0z1_1.length co18) : Value).ownBlock) (.slice Ao26 tc5.length co26) tc5) ∧ Aside0 (w'.heap[gbb9]? = some (.cells #[.int .i64 xc0z0_1, (.slice Ao18 xc0z1_1.length co18)] 59 (0, 0))) ∧ Aside0 (w'.heap[gbd6]? = some (.cells #[.int .i64 tc4, (.slice Ao26 tc5.length co26)] 59 (0, 0))) ∧ Aside0 (w'.heap[gbd7]? = some (.cells #[.int .i64 td1, .int .u64 td2, .int .u64 td3, .int .i64 td4] 61 (0, 0))) ∧ Aside0 (Below w.heap.size w w'))
        case atStart => exact ⟨((-1)), (0), (by first | rfl | (simp; done) | (simp [*]; done)), (by first | rfl | (simp; done) | (simp [*]; done)), H', ⟨Nat.le_refl _⟩, ⟨by (with_reducible repeat (first | apply Kd.R_alloc | apply Kd.R_drewN | apply Kd.R_drew)); exact Kd.R_mono (Kd.R_far (p := ⟨gbd7, 3, none⟩) (Kd.R_far (p := ⟨gbd7, 2, none⟩) (Kd.R_far (p := ⟨gbd7, 1, none⟩) (Kd.R_far (p := ⟨gbd7, 0, none⟩) (Kd.R_far (p := ⟨gbd6, 1, none⟩) (Kd.R_far (p := ⟨gbd6, 0, none⟩) (Kd.R_types (Kd.R_types HO_5.out BKd6.out (by decide)) BKd7.out (by decide)) (fun _ hk => hk.1.2) (.int .i64 tc4)) (fun _ hk => hk.1.2) (.slice Ao26 tc5.length co26)) (fun _ hk => hk.2) (.int .i64 td1)) (fun _ hk => hk.2) (.int .u64 td2)) (fun _ hk => hk.2) (.int .u64 td3)) (fun _ hk => hk.2) (.int .i64 td4)) (fun _ hk => trivial)⟩, ⟨by (with_reducible repeat (first | apply Kd.R_alloc | apply Kd.R_drewN | apply Kd.R_drew)); exact Kd.R_mono (Kd.R_far (p := ⟨gbd7, 3, none⟩) (Kd.R_far (p := ⟨gbd7, 2, none⟩) (Kd.R_far (p := ⟨gbd7, 1, none⟩) (Kd.R_far (p := ⟨gbd7, 0, none⟩) (Kd.R_far (p := ⟨gbd6, 1, none⟩) (Kd.R_far (p := ⟨gbd6, 0, none⟩) (Kd.R_types (Kd.R_types HO_7.out BKd6.out (by decide)) BKd7.out (by decide)) (fun _ hk => hk.1.2) (.int .i64 tc4)) (fun _ hk => hk.1.2) (.slice Ao26 tc5.length co26)) (fun _ hk => hk.2) (.int .i64 td1)) (fun _ hk => hk.2) (.int .u64 td2)) (fun _ hk => hk.2) (.int .u64 td3)) (fun _ hk => hk.2) (.int .i64 td4)) (fun _ hk => trivial)⟩, ⟨by (with_reducible repeat (first | apply Kd.R_alloc | apply Kd.R_drewN | apply Kd.R_drew)); exact Kd.R_mono (Kd.R_far (p := ⟨gbd7, 3, none⟩) (Kd.R_far (p := ⟨gbd7, 2, none⟩) (Kd.R_far (p := ⟨gbd7, 1, none⟩) (Kd.R_far (p := ⟨gbd7, 0, none⟩) (Kd.R_far (p := ⟨gbd6, 1, none⟩) (Kd.R_far (p := ⟨gbd6, 0, none⟩) (Kd.R_types (Kd.R_types HOd0.out BKd6.out (by decide)) BKd7.out (by decide)) (fun _ hk => hk.1.2) (.int .i64 tc4)) (fun _ hk => hk.1.2) (.slice Ao26 tc5.length co26)) (fun _ hk => hk.2) (.int .i64 td1)) (fun _ hk => hk.2) (.int .u64 td2)) (fun _ hk => hk.2) (.int .u64 td3)) (fun _ hk => hk.2) (.int .i64 td4)) (fun _ hk => ⟨hk.1.1.2, hk.1.1.1.1⟩)⟩, ⟨by (with_reducible repeat (first | apply Kd.R_alloc | apply Kd.R_drewN | apply Kd.R_drew)); exact Kd.R_mono (Kd.R_far (p := ⟨gbd7, 3, none⟩) (Kd.R_far (p := ⟨gbd7, 2, none⟩) (Kd.R_far (p := ⟨gbd7, 1, none⟩) (Kd.R_far (p := ⟨gbd7, 0, none⟩) (Kd.R_far (p := ⟨gbd6, 1, none⟩) (Kd.R_far (p := ⟨gbd6, 0, none⟩) (Kd.R_types (Kd.R_types HO_c0z1.out BKd6.out (by decide)) BKd7.out (by decide)) (fun _ hk => hk.1.2) (.int .i64 tc4)) (fun _ hk => hk.1.2) (.slice Ao26 tc5.length co26)) (fun _ hk => hk.2) (.int .i64 td1)) (fun _ hk => hk.2) (.int .u64 td2)) (fun _ hk => hk.2) (.int .u64 td3)) (fun _ hk => hk.2) (.int .i64 td4)) (fun _ hk => ⟨hk.1.1.2, hk.1.1.1.2⟩)⟩, ⟨by (with_reducible repeat (first | apply Kd.R_alloc | apply Kd.R_drewN | apply Kd.R_drew)); exact Kd.R_mono (Kd.R_far (p := ⟨gbd7, 3, none⟩) (Kd.R_far (p := ⟨gbd7, 2, none⟩) (Kd.R_far (p := ⟨gbd7, 1, none⟩) (Kd.R_far (p := ⟨gbd7, 0, none⟩) (Kd.R_far (p := ⟨gbd6, 1, none⟩) (Kd.R_far (p := ⟨gbd6, 0, none⟩) (Kd.R_types (Kd.R_types HOc7.out BKd6.out (by decide)) BKd7.out (by decide)) (fun _ hk => hk.1.2) (.int .i64 tc4)) (fun _ hk => hk.1.2) (.slice Ao26 tc5.length co26)) (fun _ hk => hk.2) (.int .i64 td1)) (fun _ hk => hk.2) (.int .u64 td2)) (fun _ hk => hk.2) (.int .u64 td3)) (fun _ hk => hk.2) (.int .i64 td4)) (fun _ hk => ⟨hk.1.1.1.1, hk.1.1.2⟩)⟩, ⟨by (with_reducible repeat (first | refine blk_drewN ?_ _ | refine blk_drew ?_ | refine blk_alloc ?_ _)); refine blk_far ?_ NBb9_d7.out _; (with_reducible repeat (first | refine blk_drewN ?_ _ | refine blk_drew ?_ | refine blk_alloc ?_ _)); refine blk_far ?_ NBb9_d7.out _; (with_reducible repeat (first | refine blk_drewN ?_ _ | refine blk_drew ?_ | refine blk_alloc ?_ _)); refine blk_far ?_ NBb9_d7.out _; (with_reducible repeat (first | refine blk_drewN ?_ _ | refine blk_drew ?_ | refine blk_alloc ?_ _)); refine blk_far ?_ NBb9_d7.out _; (with_reducible repeat (first | refine blk_drewN ?_ _ | refine blk_drew ?_ | refine blk_alloc ?_ _)); refine blk_far ?_ NBb9_d6.out _; (with_reducible repeat (first | refine blk_drewN ?_ _ | refine blk_drew ?_ | refine blk_alloc ?_ _)); refine blk_far ?_ NBb9_d6.out _; (with_reducible repeat (first | refine blk_drewN ?_ _ | refine blk_drew ?_ | refine blk_alloc ?_ _)); exact BKb9.out⟩, ⟨by (with_reducible repeat (first | refine blk_drewN ?_ _ | refine blk_drew ?_ | refine blk_alloc ?_ _)); refine blk_far ?_ NBd6_d7.out _; (with_reducible repeat (first | refine blk_drewN ?_ _ | refine blk_drew ?_ | refine blk_alloc ?_ _)); refine blk_far ?_ NBd6_d7.out _; (with_reducible repeat (first | refine blk_drewN ?_ _ | refine blk_drew ?_ | refine blk_alloc ?_ _)); refine blk_far ?_ NBd6_d7.out _; (with_reducible repeat (first | refine blk_drewN ?_ _ | refine blk_drew ?_ | refine blk_alloc ?_ _)); refine blk_far ?_ NBd6_d7.out _; (with_reducible repeat (first | refine blk_drewN ?_ _ | refine blk_drew ?_ | refine blk_alloc ?_ _)); refine blk_put (cs := #[.int .i64 tc4, .slice none 0 0]) ?_ 1 _ rfl; (with_reducible repeat (first | refine blk_drewN ?_ _ | refine blk_drew ?_ | refine blk_alloc ?_ _)); refine blk_put (cs := #[.int .i64 0, .slice none 0 0]) ?_ 0 _ rfl; (with_reducible repeat (first | refine blk_drewN ?_ _ | refine blk_drew ?_ | refine blk_alloc ?_ _)); exact BKd6.out⟩, ⟨by (with_reducible repeat (first | refine blk_drewN ?_ _ | refine blk_drew ?_ | refine blk_alloc ?_ _)); refine blk_put (cs := #[.int .i64 td1, .int .u64 td2, .int .u64 td3, .int .i64 0]) ?_ 3 _ rfl; (with_reducible repeat (first | refine blk_drewN ?_ _ | refine blk_drew ?_ | refine blk_alloc ?_ _)); refine blk_put (cs := #[.int .i64 td1, .int .u64 td2, .int .u64 0, .int .i64 0]) ?_ 2 _ rfl; (with_reducible repeat (first | refine blk_drewN ?_ _ | refine blk_drew ?_ | refine blk_alloc ?_ _)); refine blk_put (cs := #[.int .i64 td1, .int .u64 0, .int .u64 0, .int .i64 0]) ?_ 1 _ rfl; (with_reducible repeat (first | refine blk_drewN ?_ _ | refine blk_drew ?_ | refine blk_alloc ?_ _)); refine blk_put (cs := #[.int .i64 0, .int .u64 0, .int .u64 0, .int .i64 0]) ?_ 0 _ rfl; (with_reducible repeat (first | refine blk_drewN ?_ _ | refine blk_drew ?_ | refine blk_alloc ?_ _)); refine blk_far ?_ NBd7_d6.out _; (with_reducible repeat (first | refine blk_drewN ?_ _ | refine blk_drew ?_ | refine blk_alloc ?_ _)); refine blk_far ?_ NBd7_d6.out _; (with_reducible repeat (first | refine blk_drewN ?_ _ | refine blk_drew ?_ | refine blk_alloc ?_ _)); exact BKd7.out⟩, ⟨by repeat (first | (with_reducible first | exact HB.out | apply below_alloc | apply pw_below_drewN | apply below_drew1 | refine below_set ?_ GEb9.out | refine below_set ?_ GEd6.out | refine below_set ?_ GEd7.out) | exact HB.out)⟩⟩
        case round =>
         clear H'
         try clear c1
         try clear c2
         try clear p2
         try clear c4
         try clear c4b0
         try clear c4b1
         try clear c6
         try clear c6b0
         try clear c6b1
         try clear c12
         try clear c14
         try clear c14b0
         try clear c15
         try clear c23
         try clear c24
         try clear c27
         try clear hcz10_0
         try clear hcz10_1
         try clear hcz17_0
         try clear hcz17_1
         try clear hcz25_0
         try clear hcz25_1
         try clear hcz28_0
         try clear hcz28_1
         try clear hcz28_2
         try clear hcz28_3
         try clear hfz10_0
         try clear hfz10_1
         try clear hfz17_0
         try clear hfz17_1
         try clear hfz25_0
         try clear hfz25_1
         try clear hfz28_0
         try clear hfz28_1
         try clear hfz28_2
         try clear hfz28_3
         try clear p2
         obtain ⟨x16_3, x17_3, rfl, rfl, HA, HK3, HO_5, HO_7, HO_13, HO_c0z1, HO_d7z1, BKb9, BKd6, BKd7, HB⟩ := hrel
         cases gk with
         | zero => exact absurd HA.out (by simp [lVs.l1])
         | succ k3 =>
          have H := HA.out
          clear HA
          simp only [lVs.l1] at H
          by_cases c29 : x17_3 < (tb5.length : Int)
          ·rw [if_pos c29] at H
           have c29b0 : decide (x17_3 < (tb5.length : Int)) = true := decide_eq_true c29
           clear c29
           by_cases c30 : 0 ≤ x17_3
           ·rw [if_pos c30] at H
            have c30b0 : decide (0 ≤ x17_3) = true := decide_eq_true c30
            clear c30
            by_cases c31 : ((rd_T36 tb5 x17_3).f2) = xc0z0_1
            ·rw [if_pos c31] at H
             have c31b0 : (((rd_T36 tb5 x17_3).f2) == xc0z0_1) = true := beq_iff_eq.mpr c31
             have c31b1 : (((rd_T36 tb5 x17_3).f2) != xc0z0_1) = false := bne_eq_false_iff_eq.mpr c31
             clear c31
             have H' := Aside0.mk H
             clear H
             obtain ⟨Ao32, co32, eo32⟩ := Kd.R_slice HO_7.out
             subst eo32
             have pd8 : 0 ≤ (x17_3 : Int) := of_decide_eq_true (by first | (with_reducible assumption) | assumption)
             have qd8 : x17_3 < (tb5.length : Int) := of_decide_eq_true (by first | (with_reducible assumption) | assumption)
             obtain ⟨add8, ed8, hxd8_0, hxd8_1, hxd8_2, hxd8_3⟩ := at_T36 (Kd.R_reads' HO_7.out).2.2 x17_3 pd8 qd8
             cases ed8
             replace pd8 := eq_true pd8
             replace qd8 := eq_true qd8
             have hnb33 := NBb9_d6.out
             have hnc33 := NBd6_b9.out
             have hnb34 := NBb9_d7.out
             have hnc34 := NBd7_b9.out
             have hcz35_0 : wr.cell? ⟨gbb9, 0, none⟩ = some (.int .i64 xc0z0_1) := (blk_cell BKb9.out 0).trans rfl
             have hcz35_1 : wr.cell? ⟨gbb9, 1, none⟩ = some (.slice Ao18 xc0z1_1.length co18) := (blk_cell BKb9.out 1).trans rfl
             have hfz35_0 := blk_frozen BKb9.out 0
             have hfz35_1 := blk_frozen BKb9.out 1
             go_wp2
             repeat (go_quiet (fail); try go_wp2)
             go_roundg k3
             case measure => have := HK1.out; have := HJ12.out; have := HK3.out; omega
             case rel => exact ⟨(x17_3), (wrap64 (x17_3 + 1)), (by first | rfl | (simp; done) | (simp [*]; done)), (by first | rfl | (simp; done) | (simp [*]; done)), H', ⟨by have := HK1.out; have := HJ12.out; have := HK3.out; omega⟩, ⟨by (with_reducible repeat (first | apply Kd.R_alloc | apply Kd.R_drewN | apply Kd.R_drew)); exact HO_5.out⟩, ⟨by (with_reducible repeat (first | apply Kd.R_alloc | apply Kd.R_drewN | apply Kd.R_drew)); exact HO_7.out⟩, ⟨by (with_reducible repeat (first | apply Kd.R_alloc | apply Kd.R_drewN | apply Kd.R_drew)); exact HO_13.out⟩, ⟨by (with_reducible repeat (first | apply Kd.R_alloc | apply Kd.R_drewN | apply Kd.R_drew)); exact HO_c0z1.out⟩, ⟨by (with_reducible repeat (first | apply Kd.R_alloc | apply Kd.R_drewN | apply Kd.R_drew)); exact HO_d7z1.out⟩, ⟨by (with_reducible repeat (first | refine blk_drewN ?_ _ | refine blk_drew ?_ | refine blk_alloc ?_ _)); exact BKb9.out⟩, ⟨by (with_reducible repeat (first | refine blk_drewN ?_ _ | refine blk_drew ?_ | refine blk_alloc ?_ _)); exact BKd6.out⟩, ⟨by (with_reducible repeat (first | refine blk_drewN ?_ _ | refine blk_drew ?_ | refine blk_alloc ?_ _)); exact BKd7.out⟩, ⟨by repeat (first | (with_reducible first | exact HB.out | apply below_alloc | apply pw_below_drewN | apply below_drew1 | refine below_set ?_ GEb9.out | refine below_set ?_ GEd6.out | refine below_set ?_ GEd7.out) | exact HB.out)⟩⟩
            ·rw [if_neg c31] at H
             have c31b0 : (((rd_T36 tb5 x17_3).f2) == xc0z0_1) = false := beq_eq_false_iff_ne.mpr c31
             have c31b1 : (((rd_T36 tb5 x17_3).f2) != xc0z0_1) = true := bne_iff_ne.mpr c31
             have H' := Aside0.mk H
             clear H
             obtain ⟨Ao36, co36, eo36⟩ := Kd.R_slice HO_7.out
             subst eo36
             have pd8 : 0 ≤ (x17_3 : Int) := of_decide_eq_true (by first | (with_reducible assumption) | assumption)
             have qd8 : x17_3 < (tb5.length : Int) := of_decide_eq_true (by first | (with_reducible assumption) | assumption)
             obtain ⟨add8, ed8, hxd8_0, hxd8_1, hxd8_2, hxd8_3⟩ := at_T36 (Kd.R_reads' HO_7.out).2.2 x17_3 pd8 qd8
             cases ed8
             replace pd8 := eq_true pd8
             replace qd8 := eq_true qd8
             have hnb37 := NBb9_d6.out
             have hnc37 := NBd6_b9.out
             have hnb38 := NBb9_d7.out
             have hnc38 := NBd7_b9.out
             have hcz39_0 : wr.cell? ⟨gbb9, 0, none⟩ = some (.int .i64 xc0z0_1) := (blk_cell BKb9.out 0).trans rfl
             have hcz39_1 : wr.cell? ⟨gbb9, 1, none⟩ = some (.slice Ao18 xc0z1_1.length co18) := (blk_cell BKb9.out 1).trans rfl
             have hfz39_0 := blk_frozen BKb9.out 0
             have hfz39_1 := blk_frozen BKb9.out 1
             go_wp2
             repeat (go_quiet (fail); try go_wp2)
             go_roundg k3
             case measure => have := HK1.out; have := HJ12.out; have := HK3.out; omega
             case rel => exact ⟨(x16_3), (wrap64 (x17_3 + 1)), (by first | rfl | (simp; done) | (simp [*]; done)), (by first | rfl | (simp; done) | (simp [*]; done)), H', ⟨by have := HK1.out; have := HJ12.out; have := HK3.out; omega⟩, ⟨by (with_reducible repeat (first | apply Kd.R_alloc | apply Kd.R_drewN | apply Kd.R_drew)); exact HO_5.out⟩, ⟨by (with_reducible repeat (first | apply Kd.R_alloc | apply Kd.R_drewN | apply Kd.R_drew)); exact HO_7.out⟩, ⟨by (with_reducible repeat (first | apply Kd.R_alloc | apply Kd.R_drewN | apply Kd.R_drew)); exact HO_13.out⟩, ⟨by (with_reducible repeat (first | apply Kd.R_alloc | apply Kd.R_drewN | apply Kd.R_drew)); exact HO_c0z1.out⟩, ⟨by (with_reducible repeat (first | apply Kd.R_alloc | apply Kd.R_drewN | apply Kd.R_drew)); exact HO_d7z1.out⟩, ⟨by (with_reducible repeat (first | refine blk_drewN ?_ _ | refine blk_drew ?_ | refine blk_alloc ?_ _)); exact BKb9.out⟩, ⟨by (with_reducible repeat (first | refine blk_drewN ?_ _ | refine blk_drew ?_ | refine blk_alloc ?_ _)); exact BKd6.out⟩, ⟨by (with_reducible repeat (first | refine blk_drewN ?_ _ | refine blk_drew ?_ | refine blk_alloc ?_ _)); exact BKd7.out⟩, ⟨by repeat (first | (with_reducible first | exact HB.out | apply below_alloc | apply pw_below_drewN | apply below_drew1 | refine below_set ?_ GEb9.out | refine below_set ?_ GEd6.out | refine below_set ?_ GEd7.out) | exact HB.out)⟩⟩
           ·rw [if_neg c30] at H
            exact absurd H (by simp)
          ·rw [if_neg c29] at H
           have c29b0 : decide (x17_3 < (tb5.length : Int)) = false := decide_eq_false c29
           clear c29
           have HC40 := Aside0.mk H
           clear H
           obtain ⟨Ao41, co41, eo41⟩ := Kd.R_slice HO_7.out
           subst eo41
           go_upto_region 17 with (fail)
           repeat (go_quiet (fail); go_upto_region 17 with (fail))
           go_cut [78] (fun v78 wc => ∃ (kq : Nat) (x78_39 : Bool), v78 = .bool x78_39 ∧ Aside0 (lVs.j3 kq a0 a1 tb0 tb5 x11_1 tc8 td5 x16_3 x78_39 xc0z0_1 xc0z1_1 tc4 tc5 td1 td2 td3 td4 = some r) ∧ Aside0 (kq ≤ k3) ∧ Aside0 (Kd.R (Kd.int .i64) 3 wc w.heap.size (fun _ => True) vb2 tb0) ∧ Aside0 (Kd.R k36 36 wc w.heap.size (fun _ => True) (.slice Ao41 tb5.length co41) tb5) ∧ Aside0 (Kd.R (Kd.int .u64) 34 wc w.heap.size (fun k_ => some k_ ≠ ((.slice Ao18 xc0z1_1.length co18) : Value).ownBlock ∧ some k_ ≠ ((.slice Ao26 tc5.length co26) : Value).ownBlock) vc9 tc8) ∧ Aside0 (Kd.R (Kd.int .u64) 34 wc w.heap.size (fun k_ => some k_ ≠ (vc9 : Value).ownBlock ∧ some k_ ≠ ((.slice Ao26 tc5.length co26) : Value).ownBlock) (.slice Ao18 xc0z1_1.length co18) xc0z1_1) ∧ Aside0 (Kd.R (Kd.int .u64) 34 wc w.heap.size (fun k_ => some k_ ≠ (vc9 : Value).ownBlock ∧ some k_ ≠ ((.slice Ao18 xc0z1_1.length co18) : Value).ownBlock) (.slice Ao26 tc5.length co26) tc5) ∧ Aside0 (wc.heap[gbb9]? = some (.cells #[.int .i64 xc0z0_1, (.slice Ao18 xc0z1_1.length co18)] 59 (0, 0))) ∧ Aside0 (wc.heap[gbd6]? = some (.cells #[.int .i64 tc4, (.slice Ao26 tc5.length co26)] 59 (0, 0))) ∧ Aside0 (wc.heap[gbd7]? = some (.cells #[.int .i64 td1, .int .u64 td2, .int .u64 td3, .int .i64 td4] 61 (0, 0))) ∧ Aside0 (Below w.heap.size w wc))
           case first =>
            have H := HC40.out
            clear HC40
            by_cases c42 : x16_3 < 0
            ·rw [if_pos c42] at H
             have c42b0 : decide (x16_3 < 0) = true := decide_eq_true c42
             clear c42
             (first | rw [c42b0] | (simp only [i64_w, i32_w]; rw [c42b0]) | skip)
             have H' := Aside0.mk H
             clear H
             go_wp2
             repeat (go_quiet (fail); try go_wp2)
             go_meet
             case rel => exact ⟨_, (true), (by first | rfl | (simp; done) | (simp [*]; done)), H', ⟨by have := HK1.out; have := HJ12.out; have := HK3.out; first | omega | exact Nat.le_refl _⟩, ⟨by (with_reducible repeat (first | apply Kd.R_alloc | apply Kd.R_drewN | apply Kd.R_drew)); exact HO_5.out⟩, ⟨by (with_reducible repeat (first | apply Kd.R_alloc | apply Kd.R_drewN | apply Kd.R_drew)); exact HO_7.out⟩, ⟨by (with_reducible repeat (first | apply Kd.R_alloc | apply Kd.R_drewN | apply Kd.R_drew)); exact HO_13.out⟩, ⟨by (with_reducible repeat (first | apply Kd.R_alloc | apply Kd.R_drewN | apply Kd.R_drew)); exact HO_c0z1.out⟩, ⟨by (with_reducible repeat (first | apply Kd.R_alloc | apply Kd.R_drewN | apply Kd.R_drew)); exact HO_d7z1.out⟩, ⟨by (with_reducible repeat (first | refine blk_drewN ?_ _ | refine blk_drew ?_ | refine blk_alloc ?_ _)); exact BKb9.out⟩, ⟨by (with_reducible repeat (first | refine blk_drewN ?_ _ | refine blk_drew ?_ | refine blk_alloc ?_ _)); exact BKd6.out⟩, ⟨by (with_reducible repeat (first | refine blk_drewN ?_ _ | refine blk_drew ?_ | refine blk_alloc ?_ _)); exact BKd7.out⟩, ⟨by repeat (first | (with_reducible first | exact HB.out | apply below_alloc | apply pw_below_drewN | apply below_drew1 | refine below_set ?_ GEb9.out | refine below_set ?_ GEd6.out | refine below_set ?_ GEd7.out) | exact HB.out)⟩⟩
            ·rw [if_neg c42] at H
             have c42b0 : decide (x16_3 < 0) = false := decide_eq_false c42
             clear c42
             (first | rw [c42b0] | (simp only [i64_w, i32_w]; rw [c42b0]) | skip)
             by_cases c43 : 0 ≤ x16_3
             ·rw [if_pos c43] at H
              have c43b0 : decide (0 ≤ x16_3) = true := decide_eq_true c43
              clear c43
              by_cases c44 : x16_3 < (tb0.length : Int)
              ·rw [if_pos c44] at H
               have c44b0 : decide (x16_3 < (tb0.length : Int)) = true := decide_eq_true c44
               clear c44
               have H' := Aside0.mk H
               clear H
               obtain ⟨Ao45, co45, eo45⟩ := Kd.R_slice HO_5.out
               subst eo45
               have pd9 : 0 ≤ (x16_3 : Int) := of_decide_eq_true (by first | (with_reducible assumption) | assumption)
               have qd9 : x16_3 < (tb0.length : Int) := of_decide_eq_true (by first | (with_reducible assumption) | assumption)
               obtain ⟨add9, ed9, hxd9_0⟩ := Kd.at_int (Kd.R_reads' HO_5.out).2.2 x16_3 pd9 qd9
               cases ed9
               replace pd9 := eq_true pd9
               replace qd9 := eq_true qd9
               have hnb46 := NBb9_d6.out
               have hnc46 := NBd6_b9.out
               have hnb47 := NBb9_d7.out
               have hnc47 := NBd7_b9.out
               have hcz48_0 : wr.cell? ⟨gbb9, 0, none⟩ = some (.int .i64 xc0z0_1) := (blk_cell BKb9.out 0).trans rfl
               have hcz48_1 : wr.cell? ⟨gbb9, 1, none⟩ = some (.slice Ao18 xc0z1_1.length co18) := (blk_cell BKb9.out 1).trans rfl
               have hfz48_0 := blk_frozen BKb9.out 0
               have hfz48_1 := blk_frozen BKb9.out 1
               go_wp2
               repeat (go_quiet (fail); try go_wp2)
               go_meet
               case rel => exact ⟨_, (((rd tb0 x16_3) != (xc0z1_1.length : Int))), (by first | rfl | (simp; done) | (simp [*]; done)), H', ⟨by have := HK1.out; have := HJ12.out; have := HK3.out; first | omega | exact Nat.le_refl _⟩, ⟨by (with_reducible repeat (first | apply Kd.R_alloc | apply Kd.R_drewN | apply Kd.R_drew)); exact HO_5.out⟩, ⟨by (with_reducible repeat (first | apply Kd.R_alloc | apply Kd.R_drewN | apply Kd.R_drew)); exact HO_7.out⟩, ⟨by (with_reducible repeat (first | apply Kd.R_alloc | apply Kd.R_drewN | apply Kd.R_drew)); exact HO_13.out⟩, ⟨by (with_reducible repeat (first | apply Kd.R_alloc | apply Kd.R_drewN | apply Kd.R_drew)); exact HO_c0z1.out⟩, ⟨by (with_reducible repeat (first | apply Kd.R_alloc | apply Kd.R_drewN | apply Kd.R_drew)); exact HO_d7z1.out⟩, ⟨by (with_reducible repeat (first | refine blk_drewN ?_ _ | refine blk_drew ?_ | refine blk_alloc ?_ _)); exact BKb9.out⟩, ⟨by (with_reducible repeat (first | refine blk_drewN ?_ _ | refine blk_drew ?_ | refine blk_alloc ?_ _)); exact BKd6.out⟩, ⟨by (with_reducible repeat (first | refine blk_drewN ?_ _ | refine blk_drew ?_ | refine blk_alloc ?_ _)); exact BKd7.out⟩, ⟨by repeat (first | (with_reducible first | exact HB.out | apply below_alloc | apply pw_below_drewN | apply below_drew1 | refine below_set ?_ GEb9.out | refine below_set ?_ GEd6.out | refine below_set ?_ GEd7.out) | exact HB.out)⟩⟩
              ·rw [if_neg c44] at H
               exact absurd H (by simp)
             ·rw [if_neg c43] at H
              exact absurd H (by simp)
           case rest =>
            clear HC40
            try clear c1
            try clear c2
            try clear p2
            try clear c3
            try clear c4
            try clear c4b0
            try clear c4b1
            try clear p5
            try clear q5
            try clear hx5
            try clear c6
            try clear c6b0
            try clear c6b1
            try clear p6
            try clear c12
            try clear c14
            try clear c14b0
            try clear c15
            try clear c23
            try clear c24
            try clear c27
            try clear c29
            try clear c29b0
            try clear c30
            try clear c30b0
            try clear c31
            try clear c31b0
            try clear c31b1
            try clear c33
            try clear c34
            try clear c37
            try clear c38
            try clear c42
            try clear c42b0
            try clear c43
            try clear c43b0
            try clear c44
            try clear c44b0
            try clear c46
            try clear c47
            try clear hcz10_0
            try clear hcz10_1
            try clear hcz17_0
            try clear hcz17_1
            try clear hcz25_0
            try clear hcz25_1
            try clear hcz28_0
            try clear hcz28_1
            try clear hcz28_2
            try clear hcz28_3
            try clear hcz35_0
            try clear hcz35_1
            try clear hcz39_0
            try clear hcz39_1
            try clear hcz48_0
            try clear hcz48_1
            try clear hfz10_0
            try clear hfz10_1
            try clear hfz17_0
            try clear hfz17_1
            try clear hfz25_0
            try clear hfz25_1
            try clear hfz28_0
            try clear hfz28_1
            try clear hfz28_2
            try clear hfz28_3
            try clear hfz35_0
            try clear hfz35_1
            try clear hfz39_0
            try clear hfz39_1
            try clear hfz48_0
            try clear hfz48_1
            try clear hxd8_0
            try clear hxd8_1
            try clear hxd8_2
            try clear hxd8_3
            try clear hxd9_0
            try clear p2
            try clear pd8
            try clear pd9
            try clear qd8
            try clear qd9
            obtain ⟨kq, x78_39, rfl, HA, HJ39, HO_5, HO_7, HO_13, HO_c0z1, HO_d7z1, BKb9, BKd6, BKd7, HB⟩ := hcut
            cases kq with
            | zero => exact absurd HA.out (by simp [lVs.j3])
            | succ kj39 =>
             have H := HA.out
             clear HA
             simp only [lVs.j3] at H
             by_cases c49 : x78_39 = true
             ·subst c49
              have H1 : (none) = some r := by rw [if_pos rfl] at H; exact H
              clear H
              have H := H1
              clear H1
              exact absurd H (by simp)
             ·replace c49 := Bool.eq_false_iff.mpr c49
              subst c49
              have H1 : (if td1 = 4 then (if 0 ≤ x16_3 then (if x16_3 < (tb5.length : Int) then (if ((rd_T36 tb5 x16_3).f0) = 9 then (if td5 = 0 then ((januslaw07_awake.f kj39).bind fun te1 => (some te1)) else (none)) else (if ((rd_T36 tb5 x16_3).f0) = 10 then (if td5 = 0 then ((januslaw07_awake.f kj39).bind fun te2 => (some te2)) else (none)) else (if ((rd_T36 tb5 x16_3).f0) = 19 then (if td5 = 0 then ((januslaw07_awake.f kj39).bind fun te3 => (some te3)) else (none)) else (if ((rd_T36 tb5 x16_3).f0) = 20 then (if td5 = 0 then ((januslaw07_awake.f kj39).bind fun te4 => (some te4)) else (none)) else (none))))) else (none)) else (none)) else (if td1 = 3 then ((vm_Done.f kj39 a0 xc0z0_1 xc0z1_1 (IntKind.u64.wrap (x11_1))).bind fun bte5 => (if 0 ≤ x16_3 then (if x16_3 < (tb5.length : Int) then (if ((rd_T36 tb5 x16_3).f0) = 23 then (if (tc8.length : Int) = 128 then (lVs.l0 kj39 a0 a1 tb0 tb5 tc8 (wrap64 (x11_1 + 1)) bte5.1 bte5.2) else (none)) else (none)) else (none)) else (none))) else (if (tc8.length : Int) = 128 then (lVs.l0 kj39 a0 a1 tb0 tb5 tc8 (wrap64 (x11_1 + 1)) tc4 tc5) else (none)))) = some r := by rw [if_neg (show ¬ (false = true) by decide)] at H; exact H
              clear H
              have H := H1
              clear H1
              by_cases c50 : td1 = 4
              ·rw [if_pos c50] at H
               have c50b0 : (td1 == 4) = true := beq_iff_eq.mpr c50
               have c50b1 : (td1 != 4) = false := bne_eq_false_iff_eq.mpr c50
               clear c50
               by_cases c51 : 0 ≤ x16_3
               ·rw [if_pos c51] at H
                have c51b0 : decide (0 ≤ x16_3) = true := decide_eq_true c51
                clear c51
                by_cases c52 : x16_3 < (tb5.length : Int)
                ·rw [if_pos c52] at H
                 have c52b0 : decide (x16_3 < (tb5.length : Int)) = true := decide_eq_true c52
                 clear c52
                 by_cases c53 : ((rd_T36 tb5 x16_3).f0) = 9
                 ·rw [if_pos c53] at H
                  have c53b0 : (((rd_T36 tb5 x16_3).f0) == 9) = true := beq_iff_eq.mpr c53
                  have c53b1 : (((rd_T36 tb5 x16_3).f0) != 9) = false := bne_eq_false_iff_eq.mpr c53
                  clear c53
                  by_cases c54 : td5 = 0
                  ·rw [if_pos c54] at H
                   have c54b0 : (td5 == 0) = true := beq_iff_eq.mpr c54
                   have c54b1 : (td5 != 0) = false := bne_eq_false_iff_eq.mpr c54
                   clear c54
                   replace H := Option.bind_eq_some_iff.mp H
                   obtain ⟨te1, Aa0, H⟩ := H
                   replace H : (some te1) = some r := H
                   have A55 := Aside0.mk Aa0
                   clear Aa0
                   obtain rfl := Option.some.inj H
                   have hnb56 := NBd7_b9.out
                   have hnc56 := NBb9_d7.out
                   have hnb57 := NBd7_d6.out
                   have hnc57 := NBd6_d7.out
                   have hcz58_0 : wc.cell? ⟨gbd7, 0, none⟩ = some (.int .i64 td1) := (blk_cell BKd7.out 0).trans rfl
                   have hcz58_1 : wc.cell? ⟨gbd7, 1, none⟩ = some (.int .u64 td2) := (blk_cell BKd7.out 1).trans rfl
                   have hcz58_2 : wc.cell? ⟨gbd7, 2, none⟩ = some (.int .u64 td3) := (blk_cell BKd7.out 2).trans rfl
                   have hcz58_3 : wc.cell? ⟨gbd7, 3, none⟩ = some (.int .i64 td4) := (blk_cell BKd7.out 3).trans rfl
                   have hfz58_0 := blk_frozen BKd7.out 0
                   have hfz58_1 := blk_frozen BKd7.out 1
                   have hfz58_2 := blk_frozen BKd7.out 2
                   have hfz58_3 := blk_frozen BKd7.out 3
                   have pe0 : 0 ≤ (x16_3 : Int) := of_decide_eq_true (by first | (with_reducible assumption) | assumption)
                   have qe0 : x16_3 < (tb5.length : Int) := of_decide_eq_true (by first | (with_reducible assumption) | assumption)
                   obtain ⟨ade0, ee0, hxe0_0, hxe0_1, hxe0_2, hxe0_3⟩ := at_T36 (Kd.R_reads' HO_7.out).2.2 x16_3 pe0 qe0
                   cases ee0
                   replace pe0 := eq_true pe0
                   replace qe0 := eq_true qe0
                   go_wp2_with (first | (go_at_call 34; (with_reducible refine (januslaw07_awake.calls kj39  te1 _ A55.out).mono ?_); rintro e w59 ⟨rfl, hb⟩; have n0_ := Aside0.mk (Kd.R_below (by (with_reducible repeat (first | apply Kd.R_alloc | apply Kd.R_drewN | apply Kd.R_drew)); exact HO_5.out) hb); have n1_ := Aside0.mk (Kd.R_below (by (with_reducible repeat (first | apply Kd.R_alloc | apply Kd.R_drewN | apply Kd.R_drew)); exact HO_7.out) hb); have n2_ := Aside0.mk (Kd.R_below (by (with_reducible repeat (first | apply Kd.R_alloc | apply Kd.R_drewN | apply Kd.R_drew)); exact HO_13.out) hb); have n3_ := Aside0.mk (Kd.R_below (by (with_reducible repeat (first | apply Kd.R_alloc | apply Kd.R_drewN | apply Kd.R_drew)); exact HO_c0z1.out) hb); have n4_ := Aside0.mk (Kd.R_below (by (with_reducible repeat (first | apply Kd.R_alloc | apply Kd.R_drewN | apply Kd.R_drew)); exact HO_d7z1.out) hb); have n5_ := Aside0.mk (blk_below (g := gbb9) (o := .cells #[.int .i64 xc0z0_1, .slice Ao18 xc0z1_1.length co18] 59 (0, 0)) (by (with_reducible repeat (first | refine blk_drewN ?_ _ | refine blk_drew ?_ | refine blk_alloc ?_ _)); exact BKb9.out) hb); have n6_ := Aside0.mk (blk_below (g := gbd6) (o := .cells #[.int .i64 tc4, .slice Ao26 tc5.length co26] 59 (0, 0)) (by (with_reducible repeat (first | refine blk_drewN ?_ _ | refine blk_drew ?_ | refine blk_alloc ?_ _)); exact BKd6.out) hb); have n7_ := Aside0.mk (blk_below (g := gbd7) (o := .cells #[.int .i64 td1, .int .u64 td2, .int .u64 td3, .int .i64 td4] 61 (0, 0)) (by (with_reducible repeat (first | refine blk_drewN ?_ _ | refine blk_drew ?_ | refine blk_alloc ?_ _)); exact BKd7.out) hb); have n8_ := Aside0.mk (below_step (by repeat (first | (with_reducible first | exact HB.out | apply below_alloc | apply pw_below_drewN | apply below_drew1 | refine below_set ?_ GEb9.out | refine below_set ?_ GEd6.out | refine below_set ?_ GEd7.out) | exact HB.out)) hb); clear HO_5; clear HO_7; clear HO_13; clear HO_c0z1; clear HO_d7z1; clear BKb9; clear BKd6; clear BKd7; clear HB; have HO_5 := n0_; have HO_7 := n1_; have HO_13 := n2_; have HO_c0z1 := n3_; have HO_d7z1 := n4_; have BKb9 := n5_; have BKd6 := n6_; have BKd7 := n7_; have HB := n8_; clear n0_ n1_ n2_ n3_ n4_ n5_ n6_ n7_ n8_; (try clear hb); (try clear hb2); (try clear hk); (try clear hi)))
                   repeat (go_quiet (fail); try go_wp2)
                   go_ret
                   exact ⟨by first | rfl | (simp [errW_none, errW_some] <;> rfl) | (simp [*, errW_none, errW_some] <;> rfl), by repeat (first | (with_reducible first | exact HB.out | apply below_alloc | apply pw_below_drewN | apply below_drew1 | refine below_set ?_ GEb9.out | refine below_set ?_ GEd6.out | refine below_set ?_ GEd7.out) | exact HB.out)⟩
                  ·rw [if_neg c54] at H
                   exact absurd H (by simp)
                 ·rw [if_neg c53] at H
                  have c53b0 : (((rd_T36 tb5 x16_3).f0) == 9) = false := beq_eq_false_iff_ne.mpr c53
                  have c53b1 : (((rd_T36 tb5 x16_3).f0) != 9) = true := bne_iff_ne.mpr c53
                  by_cases c60 : ((rd_T36 tb5 x16_3).f0) = 10
                  ·rw [if_pos c60] at H
                   have c60b0 : (((rd_T36 tb5 x16_3).f0) == 10) = true := beq_iff_eq.mpr c60
                   have c60b1 : (((rd_T36 tb5 x16_3).f0) != 10) = false := bne_eq_false_iff_eq.mpr c60
                   clear c60
                   by_cases c61 : td5 = 0
                   ·rw [if_pos c61] at H
                    have c61b0 : (td5 == 0) = true := beq_iff_eq.mpr c61
                    have c61b1 : (td5 != 0) = false := bne_eq_false_iff_eq.mpr c61
                    clear c61
                    replace H := Option.bind_eq_some_iff.mp H
                    obtain ⟨te2, A620, H⟩ := H
                    replace H : (some te2) = some r := H
                    have A62 := Aside0.mk A620
                    clear A620
                    obtain rfl := Option.some.inj H
                    have hnb63 := NBd7_b9.out
                    have hnc63 := NBb9_d7.out
                    have hnb64 := NBd7_d6.out
                    have hnc64 := NBd6_d7.out
                    have hcz65_0 : wc.cell? ⟨gbd7, 0, none⟩ = some (.int .i64 td1) := (blk_cell BKd7.out 0).trans rfl
                    have hcz65_1 : wc.cell? ⟨gbd7, 1, none⟩ = some (.int .u64 td2) := (blk_cell BKd7.out 1).trans rfl
                    have hcz65_2 : wc.cell? ⟨gbd7, 2, none⟩ = some (.int .u64 td3) := (blk_cell BKd7.out 2).trans rfl
                    have hcz65_3 : wc.cell? ⟨gbd7, 3, none⟩ = some (.int .i64 td4) := (blk_cell BKd7.out 3).trans rfl
                    have hfz65_0 := blk_frozen BKd7.out 0
                    have hfz65_1 := blk_frozen BKd7.out 1
                    have hfz65_2 := blk_frozen BKd7.out 2
                    have hfz65_3 := blk_frozen BKd7.out 3
                    have pe0 : 0 ≤ (x16_3 : Int) := of_decide_eq_true (by first | (with_reducible assumption) | assumption)
                    have qe0 : x16_3 < (tb5.length : Int) := of_decide_eq_true (by first | (with_reducible assumption) | assumption)
                    obtain ⟨ade0, ee0, hxe0_0, hxe0_1, hxe0_2, hxe0_3⟩ := at_T36 (Kd.R_reads' HO_7.out).2.2 x16_3 pe0 qe0
                    cases ee0
                    replace pe0 := eq_true pe0
                    replace qe0 := eq_true qe0
                    go_wp2_with (first | (go_at_call 34; (with_reducible refine (januslaw07_awake.calls kj39  te2 _ A62.out).mono ?_); rintro e w66 ⟨rfl, hb⟩; have n0_ := Aside0.mk (Kd.R_below (by (with_reducible repeat (first | apply Kd.R_alloc | apply Kd.R_drewN | apply Kd.R_drew)); exact HO_5.out) hb); have n1_ := Aside0.mk (Kd.R_below (by (with_reducible repeat (first | apply Kd.R_alloc | apply Kd.R_drewN | apply Kd.R_drew)); exact HO_7.out) hb); have n2_ := Aside0.mk (Kd.R_below (by (with_reducible repeat (first | apply Kd.R_alloc | apply Kd.R_drewN | apply Kd.R_drew)); exact HO_13.out) hb); have n3_ := Aside0.mk (Kd.R_below (by (with_reducible repeat (first | apply Kd.R_alloc | apply Kd.R_drewN | apply Kd.R_drew)); exact HO_c0z1.out) hb); have n4_ := Aside0.mk (Kd.R_below (by (with_reducible repeat (first | apply Kd.R_alloc | apply Kd.R_drewN | apply Kd.R_drew)); exact HO_d7z1.out) hb); have n5_ := Aside0.mk (blk_below (g := gbb9) (o := .cells #[.int .i64 xc0z0_1, .slice Ao18 xc0z1_1.length co18] 59 (0, 0)) (by (with_reducible repeat (first | refine blk_drewN ?_ _ | refine blk_drew ?_ | refine blk_alloc ?_ _)); exact BKb9.out) hb); have n6_ := Aside0.mk (blk_below (g := gbd6) (o := .cells #[.int .i64 tc4, .slice Ao26 tc5.length co26] 59 (0, 0)) (by (with_reducible repeat (first | refine blk_drewN ?_ _ | refine blk_drew ?_ | refine blk_alloc ?_ _)); exact BKd6.out) hb); have n7_ := Aside0.mk (blk_below (g := gbd7) (o := .cells #[.int .i64 td1, .int .u64 td2, .int .u64 td3, .int .i64 td4] 61 (0, 0)) (by (with_reducible repeat (first | refine blk_drewN ?_ _ | refine blk_drew ?_ | refine blk_alloc ?_ _)); exact BKd7.out) hb); have n8_ := Aside0.mk (below_step (by repeat (first | (with_reducible first | exact HB.out | apply below_alloc | apply pw_below_drewN | apply below_drew1 | refine below_set ?_ GEb9.out | refine below_set ?_ GEd6.out | refine below_set ?_ GEd7.out) | exact HB.out)) hb); clear HO_5; clear HO_7; clear HO_13; clear HO_c0z1; clear HO_d7z1; clear BKb9; clear BKd6; clear BKd7; clear HB; have HO_5 := n0_; have HO_7 := n1_; have HO_13 := n2_; have HO_c0z1 := n3_; have HO_d7z1 := n4_; have BKb9 := n5_; have BKd6 := n6_; have BKd7 := n7_; have HB := n8_; clear n0_ n1_ n2_ n3_ n4_ n5_ n6_ n7_ n8_; (try clear hb); (try clear hb2); (try clear hk); (try clear hi)))
                    repeat (go_quiet (fail); try go_wp2)
                    go_ret
                    exact ⟨by first | rfl | (simp [errW_none, errW_some] <;> rfl) | (simp [*, errW_none, errW_some] <;> rfl), by repeat (first | (with_reducible first | exact HB.out | apply below_alloc | apply pw_below_drewN | apply below_drew1 | refine below_set ?_ GEb9.out | refine below_set ?_ GEd6.out | refine below_set ?_ GEd7.out) | exact HB.out)⟩
                   ·rw [if_neg c61] at H
                    exact absurd H (by simp)
                  ·rw [if_neg c60] at H
                   have c60b0 : (((rd_T36 tb5 x16_3).f0) == 10) = false := beq_eq_false_iff_ne.mpr c60
                   have c60b1 : (((rd_T36 tb5 x16_3).f0) != 10) = true := bne_iff_ne.mpr c60
                   by_cases c67 : ((rd_T36 tb5 x16_3).f0) = 19
                   ·rw [if_pos c67] at H
                    have c67b0 : (((rd_T36 tb5 x16_3).f0) == 19) = true := beq_iff_eq.mpr c67
                    have c67b1 : (((rd_T36 tb5 x16_3).f0) != 19) = false := bne_eq_false_iff_eq.mpr c67
                    clear c67
                    by_cases c68 : td5 = 0
                    ·rw [if_pos c68] at H
                     have c68b0 : (td5 == 0) = true := beq_iff_eq.mpr c68
                     have c68b1 : (td5 != 0) = false := bne_eq_false_iff_eq.mpr c68
                     clear c68
                     replace H := Option.bind_eq_some_iff.mp H
                     obtain ⟨te3, A690, H⟩ := H
                     replace H : (some te3) = some r := H
                     have A69 := Aside0.mk A690
                     clear A690
                     obtain rfl := Option.some.inj H
                     have hnb70 := NBd7_b9.out
                     have hnc70 := NBb9_d7.out
                     have hnb71 := NBd7_d6.out
                     have hnc71 := NBd6_d7.out
                     have hcz72_0 : wc.cell? ⟨gbd7, 0, none⟩ = some (.int .i64 td1) := (blk_cell BKd7.out 0).trans rfl
                     have hcz72_1 : wc.cell? ⟨gbd7, 1, none⟩ = some (.int .u64 td2) := (blk_cell BKd7.out 1).trans rfl
                     have hcz72_2 : wc.cell? ⟨gbd7, 2, none⟩ = some (.int .u64 td3) := (blk_cell BKd7.out 2).trans rfl
                     have hcz72_3 : wc.cell? ⟨gbd7, 3, none⟩ = some (.int .i64 td4) := (blk_cell BKd7.out 3).trans rfl
                     have hfz72_0 := blk_frozen BKd7.out 0
                     have hfz72_1 := blk_frozen BKd7.out 1
                     have hfz72_2 := blk_frozen BKd7.out 2
                     have hfz72_3 := blk_frozen BKd7.out 3
                     have pe0 : 0 ≤ (x16_3 : Int) := of_decide_eq_true (by first | (with_reducible assumption) | assumption)
                     have qe0 : x16_3 < (tb5.length : Int) := of_decide_eq_true (by first | (with_reducible assumption) | assumption)
                     obtain ⟨ade0, ee0, hxe0_0, hxe0_1, hxe0_2, hxe0_3⟩ := at_T36 (Kd.R_reads' HO_7.out).2.2 x16_3 pe0 qe0
                     cases ee0
                     replace pe0 := eq_true pe0
                     replace qe0 := eq_true qe0
                     go_wp2_with (first | (go_at_call 34; (with_reducible refine (januslaw07_awake.calls kj39  te3 _ A69.out).mono ?_); rintro e w73 ⟨rfl, hb⟩; have n0_ := Aside0.mk (Kd.R_below (by (with_reducible repeat (first | apply Kd.R_alloc | apply Kd.R_drewN | apply Kd.R_drew)); exact HO_5.out) hb); have n1_ := Aside0.mk (Kd.R_below (by (with_reducible repeat (first | apply Kd.R_alloc | apply Kd.R_drewN | apply Kd.R_drew)); exact HO_7.out) hb); have n2_ := Aside0.mk (Kd.R_below (by (with_reducible repeat (first | apply Kd.R_alloc | apply Kd.R_drewN | apply Kd.R_drew)); exact HO_13.out) hb); have n3_ := Aside0.mk (Kd.R_below (by (with_reducible repeat (first | apply Kd.R_alloc | apply Kd.R_drewN | apply Kd.R_drew)); exact HO_c0z1.out) hb); have n4_ := Aside0.mk (Kd.R_below (by (with_reducible repeat (first | apply Kd.R_alloc | apply Kd.R_drewN | apply Kd.R_drew)); exact HO_d7z1.out) hb); have n5_ := Aside0.mk (blk_below (g := gbb9) (o := .cells #[.int .i64 xc0z0_1, .slice Ao18 xc0z1_1.length co18] 59 (0, 0)) (by (with_reducible repeat (first | refine blk_drewN ?_ _ | refine blk_drew ?_ | refine blk_alloc ?_ _)); exact BKb9.out) hb); have n6_ := Aside0.mk (blk_below (g := gbd6) (o := .cells #[.int .i64 tc4, .slice Ao26 tc5.length co26] 59 (0, 0)) (by (with_reducible repeat (first | refine blk_drewN ?_ _ | refine blk_drew ?_ | refine blk_alloc ?_ _)); exact BKd6.out) hb); have n7_ := Aside0.mk (blk_below (g := gbd7) (o := .cells #[.int .i64 td1, .int .u64 td2, .int .u64 td3, .int .i64 td4] 61 (0, 0)) (by (with_reducible repeat (first | refine blk_drewN ?_ _ | refine blk_drew ?_ | refine blk_alloc ?_ _)); exact BKd7.out) hb); have n8_ := Aside0.mk (below_step (by repeat (first | (with_reducible first | exact HB.out | apply below_alloc | apply pw_below_drewN | apply below_drew1 | refine below_set ?_ GEb9.out | refine below_set ?_ GEd6.out | refine below_set ?_ GEd7.out) | exact HB.out)) hb); clear HO_5; clear HO_7; clear HO_13; clear HO_c0z1; clear HO_d7z1; clear BKb9; clear BKd6; clear BKd7; clear HB; have HO_5 := n0_; have HO_7 := n1_; have HO_13 := n2_; have HO_c0z1 := n3_; have HO_d7z1 := n4_; have BKb9 := n5_; have BKd6 := n6_; have BKd7 := n7_; have HB := n8_; clear n0_ n1_ n2_ n3_ n4_ n5_ n6_ n7_ n8_; (try clear hb); (try clear hb2); (try clear hk); (try clear hi)))
                     repeat (go_quiet (fail); try go_wp2)
                     go_ret
                     exact ⟨by first | rfl | (simp [errW_none, errW_some] <;> rfl) | (simp [*, errW_none, errW_some] <;> rfl), by repeat (first | (with_reducible first | exact HB.out | apply below_alloc | apply pw_below_drewN | apply below_drew1 | refine below_set ?_ GEb9.out | refine below_set ?_ GEd6.out | refine below_set ?_ GEd7.out) | exact HB.out)⟩
                    ·rw [if_neg c68] at H
                     exact absurd H (by simp)
                   ·rw [if_neg c67] at H
                    have c67b0 : (((rd_T36 tb5 x16_3).f0) == 19) = false := beq_eq_false_iff_ne.mpr c67
                    have c67b1 : (((rd_T36 tb5 x16_3).f0) != 19) = true := bne_iff_ne.mpr c67
                    by_cases c74 : ((rd_T36 tb5 x16_3).f0) = 20
                    ·rw [if_pos c74] at H
                     have c74b0 : (((rd_T36 tb5 x16_3).f0) == 20) = true := beq_iff_eq.mpr c74
                     have c74b1 : (((rd_T36 tb5 x16_3).f0) != 20) = false := bne_eq_false_iff_eq.mpr c74
                     clear c74
                     by_cases c75 : td5 = 0
                     ·rw [if_pos c75] at H
                      have c75b0 : (td5 == 0) = true := beq_iff_eq.mpr c75
                      have c75b1 : (td5 != 0) = false := bne_eq_false_iff_eq.mpr c75
                      clear c75
                      replace H := Option.bind_eq_some_iff.mp H
                      obtain ⟨te4, A760, H⟩ := H
                      replace H : (some te4) = some r := H
                      have A76 := Aside0.mk A760
                      clear A760
                      obtain rfl := Option.some.inj H
                      have hnb77 := NBd7_b9.out
                      have hnc77 := NBb9_d7.out
                      have hnb78 := NBd7_d6.out
                      have hnc78 := NBd6_d7.out
                      have hcz79_0 : wc.cell? ⟨gbd7, 0, none⟩ = some (.int .i64 td1) := (blk_cell BKd7.out 0).trans rfl
                      have hcz79_1 : wc.cell? ⟨gbd7, 1, none⟩ = some (.int .u64 td2) := (blk_cell BKd7.out 1).trans rfl
                      have hcz79_2 : wc.cell? ⟨gbd7, 2, none⟩ = some (.int .u64 td3) := (blk_cell BKd7.out 2).trans rfl
                      have hcz79_3 : wc.cell? ⟨gbd7, 3, none⟩ = some (.int .i64 td4) := (blk_cell BKd7.out 3).trans rfl
                      have hfz79_0 := blk_frozen BKd7.out 0
                      have hfz79_1 := blk_frozen BKd7.out 1
                      have hfz79_2 := blk_frozen BKd7.out 2
                      have hfz79_3 := blk_frozen BKd7.out 3
                      have pe0 : 0 ≤ (x16_3 : Int) := of_decide_eq_true (by first | (with_reducible assumption) | assumption)
                      have qe0 : x16_3 < (tb5.length : Int) := of_decide_eq_true (by first | (with_reducible assumption) | assumption)
                      obtain ⟨ade0, ee0, hxe0_0, hxe0_1, hxe0_2, hxe0_3⟩ := at_T36 (Kd.R_reads' HO_7.out).2.2 x16_3 pe0 qe0
                      cases ee0
                      replace pe0 := eq_true pe0
                      replace qe0 := eq_true qe0
                      go_wp2_with (first | (go_at_call 34; (with_reducible refine (januslaw07_awake.calls kj39  te4 _ A76.out).mono ?_); rintro e w80 ⟨rfl, hb⟩; have n0_ := Aside0.mk (Kd.R_below (by (with_reducible repeat (first | apply Kd.R_alloc | apply Kd.R_drewN | apply Kd.R_drew)); exact HO_5.out) hb); have n1_ := Aside0.mk (Kd.R_below (by (with_reducible repeat (first | apply Kd.R_alloc | apply Kd.R_drewN | apply Kd.R_drew)); exact HO_7.out) hb); have n2_ := Aside0.mk (Kd.R_below (by (with_reducible repeat (first | apply Kd.R_alloc | apply Kd.R_drewN | apply Kd.R_drew)); exact HO_13.out) hb); have n3_ := Aside0.mk (Kd.R_below (by (with_reducible repeat (first | apply Kd.R_alloc | apply Kd.R_drewN | apply Kd.R_drew)); exact HO_c0z1.out) hb); have n4_ := Aside0.mk (Kd.R_below (by (with_reducible repeat (first | apply Kd.R_alloc | apply Kd.R_drewN | apply Kd.R_drew)); exact HO_d7z1.out) hb); have n5_ := Aside0.mk (blk_below (g := gbb9) (o := .cells #[.int .i64 xc0z0_1, .slice Ao18 xc0z1_1.length co18] 59 (0, 0)) (by (with_reducible repeat (first | refine blk_drewN ?_ _ | refine blk_drew ?_ | refine blk_alloc ?_ _)); exact BKb9.out) hb); have n6_ := Aside0.mk (blk_below (g := gbd6) (o := .cells #[.int .i64 tc4, .slice Ao26 tc5.length co26] 59 (0, 0)) (by (with_reducible repeat (first | refine blk_drewN ?_ _ | refine blk_drew ?_ | refine blk_alloc ?_ _)); exact BKd6.out) hb); have n7_ := Aside0.mk (blk_below (g := gbd7) (o := .cells #[.int .i64 td1, .int .u64 td2, .int .u64 td3, .int .i64 td4] 61 (0, 0)) (by (with_reducible repeat (first | refine blk_drewN ?_ _ | refine blk_drew ?_ | refine blk_alloc ?_ _)); exact BKd7.out) hb); have n8_ := Aside0.mk (below_step (by repeat (first | (with_reducible first | exact HB.out | apply below_alloc | apply pw_below_drewN | apply below_drew1 | refine below_set ?_ GEb9.out | refine below_set ?_ GEd6.out | refine below_set ?_ GEd7.out) | exact HB.out)) hb); clear HO_5; clear HO_7; clear HO_13; clear HO_c0z1; clear HO_d7z1; clear BKb9; clear BKd6; clear BKd7; clear HB; have HO_5 := n0_; have HO_7 := n1_; have HO_13 := n2_; have HO_c0z1 := n3_; have HO_d7z1 := n4_; have BKb9 := n5_; have BKd6 := n6_; have BKd7 := n7_; have HB := n8_; clear n0_ n1_ n2_ n3_ n4_ n5_ n6_ n7_ n8_; (try clear hb); (try clear hb2); (try clear hk); (try clear hi)))
                      repeat (go_quiet (fail); try go_wp2)
                      go_ret
                      exact ⟨by first | rfl | (simp [errW_none, errW_some] <;> rfl) | (simp [*, errW_none, errW_some] <;> rfl), by repeat (first | (with_reducible first | exact HB.out | apply below_alloc | apply pw_below_drewN | apply below_drew1 | refine below_set ?_ GEb9.out | refine below_set ?_ GEd6.out | refine below_set ?_ GEd7.out) | exact HB.out)⟩
                     ·rw [if_neg c75] at H
                      exact absurd H (by simp)
                    ·rw [if_neg c74] at H
                     exact absurd H (by simp)
                ·rw [if_neg c52] at H
                 exact absurd H (by simp)
               ·rw [if_neg c51] at H
                exact absurd H (by simp)
              ·rw [if_neg c50] at H
               have c50b0 : (td1 == 4) = false := beq_eq_false_iff_ne.mpr c50
               have c50b1 : (td1 != 4) = true := bne_iff_ne.mpr c50
               by_cases c81 : td1 = 3
               ·rw [if_pos c81] at H
                have c81b0 : (td1 == 3) = true := beq_iff_eq.mpr c81
                have c81b1 : (td1 != 3) = false := bne_eq_false_iff_eq.mpr c81
                clear c81
                replace H := Option.bind_eq_some_iff.mp H
                obtain ⟨⟨te5, te6⟩, A820, H⟩ := H
                replace H : (if 0 ≤ x16_3 then (if x16_3 < (tb5.length : Int) then (if ((rd_T36 tb5 x16_3).f0) = 23 then (if (tc8.length : Int) = 128 then (lVs.l0 kj39 a0 a1 tb0 tb5 tc8 (wrap64 (x11_1 + 1)) te5 te6) else (none)) else (none)) else (none)) else (none)) = some r := H
                have A82 := Aside0.mk A820
                clear A820
                by_cases c83 : 0 ≤ x16_3
                ·rw [if_pos c83] at H
                 have c83b0 : decide (0 ≤ x16_3) = true := decide_eq_true c83
                 clear c83
                 by_cases c84 : x16_3 < (tb5.length : Int)
                 ·rw [if_pos c84] at H
                  have c84b0 : decide (x16_3 < (tb5.length : Int)) = true := decide_eq_true c84
                  clear c84
                  by_cases c85 : ((rd_T36 tb5 x16_3).f0) = 23
                  ·rw [if_pos c85] at H
                   have c85b0 : (((rd_T36 tb5 x16_3).f0) == 23) = true := beq_iff_eq.mpr c85
                   have c85b1 : (((rd_T36 tb5 x16_3).f0) != 23) = false := bne_eq_false_iff_eq.mpr c85
                   clear c85
                   by_cases c86 : (tc8.length : Int) = 128
                   ·rw [if_pos c86] at H
                    have c86b0 : ((tc8.length : Int) == 128) = true := beq_iff_eq.mpr c86
                    have c86b1 : ((tc8.length : Int) != 128) = false := bne_eq_false_iff_eq.mpr c86
                    clear c86
                    have H' := Aside0.mk H
                    clear H
                    have hnb87 := NBd7_b9.out
                    have hnc87 := NBb9_d7.out
                    have hnb88 := NBd7_d6.out
                    have hnc88 := NBd6_d7.out
                    have hcz89_0 : wc.cell? ⟨gbd7, 0, none⟩ = some (.int .i64 td1) := (blk_cell BKd7.out 0).trans rfl
                    have hcz89_1 : wc.cell? ⟨gbd7, 1, none⟩ = some (.int .u64 td2) := (blk_cell BKd7.out 1).trans rfl
                    have hcz89_2 : wc.cell? ⟨gbd7, 2, none⟩ = some (.int .u64 td3) := (blk_cell BKd7.out 2).trans rfl
                    have hcz89_3 : wc.cell? ⟨gbd7, 3, none⟩ = some (.int .i64 td4) := (blk_cell BKd7.out 3).trans rfl
                    have hfz89_0 := blk_frozen BKd7.out 0
                    have hfz89_1 := blk_frozen BKd7.out 1
                    have hfz89_2 := blk_frozen BKd7.out 2
                    have hfz89_3 := blk_frozen BKd7.out 3
                    have hnb90 := NBb9_d6.out
                    have hnc90 := NBd6_b9.out
                    have hcz91_0 : wc.cell? ⟨gbb9, 0, none⟩ = some (.int .i64 xc0z0_1) := (blk_cell BKb9.out 0).trans rfl
                    have hcz91_1 : wc.cell? ⟨gbb9, 1, none⟩ = some (.slice Ao18 xc0z1_1.length co18) := (blk_cell BKb9.out 1).trans rfl
                    have hfz91_0 := blk_frozen BKb9.out 0
                    have hfz91_1 := blk_frozen BKb9.out 1
                    go_wp2_with (first | (go_at_call 36; (with_reducible refine (vm_Done.calls kj39 a0 xc0z0_1 _ _ xc0z1_1 (IntKind.u64.wrap (x11_1)) te5 te6 _ ?side1 ?side2 A82.out).mono ?_); (case side1 => repeat (first | exact (Kd.R_reads' HO_c0z1.out).2.2 | (with_reducible refine Kd.C_alloc ?_ _) | (with_reducible refine Kd.C_drewN ?_ _) | (with_reducible refine Kd.C_drew ?_))); (case side2 => exact (Kd.R_reads' HO_c0z1.out).2.1); rintro e w92 ⟨ve7, rfl, ho0, hb⟩; have n0_ := Aside0.mk (Kd.R_below (by (with_reducible repeat (first | apply Kd.R_alloc | apply Kd.R_drewN | apply Kd.R_drew)); exact HO_5.out) hb); have n1_ := Aside0.mk (Kd.R_below (by (with_reducible repeat (first | apply Kd.R_alloc | apply Kd.R_drewN | apply Kd.R_drew)); exact HO_7.out) hb); have n2_ := Aside0.mk (Kd.R_elder' (by (with_reducible repeat (first | apply Kd.R_alloc | apply Kd.R_drewN | apply Kd.R_drew)); exact HO_13.out) (Kd.R_base ho0) hb); have n3_ := Aside0.mk (Kd.R_elder' (by (with_reducible repeat (first | apply Kd.R_alloc | apply Kd.R_drewN | apply Kd.R_drew)); exact HO_c0z1.out) (Kd.R_base ho0) hb); have n4_ := Aside0.mk (Kd.R_elder' (by (with_reducible repeat (first | apply Kd.R_alloc | apply Kd.R_drewN | apply Kd.R_drew)); exact HO_d7z1.out) (Kd.R_base ho0) hb); have n5_ := Aside0.mk (Kd.R_lower (Kd.R_new' (Kd.R_new' (Kd.R_new' ho0 (Kd.R_lt (by (with_reducible repeat (first | apply Kd.R_alloc | apply Kd.R_drewN | apply Kd.R_drew)); exact HO_13.out))) (Kd.R_lt (by (with_reducible repeat (first | apply Kd.R_alloc | apply Kd.R_drewN | apply Kd.R_drew)); exact HO_c0z1.out))) (Kd.R_lt (by (with_reducible repeat (first | apply Kd.R_alloc | apply Kd.R_drewN | apply Kd.R_drew)); exact HO_d7z1.out))) (below_size (by repeat (first | (with_reducible first | exact HB.out | apply below_alloc | apply pw_below_drewN | apply below_drew1 | refine below_set ?_ GEb9.out | refine below_set ?_ GEd6.out | refine below_set ?_ GEd7.out) | exact HB.out)))); have n6_ := Aside0.mk (blk_below (g := gbb9) (o := .cells #[.int .i64 xc0z0_1, .slice Ao18 xc0z1_1.length co18] 59 (0, 0)) (by (with_reducible repeat (first | refine blk_drewN ?_ _ | refine blk_drew ?_ | refine blk_alloc ?_ _)); exact BKb9.out) hb); have n7_ := Aside0.mk (blk_below (g := gbd6) (o := .cells #[.int .i64 tc4, .slice Ao26 tc5.length co26] 59 (0, 0)) (by (with_reducible repeat (first | refine blk_drewN ?_ _ | refine blk_drew ?_ | refine blk_alloc ?_ _)); exact BKd6.out) hb); have n8_ := Aside0.mk (blk_below (g := gbd7) (o := .cells #[.int .i64 td1, .int .u64 td2, .int .u64 td3, .int .i64 td4] 61 (0, 0)) (by (with_reducible repeat (first | refine blk_drewN ?_ _ | refine blk_drew ?_ | refine blk_alloc ?_ _)); exact BKd7.out) hb); have n9_ := Aside0.mk (below_step (by repeat (first | (with_reducible first | exact HB.out | apply below_alloc | apply pw_below_drewN | apply below_drew1 | refine below_set ?_ GEb9.out | refine below_set ?_ GEd6.out | refine below_set ?_ GEd7.out) | exact HB.out)) hb); clear HO_5; clear HO_7; clear HO_13; clear HO_c0z1; clear HO_d7z1; clear BKb9; clear BKd6; clear BKd7; clear HB; have HO_5 := n0_; have HO_7 := n1_; have HO_13 := n2_; have HO_c0z1 := n3_; have HO_d7z1 := n4_; have HOe8 := n5_; have BKb9 := n6_; have BKd6 := n7_; have BKd7 := n8_; have HB := n9_; clear n0_ n1_ n2_ n3_ n4_ n5_ n6_ n7_ n8_ n9_; (try clear hb); (try clear hb2); (try clear hk); (try clear hi); (try clear ho0); have hcz93_0 : w92.cell? ⟨gbd6, 0, none⟩ = some (.int .i64 tc4) := (blk_cell BKd6.out 0).trans rfl; have hcz93_1 : w92.cell? ⟨gbd6, 1, none⟩ = some (.slice Ao26 tc5.length co26) := (blk_cell BKd6.out 1).trans rfl; have hfz93_0 := blk_frozen BKd6.out 0; have hfz93_1 := blk_frozen BKd6.out 1; obtain ⟨Ao94, co94, eo94⟩ := Kd.R_slice HOe8.out; subst eo94; have pe9 : 0 ≤ (x16_3 : Int) := of_decide_eq_true (by first | (with_reducible assumption) | assumption); have qe9 : x16_3 < (tb5.length : Int) := of_decide_eq_true (by first | (with_reducible assumption) | assumption); obtain ⟨ade9, ee9, hxe9_0, hxe9_1, hxe9_2, hxe9_3⟩ := at_T36 (Kd.R_reads' HO_7.out).2.2 x16_3 pe9 qe9; cases ee9; have hne9_0 : ade9.block ≠ gbd6 := (by first | exact Kd.own_blk (Kd.R_ne HO_7.out BKd6.out (by decide)) | exact (HO_7.out.1 _ rfl).2 | exact (HO_7.out.1 _ rfl).1.2 | exact (HO_7.out.1 _ rfl).1.1.2); have hne9_1 : ade9.block ≠ gbd6 := (by first | exact Kd.own_blk (Kd.R_ne HO_7.out BKd6.out (by decide)) | exact (HO_7.out.1 _ rfl).2 | exact (HO_7.out.1 _ rfl).1.2 | exact (HO_7.out.1 _ rfl).1.1.2); replace hxe9_0 := (cell_far (p := ⟨gbd6, 0, none⟩) (by first | (rw [add_block]; exact hne9_0) | (show (Addr.add _ _).block ≠ _; rw [add_block]; exact hne9_0) | exact hne9_0) (.int .i64 te5)).trans hxe9_0; replace hxe9_1 := (cell_far (p := ⟨gbd6, 0, none⟩) (by first | (rw [add_block]; exact hne9_0) | (show (Addr.add _ _).block ≠ _; rw [add_block]; exact hne9_0) | exact hne9_0) (.int .i64 te5)).trans hxe9_1; replace hxe9_2 := (cell_far (p := ⟨gbd6, 0, none⟩) (by first | (rw [add_block]; exact hne9_0) | (show (Addr.add _ _).block ≠ _; rw [add_block]; exact hne9_0) | exact hne9_0) (.int .i64 te5)).trans hxe9_2; replace hxe9_3 := (cell_far (p := ⟨gbd6, 0, none⟩) (by first | (rw [add_block]; exact hne9_0) | (show (Addr.add _ _).block ≠ _; rw [add_block]; exact hne9_0) | exact hne9_0) (.int .i64 te5)).trans hxe9_3; replace hxe9_0 := (cell_far (p := ⟨gbd6, 1, none⟩) (by first | (rw [add_block]; exact hne9_1) | (show (Addr.add _ _).block ≠ _; rw [add_block]; exact hne9_1) | exact hne9_1) (.slice Ao94 te6.length co94)).trans hxe9_0; replace hxe9_1 := (cell_far (p := ⟨gbd6, 1, none⟩) (by first | (rw [add_block]; exact hne9_1) | (show (Addr.add _ _).block ≠ _; rw [add_block]; exact hne9_1) | exact hne9_1) (.slice Ao94 te6.length co94)).trans hxe9_1; replace hxe9_2 := (cell_far (p := ⟨gbd6, 1, none⟩) (by first | (rw [add_block]; exact hne9_1) | (show (Addr.add _ _).block ≠ _; rw [add_block]; exact hne9_1) | exact hne9_1) (.slice Ao94 te6.length co94)).trans hxe9_2; replace hxe9_3 := (cell_far (p := ⟨gbd6, 1, none⟩) (by first | (rw [add_block]; exact hne9_1) | (show (Addr.add _ _).block ≠ _; rw [add_block]; exact hne9_1) | exact hne9_1) (.slice Ao94 te6.length co94)).trans hxe9_3; (try have hye9_0 := fun (n_ : Nat) => (show ((((w92.drewN n_).setCell ⟨gbd6, 0, none⟩ (.int .i64 te5)).setCell ⟨gbd6, 1, none⟩ (.slice Ao94 te6.length co94))).cell? _ = some _ from hxe9_0)); (try have hye9_1 := fun (n_ : Nat) => (show ((((w92.drewN n_).setCell ⟨gbd6, 0, none⟩ (.int .i64 te5)).setCell ⟨gbd6, 1, none⟩ (.slice Ao94 te6.length co94))).cell? _ = some _ from hxe9_1)); (try have hye9_2 := fun (n_ : Nat) => (show ((((w92.drewN n_).setCell ⟨gbd6, 0, none⟩ (.int .i64 te5)).setCell ⟨gbd6, 1, none⟩ (.slice Ao94 te6.length co94))).cell? _ = some _ from hxe9_2)); (try have hye9_3 := fun (n_ : Nat) => (show ((((w92.drewN n_).setCell ⟨gbd6, 0, none⟩ (.int .i64 te5)).setCell ⟨gbd6, 1, none⟩ (.slice Ao94 te6.length co94))).cell? _ = some _ from hxe9_3)); clear hne9_0; clear hne9_1; replace pe9 := eq_true pe9; replace qe9 := eq_true qe9; obtain ⟨Ao95, co95, eo95⟩ := Kd.R_slice HO_13.out; subst eo95; have hcz96_0 : w92.cell? ⟨gbb9, 0, none⟩ = some (.int .i64 xc0z0_1) := (blk_cell BKb9.out 0).trans rfl; have hcz96_1 : w92.cell? ⟨gbb9, 1, none⟩ = some (.slice Ao18 xc0z1_1.length co18) := (blk_cell BKb9.out 1).trans rfl; have hfz96_0 := blk_frozen BKb9.out 0; have hfz96_1 := blk_frozen BKb9.out 1))
                    repeat (go_quiet (fail); try go_wp2)
                    go_roundg kj39
                    case measure => have := HK1.out; have := HJ12.out; have := HK3.out; have := HJ39.out; omega
                    case rel => exact ⟨(tc8), (wrap64 (x11_1 + 1)), (te5), (te6), (.slice Ao94 te6.length co94), (by first | rfl | (simp; done) | (simp [*]; done)), H', ⟨by have := HK1.out; have := HJ12.out; have := HK3.out; have := HJ39.out; omega⟩, ⟨by (with_reducible repeat (first | apply Kd.R_alloc | apply Kd.R_drewN | apply Kd.R_drew)); exact Kd.R_mono (Kd.R_far (p := ⟨gbb9, 1, none⟩) (Kd.R_far (p := ⟨gbb9, 0, none⟩) (Kd.R_far (p := ⟨gbd6, 1, none⟩) (Kd.R_far (p := ⟨gbd6, 0, none⟩) (Kd.R_types (Kd.R_types HO_5.out BKd6.out (by decide)) BKb9.out (by decide)) (fun _ hk => hk.1.2) (.int .i64 te5)) (fun _ hk => hk.1.2) (.slice Ao94 te6.length co94)) (fun _ hk => hk.2) (.int .i64 te5)) (fun _ hk => hk.2) (.slice Ao94 te6.length co94)) (fun _ hk => trivial)⟩, ⟨by (with_reducible repeat (first | apply Kd.R_alloc | apply Kd.R_drewN | apply Kd.R_drew)); exact Kd.R_mono (Kd.R_far (p := ⟨gbb9, 1, none⟩) (Kd.R_far (p := ⟨gbb9, 0, none⟩) (Kd.R_far (p := ⟨gbd6, 1, none⟩) (Kd.R_far (p := ⟨gbd6, 0, none⟩) (Kd.R_types (Kd.R_types HO_7.out BKd6.out (by decide)) BKb9.out (by decide)) (fun _ hk => hk.1.2) (.int .i64 te5)) (fun _ hk => hk.1.2) (.slice Ao94 te6.length co94)) (fun _ hk => hk.2) (.int .i64 te5)) (fun _ hk => hk.2) (.slice Ao94 te6.length co94)) (fun _ hk => trivial)⟩, ⟨by (with_reducible repeat (first | apply Kd.R_alloc | apply Kd.R_drewN | apply Kd.R_drew)); exact Kd.R_mono (Kd.R_far (p := ⟨gbb9, 1, none⟩) (Kd.R_far (p := ⟨gbb9, 0, none⟩) (Kd.R_far (p := ⟨gbd6, 1, none⟩) (Kd.R_far (p := ⟨gbd6, 0, none⟩) (Kd.R_types (Kd.R_types HO_13.out BKd6.out (by decide)) BKb9.out (by decide)) (fun _ hk => hk.1.2) (.int .i64 te5)) (fun _ hk => hk.1.2) (.slice Ao94 te6.length co94)) (fun _ hk => hk.2) (.int .i64 te5)) (fun _ hk => hk.2) (.slice Ao94 te6.length co94)) (fun _ hk => hk.1.1.2)⟩, ⟨by (with_reducible repeat (first | apply Kd.R_alloc | apply Kd.R_drewN | apply Kd.R_drew)); exact Kd.R_mono (Kd.R_far (p := ⟨gbb9, 1, none⟩) (Kd.R_far (p := ⟨gbb9, 0, none⟩) (Kd.R_far (p := ⟨gbd6, 1, none⟩) (Kd.R_far (p := ⟨gbd6, 0, none⟩) (Kd.R_types (Kd.R_types HOe8.out BKd6.out (by decide)) BKb9.out (by decide)) (fun _ hk => hk.1.2) (.int .i64 te5)) (fun _ hk => hk.1.2) (.slice Ao94 te6.length co94)) (fun _ hk => hk.2) (.int .i64 te5)) (fun _ hk => hk.2) (.slice Ao94 te6.length co94)) (fun _ hk => hk.1.1.1.1.2)⟩, ⟨by (with_reducible repeat (first | refine blk_drewN ?_ _ | refine blk_drew ?_ | refine blk_alloc ?_ _)); refine blk_put (cs := #[.int .i64 te5, .slice Ao18 xc0z1_1.length co18]) ?_ 1 _ rfl; (with_reducible repeat (first | refine blk_drewN ?_ _ | refine blk_drew ?_ | refine blk_alloc ?_ _)); refine blk_put (cs := #[.int .i64 xc0z0_1, .slice Ao18 xc0z1_1.length co18]) ?_ 0 _ rfl; (with_reducible repeat (first | refine blk_drewN ?_ _ | refine blk_drew ?_ | refine blk_alloc ?_ _)); refine blk_far ?_ NBb9_d6.out _; (with_reducible repeat (first | refine blk_drewN ?_ _ | refine blk_drew ?_ | refine blk_alloc ?_ _)); refine blk_far ?_ NBb9_d6.out _; (with_reducible repeat (first | refine blk_drewN ?_ _ | refine blk_drew ?_ | refine blk_alloc ?_ _)); exact BKb9.out⟩, ⟨by repeat (first | (with_reducible first | exact HB.out | apply below_alloc | apply pw_below_drewN | apply below_drew1 | refine below_set ?_ GEb9.out | refine below_set ?_ GEd6.out | refine below_set ?_ GEd7.out) | exact HB.out)⟩⟩
                   ·rw [if_neg c86] at H
                    exact absurd H (by simp)
                  ·rw [if_neg c85] at H
                   exact absurd H (by simp)
                 ·rw [if_neg c84] at H
                  exact absurd H (by simp)
                ·rw [if_neg c83] at H
                 exact absurd H (by simp)
               ·rw [if_neg c81] at H
                have c81b0 : (td1 == 3) = false := beq_eq_false_iff_ne.mpr c81
                have c81b1 : (td1 != 3) = true := bne_iff_ne.mpr c81
                by_cases c97 : (tc8.length : Int) = 128
                ·rw [if_pos c97] at H
                 have c97b0 : ((tc8.length : Int) == 128) = true := beq_iff_eq.mpr c97
                 have c97b1 : ((tc8.length : Int) != 128) = false := bne_eq_false_iff_eq.mpr c97
                 clear c97
                 have H' := Aside0.mk H
                 clear H
                 have hnb98 := NBd7_b9.out
                 have hnc98 := NBb9_d7.out
                 have hnb99 := NBd7_d6.out
                 have hnc99 := NBd6_d7.out
                 have hcz100_0 : wc.cell? ⟨gbd7, 0, none⟩ = some (.int .i64 td1) := (blk_cell BKd7.out 0).trans rfl
                 have hcz100_1 : wc.cell? ⟨gbd7, 1, none⟩ = some (.int .u64 td2) := (blk_cell BKd7.out 1).trans rfl
                 have hcz100_2 : wc.cell? ⟨gbd7, 2, none⟩ = some (.int .u64 td3) := (blk_cell BKd7.out 2).trans rfl
                 have hcz100_3 : wc.cell? ⟨gbd7, 3, none⟩ = some (.int .i64 td4) := (blk_cell BKd7.out 3).trans rfl
                 have hfz100_0 := blk_frozen BKd7.out 0
                 have hfz100_1 := blk_frozen BKd7.out 1
                 have hfz100_2 := blk_frozen BKd7.out 2
                 have hfz100_3 := blk_frozen BKd7.out 3
                 obtain ⟨Ao101, co101, eo101⟩ := Kd.R_slice HO_13.out
                 subst eo101
                 have hnb102 := NBd6_b9.out
                 have hnc102 := NBb9_d6.out
                 have hcz103_0 : wc.cell? ⟨gbd6, 0, none⟩ = some (.int .i64 tc4) := (blk_cell BKd6.out 0).trans rfl
                 have hcz103_1 : wc.cell? ⟨gbd6, 1, none⟩ = some (.slice Ao26 tc5.length co26) := (blk_cell BKd6.out 1).trans rfl
                 have hfz103_0 := blk_frozen BKd6.out 0
                 have hfz103_1 := blk_frozen BKd6.out 1
                 have hcz104_0 : wc.cell? ⟨gbb9, 0, none⟩ = some (.int .i64 xc0z0_1) := (blk_cell BKb9.out 0).trans rfl
                 have hcz104_1 : wc.cell? ⟨gbb9, 1, none⟩ = some (.slice Ao18 xc0z1_1.length co18) := (blk_cell BKb9.out 1).trans rfl
                 have hfz104_0 := blk_frozen BKb9.out 0
                 have hfz104_1 := blk_frozen BKb9.out 1
                 go_wp2
                 repeat (go_quiet (fail); try go_wp2)
                 go_roundg kj39
                 case measure => have := HK1.out; have := HJ12.out; have := HK3.out; have := HJ39.out; omega
                 case rel => exact ⟨(tc8), (wrap64 (x11_1 + 1)), (tc4), (tc5), (.slice Ao26 tc5.length co26), (by first | rfl | (simp; done) | (simp [*]; done)), H', ⟨by have := HK1.out; have := HJ12.out; have := HK3.out; have := HJ39.out; omega⟩, ⟨by (with_reducible repeat (first | apply Kd.R_alloc | apply Kd.R_drewN | apply Kd.R_drew)); exact Kd.R_mono (Kd.R_far (p := ⟨gbb9, 1, none⟩) (Kd.R_far (p := ⟨gbb9, 0, none⟩) (Kd.R_types HO_5.out BKb9.out (by decide)) (fun _ hk => hk.2) (.int .i64 tc4)) (fun _ hk => hk.2) (.slice Ao26 tc5.length co26)) (fun _ hk => trivial)⟩, ⟨by (with_reducible repeat (first | apply Kd.R_alloc | apply Kd.R_drewN | apply Kd.R_drew)); exact Kd.R_mono (Kd.R_far (p := ⟨gbb9, 1, none⟩) (Kd.R_far (p := ⟨gbb9, 0, none⟩) (Kd.R_types HO_7.out BKb9.out (by decide)) (fun _ hk => hk.2) (.int .i64 tc4)) (fun _ hk => hk.2) (.slice Ao26 tc5.length co26)) (fun _ hk => trivial)⟩, ⟨by (with_reducible repeat (first | apply Kd.R_alloc | apply Kd.R_drewN | apply Kd.R_drew)); exact Kd.R_mono (Kd.R_far (p := ⟨gbb9, 1, none⟩) (Kd.R_far (p := ⟨gbb9, 0, none⟩) (Kd.R_types HO_13.out BKb9.out (by decide)) (fun _ hk => hk.2) (.int .i64 tc4)) (fun _ hk => hk.2) (.slice Ao26 tc5.length co26)) (fun _ hk => hk.1.2)⟩, ⟨by (with_reducible repeat (first | apply Kd.R_alloc | apply Kd.R_drewN | apply Kd.R_drew)); exact Kd.R_mono (Kd.R_far (p := ⟨gbb9, 1, none⟩) (Kd.R_far (p := ⟨gbb9, 0, none⟩) (Kd.R_types HO_d7z1.out BKb9.out (by decide)) (fun _ hk => hk.2) (.int .i64 tc4)) (fun _ hk => hk.2) (.slice Ao26 tc5.length co26)) (fun _ hk => hk.1.1)⟩, ⟨by (with_reducible repeat (first | refine blk_drewN ?_ _ | refine blk_drew ?_ | refine blk_alloc ?_ _)); refine blk_put (cs := #[.int .i64 tc4, .slice Ao18 xc0z1_1.length co18]) ?_ 1 _ rfl; (with_reducible repeat (first | refine blk_drewN ?_ _ | refine blk_drew ?_ | refine blk_alloc ?_ _)); refine blk_put (cs := #[.int .i64 xc0z0_1, .slice Ao18 xc0z1_1.length co18]) ?_ 0 _ rfl; (with_reducible repeat (first | refine blk_drewN ?_ _ | refine blk_drew ?_ | refine blk_alloc ?_ _)); exact BKb9.out⟩, ⟨by repeat (first | (with_reducible first | exact HB.out | apply below_alloc | apply pw_below_drewN | apply below_drew1 | refine below_set ?_ GEb9.out | refine below_set ?_ GEd6.out | refine below_set ?_ GEd7.out) | exact HB.out)⟩⟩
                ·rw [if_neg c97] at H
                 exact absurd H (by simp)
       ·replace c15 := Bool.eq_false_iff.mpr c15
        subst c15
        have H1 : ((januslaw07_awake.f kj12).bind fun tc3 => (some tc3)) = some r := by rw [if_neg (show ¬ (false = true) by decide)] at H; exact H
        clear H
        have H := H1
        clear H1
        replace H := Option.bind_eq_some_iff.mp H
        obtain ⟨tc3, A1050, H⟩ := H
        replace H : (some tc3) = some r := H
        have A105 := Aside0.mk A1050
        clear A1050
        obtain rfl := Option.some.inj H
        go_wp2_with (first | (go_at_call 34; (with_reducible refine (januslaw07_awake.calls kj12  tc3 _ A105.out).mono ?_); rintro e w106 ⟨rfl, hb⟩; have n0_ := Aside0.mk (Kd.R_below (by (with_reducible repeat (first | apply Kd.R_alloc | apply Kd.R_drewN | apply Kd.R_drew)); exact HO_5.out) hb); have n1_ := Aside0.mk (Kd.R_below (by (with_reducible repeat (first | apply Kd.R_alloc | apply Kd.R_drewN | apply Kd.R_drew)); exact HO_7.out) hb); have n2_ := Aside0.mk (Kd.R_below (by (with_reducible repeat (first | apply Kd.R_alloc | apply Kd.R_drewN | apply Kd.R_drew)); exact HO_10.out) hb); have n3_ := Aside0.mk (Kd.R_below (by (with_reducible repeat (first | apply Kd.R_alloc | apply Kd.R_drewN | apply Kd.R_drew)); exact HO_c0z1.out) hb); have n4_ := Aside0.mk (blk_below (g := gbb9) (o := .cells #[.int .i64 xc0z0_1, uc0z1] 59 (0, 0)) (by (with_reducible repeat (first | refine blk_drewN ?_ _ | refine blk_drew ?_ | refine blk_alloc ?_ _)); exact BKb9.out) hb); have n5_ := Aside0.mk (below_step (by repeat (first | (with_reducible first | exact HB.out | apply below_alloc | apply pw_below_drewN | apply below_drew1 | refine below_set ?_ GEb9.out) | exact HB.out)) hb); clear HO_5; clear HO_7; clear HO_10; clear HO_c0z1; clear BKb9; clear HB; have HO_5 := n0_; have HO_7 := n1_; have HO_10 := n2_; have HO_c0z1 := n3_; have BKb9 := n4_; have HB := n5_; clear n0_ n1_ n2_ n3_ n4_ n5_; (try clear hb); (try clear hb2); (try clear hk); (try clear hi)))
        repeat (go_quiet (fail); try go_wp2)
        go_ret
        exact ⟨by first | rfl | (simp [errW_none, errW_some] <;> rfl) | (simp [*, errW_none, errW_some] <;> rfl), by repeat (first | (with_reducible first | exact HB.out | apply below_alloc | apply pw_below_drewN | apply below_drew1 | refine below_set ?_ GEb9.out) | exact HB.out)⟩
  ·rw [if_neg c6] at H
   exact absurd H (by simp)
 ·rw [if_neg c4] at H
  have c4b0 : (tb1 == 0) = false := beq_eq_false_iff_ne.mpr c4
  have c4b1 : (tb1 != 0) = true := bne_iff_ne.mpr c4
  replace H := Option.bind_eq_some_iff.mp H
  obtain ⟨tb4, A1070, H⟩ := H
  replace H : (some tb4) = some r := H
  have A107 := Aside0.mk A1070
  clear A1070
  obtain rfl := Option.some.inj H
  go_enter Try.func12, Try.ntmps12
  go_wp2_with (first | (go_at_call 30; (with_reducible refine (janusref06_Depths.calls k a0 tb0 tb1 _ A3.out).mono ?_); rintro e w108 ⟨vb2, rfl, ho0, hb⟩; have n0_ := Aside0.mk (Kd.R_lower ho0 (below_size (by repeat (first | (with_reducible first | exact HB.out | apply below_alloc | apply pw_below_drewN | apply below_drew1) | exact HB.out)))); have n1_ := Aside0.mk (below_step (by repeat (first | (with_reducible first | exact HB.out | apply below_alloc | apply pw_below_drewN | apply below_drew1) | exact HB.out)) hb); clear HB; have HOb3 := n0_; have HB := n1_; clear n0_ n1_; (try clear hb); (try clear hb2); (try clear hk); (try clear hi); (try clear ho0)) | (go_at_call 34; (with_reducible refine (januslaw07_awake.calls k  tb4 _ A107.out).mono ?_); rintro e w109 ⟨rfl, hb⟩; have n0_ := Aside0.mk (Kd.R_below (by (with_reducible repeat (first | apply Kd.R_alloc | apply Kd.R_drewN | apply Kd.R_drew)); exact HOb3.out) hb); have n1_ := Aside0.mk (below_step (by repeat (first | (with_reducible first | exact HB.out | apply below_alloc | apply pw_below_drewN | apply below_drew1) | exact HB.out)) hb); clear HOb3; clear HB; have HOb3 := n0_; have HB := n1_; clear n0_ n1_; (try clear hb); (try clear hb2); (try clear hk); (try clear hi)))
  repeat (go_quiet (fail); try go_wp2)
  go_ret
  exact ⟨by first | rfl | (simp [errW_none, errW_some] <;> rfl) | (simp [*, errW_none, errW_some] <;> rfl), by repeat (first | (with_reducible first | exact HB.out | apply below_alloc | apply pw_below_drewN | apply below_drew1) | exact HB.out)⟩
end Go.Proofs.Ytjbpljcfogekhaa.Q
namespace Go.Proofs.Ytjbpljcfogekhaa.Core
open Go.RowKit Ytjbpljcfogekhaa.Q YtjbpljcfogekhaaW.PrintWords YtjbpljcfogekhaaW.PrintLast YtjbpljcfogekhaaW.PrintMore
theorem safe_end {s : ByteArray} {fuel : Int} {ds mem : List Int} {l : List S36} {n pc : Int} {st : List Int} : Ev (fun k => lVs.j1 k s fuel ds l mem n false pc st) true := by
 refine Ev.step (f := fun k => (januslaw07_awake.f k).bind fun tc3 => (some tc3)) (fun k => ?_) (Ev.bind awake07 (Ev.now _))
 simp only [lVs.j1]
 rw [if_neg (by simp)]
/-- the round looks for the place of its instruction, and finds it -/
theorem safe_scan {s : ByteArray} {l : List S36} {ds : List Int} (R : Ready s l ds) {i : Nat} {x : S36} (hx : l[i]? = some x) {st : List Int} (hr : Reach l i (st.length : Int)) (hs : s.size ≤ 1048576)
  (fuel n : Int) (mem' : List Int) (cnt pc' : Int) (st' : List Int) (kd a v sy : Int) (h : Ev (fun k => lVs.j3 k s fuel ds l n mem' cnt (i : Int) false x.f2 st pc' st' kd a v sy) true) :
  ∀ (e i' : Nat), i' + e = l.length → Ev (fun k => lVs.l1 k s fuel ds l n mem' cnt (if i < i' then (i : Int) else -1) (i' : Int) x.f2 st pc' st' kd a v sy) true
 | 0, i', hi => by
  have hil := (List.getElem?_eq_some_iff.1 hx).1
  refine Ev.step (f := fun k => lVs.j3 k s fuel ds l n mem' cnt (i : Int) false x.f2 st pc' st' kd a v sy) (fun k => ?_) h
  have hrd := rd_of (R.found.all _ _ hr)
  have hlen := R.found.len
  rw [if_pos (show i < i' by omega)]
  simp only [lVs.l1]
  rw [if_neg (by omega), if_neg (by omega), if_pos (by omega), if_pos (by omega), hrd, bne_self_eq_false]
 | e + 1, i', hi => by
  have hil := (List.getElem?_eq_some_iff.1 hx).1
  have hll := decAll_length R.dec
  refine Ev.step (f := fun k => lVs.l1 k s fuel ds l n mem' cnt (if i < i' + 1 then (i : Int) else -1) ((i' + 1 : Nat) : Int) x.f2 st pc' st' kd a v sy) (fun k => ?_) (safe_scan R hx hr hs fuel n mem' cnt pc' st' kd a v sy h e (i' + 1) (by omega))
  have e1 : wrap64 ((i' : Int) + 1) = ((i' + 1 : Nat) : Int) := by rw [wrap_in (by omega) (by omega)]; omega
  have hpl := dec_places s _ _ _ (by omega) R.dec
  have hx' := List.getElem?_eq_getElem (show i' < l.length by omega)
  rcases Nat.lt_trichotomy i i' with h1 | h1 | h1
  ·rw [if_pos h1, if_pos (show i < i' + 1 by omega)]
   simp only [lVs.l1]
   rw [if_pos (by omega), if_pos (by omega), rdT_of hx', if_neg, e1]
   have := List.pairwise_iff_getElem.1 hpl i i' hil (by omega) h1
   rw [List.getElem?_eq_getElem hil] at hx
   rw [Option.some.inj hx] at this
   omega
  ·subst h1
   rw [if_neg (Nat.lt_irrefl _), if_pos (show i < i + 1 by omega)]
   simp only [lVs.l1]
   rw [if_pos (by omega), if_pos (by omega), rdT_of hx, e1]
   first | rw [if_pos trivial] | rw [if_pos rfl]
  ·rw [if_neg (show ¬ i < i' by omega), if_neg (show ¬ i < i' + 1 by omega)]
   simp only [lVs.l1]
   rw [if_pos (by omega), if_pos (by omega), rdT_of hx', if_neg, e1]
   have := List.pairwise_iff_getElem.1 hpl i' i (by omega) hil h1
   rw [List.getElem?_eq_getElem hil] at hx
   rw [Option.some.inj hx] at this
   omega
theorem safe_l0 {s : ByteArray} {l : List S36} {ds : List Int} (R : Ready s l ds) (hs : s.size ≤ 1048576) (fuel : Int) :
  ∀ (d n : Nat), n + d = 200 → ∀ (i : Nat) (x : S36) (st mem : List Int), l[i]? = some x → Reach l i (st.length : Int) → (∀ x ∈ st, InW x) → (∀ x ∈ mem, InW x) → mem.length = 128 →
  Ev (fun k => lVs.l0 k s fuel ds l mem (n : Int) x.f2 st) true
 | 0, n, hn, i, x, st, mem, hx, hr, hst, hm, hml => by
  refine Ev.step (f := fun k => lVs.j1 k s fuel ds l mem (n : Int) false x.f2 st) (fun k => ?_) safe_end
  simp only [lVs.l0]
  rw [decide_eq_false (show ¬ (n : Int) < 200 by omega)]
  split <;> rfl
 | d + 1, n, hn, i, x, st, mem, hx, hr, hst, hm, hml => by
  by_cases hf : (n : Int) < fuel
  ·refine Ev.step (f := fun k => lVs.j1 k s fuel ds l mem (n : Int) true x.f2 st) (fun k => ?_) ?_
   ·simp only [lVs.l0]
    rw [decide_eq_true (show (n : Int) < 200 by omega), if_pos hf]
   have hil := (List.getElem?_eq_some_iff.1 hx).1
   have hl32 := (Reach_range R.ok hr).2
   have e1 : wrap64 ((n : Int) + 1) = ((n + 1 : Nat) : Int) := by rw [wrap_in (by omega) (by omega)]; omega
   have hrun := Run_ev (s := s) (by omega) 1 (by decide) x.f2 st mem hst (by omega) hm (by omega)
   have m1 : (mx 1 0).toNat = 1 := by decide
   rw [m1] at hrun
   have scan : ∀ (mem' : List Int) (cnt pc' : Int) (st' : List Int) (kd a v sy : Int), Ev (fun k => lVs.j3 k s fuel ds l (n : Int) mem' cnt (i : Int) false x.f2 st pc' st' kd a v sy) true →
     runS s 1 x.f2 st mem 0 = (pc', st', mem', kd, a, v, sy, cnt) → Ev (fun k => lVs.j1 k s fuel ds l mem (n : Int) true x.f2 st) true := by
    intro mem' cnt pc' st' kd a v sy h he
    rw [he] at hrun
    refine Ev.step (f := fun k => (vm_Run.f k s x.f2 st mem 1).bind fun btc4 => (lVs.l1 k s fuel ds l (n : Int) btc4.2.2.1 btc4.2.2.2.2.2.2.2 (-1) 0 x.f2 st btc4.1 btc4.2.1 btc4.2.2.2.1 btc4.2.2.2.2.1 btc4.2.2.2.2.2.1 btc4.2.2.2.2.2.2.1)) (fun k => ?_) (Ev.bind hrun ?_)
    ·simp only [lVs.j1]
     first | rw [if_pos trivial] | rw [if_pos rfl]
    ·have := safe_scan R hx hr hs fuel n mem' cnt pc' st' kd a v sy h l.length 0 (by omega)
     simpa using this
   rcases safe_run R hr hx hs hst hm with ⟨a, v, sy, he, ho⟩ | ⟨a, v, sy, he, ho⟩ | ⟨pc', st', mem', he, ⟨j, y, hj, hy, ey⟩, hlen, hst', hm', hml'⟩
   ·refine scan _ _ _ _ _ _ _ _ ?_ he
    refine Ev.step (f := fun k => (januslaw07_awake.f k).bind fun te1 => (some te1)) (fun k => ?_) (Ev.bind awake07 (Ev.now _))
    rcases ho with h | h | h | h <;> simp [lVs.j3, rdT_of hx, h, hil]
   ·refine scan _ _ _ _ _ _ _ _ ?_ he
    obtain ⟨hd, hp1, ht0, htl⟩ := done_ev R hr hx hs ho (IntKind.u64.wrap (n : Int))
    obtain ⟨j, y, hj, hy, ey⟩ := (next_fall R hr hx (by omega) hs).out
    have hrx := decAll_range R.dec x (List.mem_of_getElem? hx)
    rw [wrap_in (by omega) (by omega)] at ey
    refine Ev.step (f := fun k => (vm_Done.f k s x.f2 st (IntKind.u64.wrap (n : Int))).bind fun bte5 => (lVs.l0 k s fuel ds l mem (wrap64 ((n : Int) + 1)) bte5.1 bte5.2)) (fun k => ?_) (Ev.bind hd ?_)
    ·simp [lVs.j3, rdT_of hx, ho, hil, hml]
    ·simp only
     rw [e1, ← ey]
     have hlen : ((st.take (st.length - (tk x).toNat) ++ [IntKind.u64.wrap (n : Int)]).length : Int) = st.length - tk x + pt x := by
      simp only [List.length_append, List.length_take, List.length_cons, List.length_nil]; omega
     refine safe_l0 R hs fuel d (n + 1) (by omega) j y _ mem hy (by rw [hlen]; exact (succ_in R hr hx hj).1) (fun z hz => ?_) hm hml
     rcases List.mem_append.1 hz with h | h
     ·exact hst z (List.mem_of_mem_take h)
     ·rw [List.mem_singleton.1 h]; exact wrap_u n
   ·refine scan _ _ _ _ _ _ _ _ ?_ he
    refine Ev.step (f := fun k => lVs.l0 k s fuel ds l mem' (wrap64 ((n : Int) + 1)) pc' st') (fun k => ?_) ?_
    ·simp [lVs.j3, hml', hml]
    ·rw [e1, ← ey]
     exact safe_l0 R hs fuel d (n + 1) (by omega) j y st' mem' hy (by rw [hlen]; exact (succ_in R hr hx hj).1) hst' hm' (by omega)
  ·refine Ev.step (f := fun k => lVs.j1 k s fuel ds l mem (n : Int) false x.f2 st) (fun k => ?_) safe_end
   simp only [lVs.l0]
   rw [if_neg hf]
theorem RDepths_g {s : ByteArray} (hs : s.size ≤ 1048576) (k : Nat) : janusref06_Depths.f k s = some (depthsS s) := by unfold janusref06_Depths.f; rw [if_pos (by omega)]
theorem VmSafe_ev {s : ByteArray} (hs : s.size ≤ 1048576) (fuel : Int) (ha : -9223372036854775808 ≤ fuel ∧ fuel < 9223372036854775808) : Ev (fun k => lVs.f k s fuel) true := by
 simp only [lVs.f]
 refine Ev.bind (Ev.ret (fun k => RDepths_g hs k)) ?_
 cases hr : readS s with
 | none =>
  rw [depths_none' hr]
  exact Ev.neg (by simp) (Ev.bind awake07 (Ev.now _))
 | some p =>
  obtain ⟨l, ds⟩ := p
  have R := readS_some hr
  have hlp := decAll_pos R.dec (by have := R.size; omega)
  rw [depthsS_some hr]
  refine Ev.pos rfl (Ev.bind (RDec_ev hs R.dec) (Ev.pos (by omega) ?_))
  have hx := List.getElem?_eq_getElem hlp
  have e0 := (dec_at s _ _ _ R.dec).1 _ hx
  have := safe_l0 R hs fuel 200 0 (by omega) 0 _ [] (List.replicate 128 0) hx .start (fun z hz => by simp at hz) (fun z hz => by rw [(List.mem_replicate.1 hz).2]; exact ⟨by omega, by omega⟩) (by simp)
  rw [e0] at this
  exact this
end Go.Proofs.Ytjbpljcfogekhaa.Core
