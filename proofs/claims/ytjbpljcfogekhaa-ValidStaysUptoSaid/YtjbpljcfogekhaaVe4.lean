/- ValidEntries and ValidStays: part 4: what the walks and the plain law need, in order. -/
import Derived.Test.YtjbpljcfogekhaaVe3
set_option linter.unusedVariables false
set_option linter.unusedSimpArgs false
namespace Go.Proofs.Ytjbpljcfogekhaa.Q
open Go.RowKit Go.Proofs.YtjbpljcfogekhaaW.PrintWords Go.Proofs.YtjbpljcfogekhaaW.PrintLast Go.Proofs.YtjbpljcfogekhaaW.PrintMore
attribute [local go_sem] max2_int min2_int max_two min_two max_three min_three max_four min_four
set_option linter.unusedVariables false
set_option linter.unusedSimpArgs false
mutual
def januslaw06_ValidStays.j0 : Nat → List Int → List (S36) → Bool → Option (Bool)
 | 0, _, _, _ => none
 | k + 1, x3, x5, x50 => if x50 = true then (none) else (januslaw06_ValidStays.l0 k x3 x5 0)
def januslaw06_ValidStays.l0 : Nat → List Int → List (S36) → Int → Option (Bool)
 | 0, _, _, _ => none
 | k + 1, x3, x5, x7 => if x7 < (x5.length : Int) then (if 0 ≤ x7 then (if x7 < (x3.length : Int) then (if (rd x3 x7) < 0 then (januslaw06_ValidStays.l0 k x3 x5 (wrap64 (x7 + 1))) else ((janusref05_Moves.f k ((rd_T36 x5 x7).f0) ((rd_T36 x5 x7).f1) ((rd_T36 x5 x7).f2) ((rd_T36 x5 x7).f3)).bind fun bt371 => (if bt371.1 < 0 then (januslaw06_ValidStays.j2 k x3 x5 x7 (wrap64 ((wrap64 ((rd x3 x7) - bt371.1)) + bt371.2)) true) else (if (rd x3 x7) < bt371.1 then (januslaw06_ValidStays.j2 k x3 x5 x7 (wrap64 ((wrap64 ((rd x3 x7) - bt371.1)) + bt371.2)) true) else (januslaw06_ValidStays.j2 k x3 x5 x7 (wrap64 ((wrap64 ((rd x3 x7) - bt371.1)) + bt371.2)) (decide ((wrap64 ((wrap64 ((rd x3 x7) - bt371.1)) + bt371.2)) > 32))))))) else (none)) else (none)) else ((januslaw06_awake.f k).bind fun t368 => (some t368))
def januslaw06_ValidStays.j2 : Nat → List Int → List (S36) → Int → Int → Bool → Option (Bool)
 | 0, _, _, _, _, _ => none
 | k + 1, x3, x5, x7, x10, x91 => if x91 = true then (none) else (if 0 ≤ x7 then (if x7 < (x5.length : Int) then (if ((rd_T36 x5 x7).f0) = 21 then (januslaw06_ValidStays.j3 k x3 x5 x7 x10 false) else (if (wrap64 (x7 + 1)) = (x5.length : Int) then (januslaw06_ValidStays.j3 k x3 x5 x7 x10 true) else (if 0 ≤ (wrap64 (x7 + 1)) then (if (wrap64 (x7 + 1)) < (x3.length : Int) then (januslaw06_ValidStays.j3 k x3 x5 x7 x10 ((rd x3 (wrap64 (x7 + 1))) != x10)) else (none)) else (none)))) else (none)) else (none))
def januslaw06_ValidStays.j3 : Nat → List Int → List (S36) → Int → Int → Bool → Option (Bool)
 | 0, _, _, _, _, _ => none
 | k + 1, x3, x5, x7, x10, x113 => if x113 = true then (none) else (if 0 ≤ x7 then (if x7 < (x5.length : Int) then (if ((rd_T36 x5 x7).f0) = 21 then (januslaw06_ValidStays.j4 k x3 x5 x7 x10 true) else (januslaw06_ValidStays.j4 k x3 x5 x7 x10 (((rd_T36 x5 x7).f0) == 22))) else (none)) else (none))
def januslaw06_ValidStays.j4 : Nat → List Int → List (S36) → Int → Int → Bool → Option (Bool)
 | 0, _, _, _, _, _ => none
 | k + 1, x3, x5, x7, x10, x127 => if x127 = true then (januslaw06_ValidStays.l1 k x3 x5 x7 x10 false 0) else (januslaw06_ValidStays.l0 k x3 x5 (wrap64 (x7 + 1)))
def januslaw06_ValidStays.l1 : Nat → List Int → List (S36) → Int → Int → Bool → Int → Option (Bool)
 | 0, _, _, _, _, _, _ => none
 | k + 1, x3, x5, x7, x10, x11, x12 => if x12 < (x5.length : Int) then (if x11 = true then (januslaw06_ValidStays.l1 k x3 x5 x7 x10 true (wrap64 (x12 + 1))) else (if 0 ≤ x12 then (if 0 ≤ x7 then (if x7 < (x5.length : Int) then (if (IntKind.u64.wrap ((rd_T36 x5 x12).f2)) = ((rd_T36 x5 x7).f1) then (if x12 < (x3.length : Int) then (januslaw06_ValidStays.l1 k x3 x5 x7 x10 ((rd x3 x12) == x10) (wrap64 (x12 + 1))) else (none)) else (januslaw06_ValidStays.l1 k x3 x5 x7 x10 false (wrap64 (x12 + 1)))) else (none)) else (none)) else (none))) else (if x11 = true then (januslaw06_ValidStays.l0 k x3 x5 (wrap64 (x7 + 1))) else (none))
end
def januslaw06_ValidStays.f (k : Nat) (a0 : ByteArray) : Option (Bool) := (valid_Depths.f k a0).bind fun bt358 => (if bt358.2 = 0 then ((janusref05_Decode.f k a0).bind fun bt363 => (if bt363.2 = 0 then (if (bt358.1.length : Int) = (bt363.1.length : Int) then (if (bt363.1.length : Int) = 0 then (januslaw06_ValidStays.j0 k bt358.1 bt363.1 true) else (if 0 < (bt358.1.length : Int) then (januslaw06_ValidStays.j0 k bt358.1 bt363.1 ((rd bt358.1 0) != 0)) else (none))) else (januslaw06_ValidStays.j0 k bt358.1 bt363.1 true)) else (januslaw06_ValidStays.j0 k bt358.1 bt363.1 true))) else (if (bt358.1.length : Int) = 0 then ((januslaw06_awake.f k).bind fun t362 => (some t362)) else (none)))
set_option maxHeartbeats 8000000 in
set_option maxRecDepth 100000 in
theorem januslaw06_ValidStays.calls (k : Nat) (a0 : ByteArray) (r : Bool) (w : World) (h : januslaw06_ValidStays.f k a0 = some r) :
  Calls Try.prog 9 #[.string a0] w fun e w' => e = .returned (.bool r) ∧ Below w.heap.size w w' := by
 have hu36 := Try.underlying36
 have HB := Aside0.mk (Below.refl w.heap.size w)
 have H : ((valid_Depths.f k a0).bind fun bt358 => (if bt358.2 = 0 then ((janusref05_Decode.f k a0).bind fun bt363 => (if bt363.2 = 0 then (if (bt358.1.length : Int) = (bt363.1.length : Int) then (if (bt363.1.length : Int) = 0 then (januslaw06_ValidStays.j0 k bt358.1 bt363.1 true) else (if 0 < (bt358.1.length : Int) then (januslaw06_ValidStays.j0 k bt358.1 bt363.1 ((rd bt358.1 0) != 0)) else (none))) else (januslaw06_ValidStays.j0 k bt358.1 bt363.1 true)) else (januslaw06_ValidStays.j0 k bt358.1 bt363.1 true))) else (if (bt358.1.length : Int) = 0 then ((januslaw06_awake.f k).bind fun t362 => (some t362)) else (none)))) = some r := h
 clear h
 replace H := Option.bind_eq_some_iff.mp H
 obtain ⟨⟨t358, t359⟩, A20, H⟩ := H
 replace H : (if t359 = 0 then ((janusref05_Decode.f k a0).bind fun bt363 => (if bt363.2 = 0 then (if (t358.length : Int) = (bt363.1.length : Int) then (if (bt363.1.length : Int) = 0 then (januslaw06_ValidStays.j0 k t358 bt363.1 true) else (if 0 < (t358.length : Int) then (januslaw06_ValidStays.j0 k t358 bt363.1 ((rd t358 0) != 0)) else (none))) else (januslaw06_ValidStays.j0 k t358 bt363.1 true)) else (januslaw06_ValidStays.j0 k t358 bt363.1 true))) else (if (t358.length : Int) = 0 then ((januslaw06_awake.f k).bind fun t362 => (some t362)) else (none))) = some r := H
 have A2 := Aside0.mk A20
 clear A20
 by_cases c3 : t359 = 0
 ·rw [if_pos c3] at H
  have c3b0 : (t359 == 0) = true := beq_iff_eq.mpr c3
  have c3b1 : (t359 != 0) = false := bne_eq_false_iff_eq.mpr c3
  clear c3
  replace H := Option.bind_eq_some_iff.mp H
  obtain ⟨⟨t363, t364⟩, A40, H⟩ := H
  replace H : (if t364 = 0 then (if (t358.length : Int) = (t363.length : Int) then (if (t363.length : Int) = 0 then (januslaw06_ValidStays.j0 k t358 t363 true) else (if 0 < (t358.length : Int) then (januslaw06_ValidStays.j0 k t358 t363 ((rd t358 0) != 0)) else (none))) else (januslaw06_ValidStays.j0 k t358 t363 true)) else (januslaw06_ValidStays.j0 k t358 t363 true)) = some r := H
  have A4 := Aside0.mk A40
  clear A40
  have HC5 := Aside0.mk H
  clear H
  go_enter Try.func9, Try.ntmps9
  go_upto_region 5 with (first | (go_at_call 29; (with_reducible refine (valid_Depths.calls k a0 t358 t359 _ A2.out).mono ?_); rintro e w6 ⟨v360, rfl, ho0, hb⟩; have n0_ := Aside0.mk (Kd.R_lower ho0 (below_size (by repeat (first | (with_reducible first | exact HB.out | apply below_alloc | apply pw_below_drewN | apply below_drew1) | exact HB.out)))); have n1_ := Aside0.mk (below_step (by repeat (first | (with_reducible first | exact HB.out | apply below_alloc | apply pw_below_drewN | apply below_drew1) | exact HB.out)) hb); clear HB; have HO361 := n0_; have HB := n1_; clear n0_ n1_; (try clear hb); (try clear hb2); (try clear hk); (try clear hi); (try clear ho0)) | (go_at_call 19; (with_reducible refine (janusref05_Decode.calls k a0 t363 t364 _ A4.out).mono ?_); rintro e w7 ⟨v365, rfl, ho0, hb⟩; have n0_ := Aside0.mk (Kd.R_below (by (with_reducible repeat (first | apply Kd.R_alloc | apply Kd.R_drewN | apply Kd.R_drew)); exact HO361.out) hb); have n1_ := Aside0.mk (Kd.R_lower ho0 (below_size (by repeat (first | (with_reducible first | exact HB.out | apply below_alloc | apply pw_below_drewN | apply below_drew1) | exact HB.out)))); have n2_ := Aside0.mk (below_step (by repeat (first | (with_reducible first | exact HB.out | apply below_alloc | apply pw_below_drewN | apply below_drew1) | exact HB.out)) hb); clear HO361; clear HB; have HO361 := n0_; have HO366 := n1_; have HB := n2_; clear n0_ n1_ n2_; (try clear hb); (try clear hb2); (try clear hk); (try clear hi); (try clear ho0)))
  repeat (go_quiet (first | (go_at_call 29; (with_reducible refine (valid_Depths.calls k a0 t358 t359 _ A2.out).mono ?_); rintro e w6 ⟨v360, rfl, ho0, hb⟩; have n0_ := Aside0.mk (Kd.R_lower ho0 (below_size (by repeat (first | (with_reducible first | exact HB.out | apply below_alloc | apply pw_below_drewN | apply below_drew1) | exact HB.out)))); have n1_ := Aside0.mk (below_step (by repeat (first | (with_reducible first | exact HB.out | apply below_alloc | apply pw_below_drewN | apply below_drew1) | exact HB.out)) hb); clear HB; have HO361 := n0_; have HB := n1_; clear n0_ n1_; (try clear hb); (try clear hb2); (try clear hk); (try clear hi); (try clear ho0)) | (go_at_call 19; (with_reducible refine (janusref05_Decode.calls k a0 t363 t364 _ A4.out).mono ?_); rintro e w7 ⟨v365, rfl, ho0, hb⟩; have n0_ := Aside0.mk (Kd.R_below (by (with_reducible repeat (first | apply Kd.R_alloc | apply Kd.R_drewN | apply Kd.R_drew)); exact HO361.out) hb); have n1_ := Aside0.mk (Kd.R_lower ho0 (below_size (by repeat (first | (with_reducible first | exact HB.out | apply below_alloc | apply pw_below_drewN | apply below_drew1) | exact HB.out)))); have n2_ := Aside0.mk (below_step (by repeat (first | (with_reducible first | exact HB.out | apply below_alloc | apply pw_below_drewN | apply below_drew1) | exact HB.out)) hb); clear HO361; clear HB; have HO361 := n0_; have HO366 := n1_; have HB := n2_; clear n0_ n1_ n2_; (try clear hb); (try clear hb2); (try clear hk); (try clear hi); (try clear ho0))); go_upto_region 5 with (first | (go_at_call 29; (with_reducible refine (valid_Depths.calls k a0 t358 t359 _ A2.out).mono ?_); rintro e w6 ⟨v360, rfl, ho0, hb⟩; have n0_ := Aside0.mk (Kd.R_lower ho0 (below_size (by repeat (first | (with_reducible first | exact HB.out | apply below_alloc | apply pw_below_drewN | apply below_drew1) | exact HB.out)))); have n1_ := Aside0.mk (below_step (by repeat (first | (with_reducible first | exact HB.out | apply below_alloc | apply pw_below_drewN | apply below_drew1) | exact HB.out)) hb); clear HB; have HO361 := n0_; have HB := n1_; clear n0_ n1_; (try clear hb); (try clear hb2); (try clear hk); (try clear hi); (try clear ho0)) | (go_at_call 19; (with_reducible refine (janusref05_Decode.calls k a0 t363 t364 _ A4.out).mono ?_); rintro e w7 ⟨v365, rfl, ho0, hb⟩; have n0_ := Aside0.mk (Kd.R_below (by (with_reducible repeat (first | apply Kd.R_alloc | apply Kd.R_drewN | apply Kd.R_drew)); exact HO361.out) hb); have n1_ := Aside0.mk (Kd.R_lower ho0 (below_size (by repeat (first | (with_reducible first | exact HB.out | apply below_alloc | apply pw_below_drewN | apply below_drew1) | exact HB.out)))); have n2_ := Aside0.mk (below_step (by repeat (first | (with_reducible first | exact HB.out | apply below_alloc | apply pw_below_drewN | apply below_drew1) | exact HB.out)) hb); clear HO361; clear HB; have HO361 := n0_; have HO366 := n1_; have HB := n2_; clear n0_ n1_ n2_; (try clear hb); (try clear hb2); (try clear hk); (try clear hi); (try clear ho0))))
  (try simp only [Act.put, List.setIfInBounds_toArray, List.set_cons_zero, List.set_cons_succ])
  go_cut [50] (fun v50 wc => ∃ (kq : Nat) (x50_4 : Bool), v50 = .bool x50_4 ∧ Aside0 (januslaw06_ValidStays.j0 kq t358 t363 x50_4 = some r) ∧ Aside0 (kq ≤ k) ∧ Aside0 (Kd.R (Kd.int .i64) 3 wc w.heap.size (fun _ => True) v360 t358) ∧ Aside0 (Kd.R k36 36 wc w.heap.size (fun _ => True) v365 t363) ∧ Aside0 (Below w.heap.size w wc))
  case first =>
   have H := HC5.out
   clear HC5
   by_cases c8 : t364 = 0
   ·rw [if_pos c8] at H
    have c8b0 : (t364 == 0) = true := beq_iff_eq.mpr c8
    have c8b1 : (t364 != 0) = false := bne_eq_false_iff_eq.mpr c8
    clear c8
    (first | rw [c8b0] | (simp only [i64_w, i32_w]; rw [c8b0]) | skip)
    by_cases c9 : (t358.length : Int) = (t363.length : Int)
    ·rw [if_pos c9] at H
     have c9b0 : ((t358.length : Int) == (t363.length : Int)) = true := beq_iff_eq.mpr c9
     have c9b1 : ((t358.length : Int) != (t363.length : Int)) = false := bne_eq_false_iff_eq.mpr c9
     have c9b2 : (t358.length == t363.length) = true := by first | simpa using c9 | (simp at c9 ⊢; omega)
     clear c9
     by_cases c10 : (t363.length : Int) = 0
     ·rw [if_pos c10] at H
      have c10b0 : ((t363.length : Int) == 0) = true := beq_iff_eq.mpr c10
      have c10b1 : ((t363.length : Int) != 0) = false := bne_eq_false_iff_eq.mpr c10
      clear c10
      have H' := Aside0.mk H
      clear H
      obtain ⟨Ao11, co11, eo11⟩ := Kd.R_slice HO361.out
      subst eo11
      obtain ⟨Ao12, co12, eo12⟩ := Kd.R_slice HO366.out
      subst eo12
      go_wp2
      repeat (go_quiet (fail); try go_wp2)
      go_meet
      case rel => exact ⟨_, (true), (by first | rfl | (simp; done) | (simp [*]; done)), H', ⟨by first | omega | exact Nat.le_refl _⟩, ⟨by (with_reducible repeat (first | apply Kd.R_alloc | apply Kd.R_drewN | apply Kd.R_drew)); exact HO361.out⟩, ⟨by (with_reducible repeat (first | apply Kd.R_alloc | apply Kd.R_drewN | apply Kd.R_drew)); exact HO366.out⟩, ⟨by repeat (first | (with_reducible first | exact HB.out | apply below_alloc | apply pw_below_drewN | apply below_drew1) | exact HB.out)⟩⟩
     ·rw [if_neg c10] at H
      have c10b0 : ((t363.length : Int) == 0) = false := beq_eq_false_iff_ne.mpr c10
      have c10b1 : ((t363.length : Int) != 0) = true := bne_iff_ne.mpr c10
      have c10b2 : ¬ (t363 = []) := fun h_ => c10 (by rw [h_]; rfl)
      by_cases c13 : 0 < (t358.length : Int)
      ·rw [if_pos c13] at H
       have c13b0 : decide (0 < (t358.length : Int)) = true := decide_eq_true c13
       have c13b1 : decide (0 < t358.length) = true := decide_eq_true (by omega)
       clear c13
       have H' := Aside0.mk H
       clear H
       obtain ⟨Ao14, co14, eo14⟩ := Kd.R_slice HO361.out
       subst eo14
       obtain ⟨Ao15, co15, eo15⟩ := Kd.R_slice HO366.out
       subst eo15
       have p367 : 0 ≤ (0 : Int) := (by omega)
       have q367 : 0 < (t358.length : Int) := of_decide_eq_true (by first | (with_reducible assumption) | assumption)
       obtain ⟨ad367, e367, hx367_0⟩ := Kd.at_int (Kd.R_reads' HO361.out).2.2 0 p367 q367
       cases e367
       have qi367 : (0 < t358.length) = True := eq_true (by omega)
       (try rw [show ((0 : Int)).toNat = 0 from rfl] at hx367_0)
       (try rw [Addr.add_zero'] at hx367_0)
       replace p367 := eq_true p367
       replace q367 := eq_true q367
       go_wp2
       repeat (go_quiet (fail); try go_wp2)
       go_meet
       case rel => exact ⟨_, (((rd t358 0) != 0)), (by first | rfl | (simp; done) | (simp [*]; done)), H', ⟨by first | omega | exact Nat.le_refl _⟩, ⟨by (with_reducible repeat (first | apply Kd.R_alloc | apply Kd.R_drewN | apply Kd.R_drew)); exact HO361.out⟩, ⟨by (with_reducible repeat (first | apply Kd.R_alloc | apply Kd.R_drewN | apply Kd.R_drew)); exact HO366.out⟩, ⟨by repeat (first | (with_reducible first | exact HB.out | apply below_alloc | apply pw_below_drewN | apply below_drew1) | exact HB.out)⟩⟩
      ·rw [if_neg c13] at H
       exact absurd H (by simp)
    ·rw [if_neg c9] at H
     have c9b0 : ((t358.length : Int) == (t363.length : Int)) = false := beq_eq_false_iff_ne.mpr c9
     have c9b1 : ((t358.length : Int) != (t363.length : Int)) = true := bne_iff_ne.mpr c9
     have c9b2 : (t358.length == t363.length) = false := by first | simpa using c9 | (simp at c9 ⊢; omega)
     have H' := Aside0.mk H
     clear H
     obtain ⟨Ao16, co16, eo16⟩ := Kd.R_slice HO361.out
     subst eo16
     obtain ⟨Ao17, co17, eo17⟩ := Kd.R_slice HO366.out
     subst eo17
     go_wp2
     repeat (go_quiet (fail); try go_wp2)
     go_meet
     case rel => exact ⟨_, (true), (by first | rfl | (simp; done) | (simp [*]; done)), H', ⟨by first | omega | exact Nat.le_refl _⟩, ⟨by (with_reducible repeat (first | apply Kd.R_alloc | apply Kd.R_drewN | apply Kd.R_drew)); exact HO361.out⟩, ⟨by (with_reducible repeat (first | apply Kd.R_alloc | apply Kd.R_drewN | apply Kd.R_drew)); exact HO366.out⟩, ⟨by repeat (first | (with_reducible first | exact HB.out | apply below_alloc | apply pw_below_drewN | apply below_drew1) | exact HB.out)⟩⟩
   ·rw [if_neg c8] at H
    have c8b0 : (t364 == 0) = false := beq_eq_false_iff_ne.mpr c8
    have c8b1 : (t364 != 0) = true := bne_iff_ne.mpr c8
    (first | rw [c8b0] | (simp only [i64_w, i32_w]; rw [c8b0]) | skip)
    have H' := Aside0.mk H
    clear H
    go_wp2
    repeat (go_quiet (fail); try go_wp2)
    go_meet
    case rel => exact ⟨_, (true), (by first | rfl | (simp; done) | (simp [*]; done)), H', ⟨by first | omega | exact Nat.le_refl _⟩, ⟨by (with_reducible repeat (first | apply Kd.R_alloc | apply Kd.R_drewN | apply Kd.R_drew)); exact HO361.out⟩, ⟨by (with_reducible repeat (first | apply Kd.R_alloc | apply Kd.R_drewN | apply Kd.R_drew)); exact HO366.out⟩, ⟨by repeat (first | (with_reducible first | exact HB.out | apply below_alloc | apply pw_below_drewN | apply below_drew1) | exact HB.out)⟩⟩
  case rest =>
   clear HC5
   try clear c1
   try clear p2
   try clear c3
   try clear c3b0
   try clear c3b1
   try clear p3
   try clear q3
   try clear hx3
   try clear qi3
   try clear c8
   try clear c8b0
   try clear c8b1
   try clear c9
   try clear c9b0
   try clear c9b1
   try clear c9b2
   try clear c10
   try clear c10b0
   try clear c10b1
   try clear c10b2
   try clear c13
   try clear c13b0
   try clear c13b1
   try clear hx367_0
   try clear p367
   try clear q367
   obtain ⟨kq, x50_4, rfl, HA, HJ4, HO_3, HO_5, HB⟩ := hcut
   cases kq with
   | zero => exact absurd HA.out (by simp [januslaw06_ValidStays.j0])
   | succ kj4 =>
    have H := HA.out
    clear HA
    simp only [januslaw06_ValidStays.j0] at H
    by_cases c18 : x50_4 = true
    ·subst c18
     have H1 : (none) = some r := by rw [if_pos rfl] at H; exact H
     clear H
     have H := H1
     clear H1
     exact absurd H (by simp)
    ·replace c18 := Bool.eq_false_iff.mpr c18
     subst c18
     have H1 : (januslaw06_ValidStays.l0 kj4 t358 t363 0) = some r := by rw [if_neg (show ¬ (false = true) by decide)] at H; exact H
     clear H
     have H := H1
     clear H1
     have H' := Aside0.mk H
     clear H
     go_wp2
     repeat (go_quiet (fail); try go_wp2)
     go_loopg [7] kj4 (fun kq v7 w' => ∃ (x7_2 : Int), v7 = .int .i64 x7_2 ∧ Aside0 (januslaw06_ValidStays.l0 kq t358 t363 x7_2 = some r) ∧ Aside0 (kq ≤ kj4) ∧ Aside0 (Kd.R (Kd.int .i64) 3 w' w.heap.size (fun _ => True) v360 t358) ∧ Aside0 (Kd.R k36 36 w' w.heap.size (fun _ => True) v365 t363) ∧ Aside0 (Below w.heap.size w w'))
     case atStart => exact ⟨(0), (by first | rfl | (simp; done) | (simp [*]; done)), H', ⟨Nat.le_refl _⟩, ⟨by (with_reducible repeat (first | apply Kd.R_alloc | apply Kd.R_drewN | apply Kd.R_drew)); exact HO_3.out⟩, ⟨by (with_reducible repeat (first | apply Kd.R_alloc | apply Kd.R_drewN | apply Kd.R_drew)); exact HO_5.out⟩, ⟨by repeat (first | (with_reducible first | exact HB.out | apply below_alloc | apply pw_below_drewN | apply below_drew1) | exact HB.out)⟩⟩
     case round =>
      clear H'
      try clear c1
      try clear p2
      try clear c3
      try clear c3b0
      try clear c3b1
      try clear p3
      try clear q3
      try clear hx3
      try clear qi3
      try clear c8
      try clear c8b0
      try clear c8b1
      try clear c9
      try clear c9b0
      try clear c9b1
      try clear c9b2
      try clear c10
      try clear c10b0
      try clear c10b1
      try clear c10b2
      try clear c13
      try clear c13b0
      try clear c13b1
      try clear c18
      try clear hx367_0
      try clear p2
      try clear p3
      try clear p367
      try clear q3
      try clear q367
      obtain ⟨x7_2, rfl, HA, HK2, HO_3, HO_5, HB⟩ := hrel
      cases gk with
      | zero => exact absurd HA.out (by simp [januslaw06_ValidStays.l0])
      | succ k2 =>
       have H := HA.out
       clear HA
       simp only [januslaw06_ValidStays.l0] at H
       by_cases c19 : x7_2 < (t363.length : Int)
       ·rw [if_pos c19] at H
        have c19b0 : decide (x7_2 < (t363.length : Int)) = true := decide_eq_true c19
        clear c19
        by_cases c20 : 0 ≤ x7_2
        ·rw [if_pos c20] at H
         have c20b0 : decide (0 ≤ x7_2) = true := decide_eq_true c20
         clear c20
         by_cases c21 : x7_2 < (t358.length : Int)
         ·rw [if_pos c21] at H
          have c21b0 : decide (x7_2 < (t358.length : Int)) = true := decide_eq_true c21
          clear c21
          by_cases c22 : (rd t358 x7_2) < 0
          ·rw [if_pos c22] at H
           have c22b0 : decide ((rd t358 x7_2) < 0) = true := decide_eq_true c22
           clear c22
           have H' := Aside0.mk H
           clear H
           obtain ⟨Ao23, co23, eo23⟩ := Kd.R_slice HO_5.out
           subst eo23
           obtain ⟨Ao24, co24, eo24⟩ := Kd.R_slice HO_3.out
           subst eo24
           have p369 : 0 ≤ (x7_2 : Int) := of_decide_eq_true (by first | (with_reducible assumption) | assumption)
           have q369 : x7_2 < (t358.length : Int) := of_decide_eq_true (by first | (with_reducible assumption) | assumption)
           obtain ⟨ad369, e369, hx369_0⟩ := Kd.at_int (Kd.R_reads' HO_3.out).2.2 x7_2 p369 q369
           cases e369
           replace p369 := eq_true p369
           replace q369 := eq_true q369
           go_wp2
           repeat (go_quiet (fail); try go_wp2)
           go_roundg k2
           case measure => have := HJ4.out; have := HK2.out; omega
           case rel => exact ⟨(wrap64 (x7_2 + 1)), (by first | rfl | (simp; done) | (simp [*]; done)), H', ⟨by have := HJ4.out; have := HK2.out; omega⟩, ⟨by (with_reducible repeat (first | apply Kd.R_alloc | apply Kd.R_drewN | apply Kd.R_drew)); exact HO_3.out⟩, ⟨by (with_reducible repeat (first | apply Kd.R_alloc | apply Kd.R_drewN | apply Kd.R_drew)); exact HO_5.out⟩, ⟨by repeat (first | (with_reducible first | exact HB.out | apply below_alloc | apply pw_below_drewN | apply below_drew1) | exact HB.out)⟩⟩
          ·rw [if_neg c22] at H
           have c22b0 : decide ((rd t358 x7_2) < 0) = false := decide_eq_false c22
           clear c22
           replace H := Option.bind_eq_some_iff.mp H
           obtain ⟨⟨t371, t372⟩, A250, H⟩ := H
           replace H : (if t371 < 0 then (januslaw06_ValidStays.j2 k2 t358 t363 x7_2 (wrap64 ((wrap64 ((rd t358 x7_2) - t371)) + t372)) true) else (if (rd t358 x7_2) < t371 then (januslaw06_ValidStays.j2 k2 t358 t363 x7_2 (wrap64 ((wrap64 ((rd t358 x7_2) - t371)) + t372)) true) else (januslaw06_ValidStays.j2 k2 t358 t363 x7_2 (wrap64 ((wrap64 ((rd t358 x7_2) - t371)) + t372)) (decide ((wrap64 ((wrap64 ((rd t358 x7_2) - t371)) + t372)) > 32))))) = some r := H
           have A25 := Aside0.mk A250
           clear A250
           have HC26 := Aside0.mk H
           clear H
           obtain ⟨Ao27, co27, eo27⟩ := Kd.R_slice HO_5.out
           subst eo27
           obtain ⟨Ao28, co28, eo28⟩ := Kd.R_slice HO_3.out
           subst eo28
           have p369 : 0 ≤ (x7_2 : Int) := of_decide_eq_true (by first | (with_reducible assumption) | assumption)
           have q369 : x7_2 < (t358.length : Int) := of_decide_eq_true (by first | (with_reducible assumption) | assumption)
           obtain ⟨ad369, e369, hx369_0⟩ := Kd.at_int (Kd.R_reads' HO_3.out).2.2 x7_2 p369 q369
           cases e369
           replace p369 := eq_true p369
           replace q369 := eq_true q369
           have p370 : 0 ≤ (x7_2 : Int) := of_decide_eq_true (by first | (with_reducible assumption) | assumption)
           have q370 : x7_2 < (t363.length : Int) := of_decide_eq_true (by first | (with_reducible assumption) | assumption)
           obtain ⟨ad370, e370, hx370_0, hx370_1, hx370_2, hx370_3⟩ := at_T36 (Kd.R_reads' HO_5.out).2.2 x7_2 p370 q370
           cases e370
           replace p370 := eq_true p370
           replace q370 := eq_true q370
           go_upto_region 13 with (first | (go_at_call 24; (with_reducible refine (janusref05_Moves.calls k2 ((rd_T36 t363 x7_2).f0) ((rd_T36 t363 x7_2).f1) ((rd_T36 t363 x7_2).f2) ((rd_T36 t363 x7_2).f3) t371 t372 _ A25.out).mono ?_); rintro e w29 ⟨rfl, hb⟩; have n0_ := Aside0.mk (Kd.R_below (by (with_reducible repeat (first | apply Kd.R_alloc | apply Kd.R_drewN | apply Kd.R_drew)); exact HO_3.out) hb); have n1_ := Aside0.mk (Kd.R_below (by (with_reducible repeat (first | apply Kd.R_alloc | apply Kd.R_drewN | apply Kd.R_drew)); exact HO_5.out) hb); have n2_ := Aside0.mk (below_step (by repeat (first | (with_reducible first | exact HB.out | apply below_alloc | apply pw_below_drewN | apply below_drew1) | exact HB.out)) hb); clear HO_3; clear HO_5; clear HB; have HO_3 := n0_; have HO_5 := n1_; have HB := n2_; clear n0_ n1_ n2_; (try clear hb); (try clear hb2); (try clear hk); (try clear hi); have p373 : 0 ≤ (x7_2 : Int) := of_decide_eq_true (by first | (with_reducible assumption) | assumption); have q373 : x7_2 < (t358.length : Int) := of_decide_eq_true (by first | (with_reducible assumption) | assumption); obtain ⟨ad373, e373, hx373_0⟩ := Kd.at_int (Kd.R_reads' HO_3.out).2.2 x7_2 p373 q373; obtain rfl : ad369 = ad373 := (by injection e373); replace p373 := eq_true p373; replace q373 := eq_true q373))
           repeat (go_quiet (first | (go_at_call 24; (with_reducible refine (janusref05_Moves.calls k2 ((rd_T36 t363 x7_2).f0) ((rd_T36 t363 x7_2).f1) ((rd_T36 t363 x7_2).f2) ((rd_T36 t363 x7_2).f3) t371 t372 _ A25.out).mono ?_); rintro e w29 ⟨rfl, hb⟩; have n0_ := Aside0.mk (Kd.R_below (by (with_reducible repeat (first | apply Kd.R_alloc | apply Kd.R_drewN | apply Kd.R_drew)); exact HO_3.out) hb); have n1_ := Aside0.mk (Kd.R_below (by (with_reducible repeat (first | apply Kd.R_alloc | apply Kd.R_drewN | apply Kd.R_drew)); exact HO_5.out) hb); have n2_ := Aside0.mk (below_step (by repeat (first | (with_reducible first | exact HB.out | apply below_alloc | apply pw_below_drewN | apply below_drew1) | exact HB.out)) hb); clear HO_3; clear HO_5; clear HB; have HO_3 := n0_; have HO_5 := n1_; have HB := n2_; clear n0_ n1_ n2_; (try clear hb); (try clear hb2); (try clear hk); (try clear hi); have p373 : 0 ≤ (x7_2 : Int) := of_decide_eq_true (by first | (with_reducible assumption) | assumption); have q373 : x7_2 < (t358.length : Int) := of_decide_eq_true (by first | (with_reducible assumption) | assumption); obtain ⟨ad373, e373, hx373_0⟩ := Kd.at_int (Kd.R_reads' HO_3.out).2.2 x7_2 p373 q373; obtain rfl : ad369 = ad373 := (by injection e373); replace p373 := eq_true p373; replace q373 := eq_true q373)); go_upto_region 13 with (first | (go_at_call 24; (with_reducible refine (janusref05_Moves.calls k2 ((rd_T36 t363 x7_2).f0) ((rd_T36 t363 x7_2).f1) ((rd_T36 t363 x7_2).f2) ((rd_T36 t363 x7_2).f3) t371 t372 _ A25.out).mono ?_); rintro e w29 ⟨rfl, hb⟩; have n0_ := Aside0.mk (Kd.R_below (by (with_reducible repeat (first | apply Kd.R_alloc | apply Kd.R_drewN | apply Kd.R_drew)); exact HO_3.out) hb); have n1_ := Aside0.mk (Kd.R_below (by (with_reducible repeat (first | apply Kd.R_alloc | apply Kd.R_drewN | apply Kd.R_drew)); exact HO_5.out) hb); have n2_ := Aside0.mk (below_step (by repeat (first | (with_reducible first | exact HB.out | apply below_alloc | apply pw_below_drewN | apply below_drew1) | exact HB.out)) hb); clear HO_3; clear HO_5; clear HB; have HO_3 := n0_; have HO_5 := n1_; have HB := n2_; clear n0_ n1_ n2_; (try clear hb); (try clear hb2); (try clear hk); (try clear hi); have p373 : 0 ≤ (x7_2 : Int) := of_decide_eq_true (by first | (with_reducible assumption) | assumption); have q373 : x7_2 < (t358.length : Int) := of_decide_eq_true (by first | (with_reducible assumption) | assumption); obtain ⟨ad373, e373, hx373_0⟩ := Kd.at_int (Kd.R_reads' HO_3.out).2.2 x7_2 p373 q373; obtain rfl : ad369 = ad373 := (by injection e373); replace p373 := eq_true p373; replace q373 := eq_true q373)))
           (try simp only [Act.put, List.setIfInBounds_toArray, List.set_cons_zero, List.set_cons_succ])
           go_cut [91] (fun v91 wc => ∃ (kq : Nat) (x91_25 : Bool), v91 = .bool x91_25 ∧ Aside0 (januslaw06_ValidStays.j2 kq t358 t363 x7_2 (wrap64 ((wrap64 ((rd t358 x7_2) - t371)) + t372)) x91_25 = some r) ∧ Aside0 (kq ≤ k2) ∧ Aside0 (Kd.R (Kd.int .i64) 3 wc w.heap.size (fun _ => True) (.slice (some ad369) t358.length co28) t358) ∧ Aside0 (Kd.R k36 36 wc w.heap.size (fun _ => True) (.slice (some ad370) t363.length co27) t363) ∧ Aside0 (Below w.heap.size w wc))
           case first =>
            have H := HC26.out
            clear HC26
            by_cases c30 : t371 < 0
            ·rw [if_pos c30] at H
             have c30b0 : decide (t371 < 0) = true := decide_eq_true c30
             clear c30
             (first | rw [c30b0] | (simp only [i64_w, i32_w]; rw [c30b0]) | skip)
             have H' := Aside0.mk H
             clear H
             go_wp2
             repeat (go_quiet (fail); try go_wp2)
             go_meet
             case rel => exact ⟨_, (true), (by first | rfl | (simp; done) | (simp [*]; done)), H', ⟨by have := HJ4.out; have := HK2.out; first | omega | exact Nat.le_refl _⟩, ⟨by (with_reducible repeat (first | apply Kd.R_alloc | apply Kd.R_drewN | apply Kd.R_drew)); exact HO_3.out⟩, ⟨by (with_reducible repeat (first | apply Kd.R_alloc | apply Kd.R_drewN | apply Kd.R_drew)); exact HO_5.out⟩, ⟨by repeat (first | (with_reducible first | exact HB.out | apply below_alloc | apply pw_below_drewN | apply below_drew1) | exact HB.out)⟩⟩
            ·rw [if_neg c30] at H
             have c30b0 : decide (t371 < 0) = false := decide_eq_false c30
             clear c30
             (first | rw [c30b0] | (simp only [i64_w, i32_w]; rw [c30b0]) | skip)
             by_cases c31 : (rd t358 x7_2) < t371
             ·rw [if_pos c31] at H
              have c31b0 : decide ((rd t358 x7_2) < t371) = true := decide_eq_true c31
              clear c31
              have H' := Aside0.mk H
              clear H
              have p374 : 0 ≤ (x7_2 : Int) := of_decide_eq_true (by first | (with_reducible assumption) | assumption)
              have q374 : x7_2 < (t358.length : Int) := of_decide_eq_true (by first | (with_reducible assumption) | assumption)
              obtain ⟨ad374, e374, hx374_0⟩ := Kd.at_int (Kd.R_reads' HO_3.out).2.2 x7_2 p374 q374
              obtain rfl : ad369 = ad374 := (by injection e374)
              replace p374 := eq_true p374
              replace q374 := eq_true q374
              go_wp2
              repeat (go_quiet (fail); try go_wp2)
              go_meet
              case rel => exact ⟨_, (true), (by first | rfl | (simp; done) | (simp [*]; done)), H', ⟨by have := HJ4.out; have := HK2.out; first | omega | exact Nat.le_refl _⟩, ⟨by (with_reducible repeat (first | apply Kd.R_alloc | apply Kd.R_drewN | apply Kd.R_drew)); exact HO_3.out⟩, ⟨by (with_reducible repeat (first | apply Kd.R_alloc | apply Kd.R_drewN | apply Kd.R_drew)); exact HO_5.out⟩, ⟨by repeat (first | (with_reducible first | exact HB.out | apply below_alloc | apply pw_below_drewN | apply below_drew1) | exact HB.out)⟩⟩
             ·rw [if_neg c31] at H
              have c31b0 : decide ((rd t358 x7_2) < t371) = false := decide_eq_false c31
              clear c31
              have H' := Aside0.mk H
              clear H
              have p374 : 0 ≤ (x7_2 : Int) := of_decide_eq_true (by first | (with_reducible assumption) | assumption)
              have q374 : x7_2 < (t358.length : Int) := of_decide_eq_true (by first | (with_reducible assumption) | assumption)
              obtain ⟨ad374, e374, hx374_0⟩ := Kd.at_int (Kd.R_reads' HO_3.out).2.2 x7_2 p374 q374
              obtain rfl : ad369 = ad374 := (by injection e374)
              replace p374 := eq_true p374
              replace q374 := eq_true q374
              go_wp2
              repeat (go_quiet (fail); try go_wp2)
              go_meet
              case rel => exact ⟨_, (decide ((wrap64 ((wrap64 ((rd t358 x7_2) - t371)) + t372)) > 32)), (by first | rfl | (simp; done) | (simp [*]; done)), H', ⟨by have := HJ4.out; have := HK2.out; first | omega | exact Nat.le_refl _⟩, ⟨by (with_reducible repeat (first | apply Kd.R_alloc | apply Kd.R_drewN | apply Kd.R_drew)); exact HO_3.out⟩, ⟨by (with_reducible repeat (first | apply Kd.R_alloc | apply Kd.R_drewN | apply Kd.R_drew)); exact HO_5.out⟩, ⟨by repeat (first | (with_reducible first | exact HB.out | apply below_alloc | apply pw_below_drewN | apply below_drew1) | exact HB.out)⟩⟩
           case rest =>
            clear HC26
            try clear c1
            try clear c2
            try clear p2
            try clear c3
            try clear c3b0
            try clear c3b1
            try clear p3
            try clear q3
            try clear hx3
            try clear qi3
            try clear p6
            try clear c8
            try clear c8b0
            try clear c8b1
            try clear c9
            try clear c9b0
            try clear c9b1
            try clear c9b2
            try clear c10
            try clear c10b0
            try clear c10b1
            try clear c10b2
            try clear c13
            try clear c13b0
            try clear c13b1
            try clear c18
            try clear c19
            try clear c19b0
            try clear c20
            try clear c20b0
            try clear c21
            try clear c21b0
            try clear c22
            try clear c22b0
            try clear c30
            try clear c30b0
            try clear c31
            try clear c31b0
            try clear hx367_0
            try clear hx369_0
            try clear hx370_0
            try clear hx370_1
            try clear hx370_2
            try clear hx370_3
            try clear hx373_0
            try clear hx374_0
            try clear p2
            try clear p3
            try clear p367
            try clear p369
            try clear p370
            try clear p373
            try clear p374
            try clear q3
            try clear q367
            try clear q369
            try clear q370
            try clear q373
            try clear q374
            obtain ⟨kq, x91_25, rfl, HA, HJ25, HO_3, HO_5, HB⟩ := hcut
            cases kq with
            | zero => exact absurd HA.out (by simp [januslaw06_ValidStays.j2])
            | succ kj25 =>
             have H := HA.out
             clear HA
             simp only [januslaw06_ValidStays.j2] at H
             by_cases c32 : x91_25 = true
             ·subst c32
              have H1 : (none) = some r := by rw [if_pos rfl] at H; exact H
              clear H
              have H := H1
              clear H1
              exact absurd H (by simp)
             ·replace c32 := Bool.eq_false_iff.mpr c32
              subst c32
              have H1 : (if 0 ≤ x7_2 then (if x7_2 < (t363.length : Int) then (if ((rd_T36 t363 x7_2).f0) = 21 then (januslaw06_ValidStays.j3 kj25 t358 t363 x7_2 (wrap64 ((wrap64 ((rd t358 x7_2) - t371)) + t372)) false) else (if (wrap64 (x7_2 + 1)) = (t363.length : Int) then (januslaw06_ValidStays.j3 kj25 t358 t363 x7_2 (wrap64 ((wrap64 ((rd t358 x7_2) - t371)) + t372)) true) else (if 0 ≤ (wrap64 (x7_2 + 1)) then (if (wrap64 (x7_2 + 1)) < (t358.length : Int) then (januslaw06_ValidStays.j3 kj25 t358 t363 x7_2 (wrap64 ((wrap64 ((rd t358 x7_2) - t371)) + t372)) ((rd t358 (wrap64 (x7_2 + 1))) != (wrap64 ((wrap64 ((rd t358 x7_2) - t371)) + t372)))) else (none)) else (none)))) else (none)) else (none)) = some r := by rw [if_neg (show ¬ (false = true) by decide)] at H; exact H
              clear H
              have H := H1
              clear H1
              have HC33 := Aside0.mk H
              clear H
              go_upto_region 15 with (fail)
              repeat (go_quiet (fail); go_upto_region 15 with (fail))
              go_cut [113] (fun v113 wc => ∃ (kq : Nat) (x113_32 : Bool), v113 = .bool x113_32 ∧ Aside0 (januslaw06_ValidStays.j3 kq t358 t363 x7_2 (wrap64 ((wrap64 ((rd t358 x7_2) - t371)) + t372)) x113_32 = some r) ∧ Aside0 (kq ≤ kj25) ∧ Aside0 (Kd.R (Kd.int .i64) 3 wc w.heap.size (fun _ => True) (.slice (some ad369) t358.length co28) t358) ∧ Aside0 (Kd.R k36 36 wc w.heap.size (fun _ => True) (.slice (some ad370) t363.length co27) t363) ∧ Aside0 (Below w.heap.size w wc))
              case first =>
               have H := HC33.out
               clear HC33
               by_cases c34 : 0 ≤ x7_2
               ·rw [if_pos c34] at H
                have c34b0 : decide (0 ≤ x7_2) = true := decide_eq_true c34
                clear c34
                (first | rw [c34b0] | (simp only [i64_w, i32_w]; rw [c34b0]) | skip)
                by_cases c35 : x7_2 < (t363.length : Int)
                ·rw [if_pos c35] at H
                 have c35b0 : decide (x7_2 < (t363.length : Int)) = true := decide_eq_true c35
                 clear c35
                 by_cases c36 : ((rd_T36 t363 x7_2).f0) = 21
                 ·rw [if_pos c36] at H
                  have c36b0 : (((rd_T36 t363 x7_2).f0) == 21) = true := beq_iff_eq.mpr c36
                  have c36b1 : (((rd_T36 t363 x7_2).f0) != 21) = false := bne_eq_false_iff_eq.mpr c36
                  clear c36
                  have H' := Aside0.mk H
                  clear H
                  have p375 : 0 ≤ (x7_2 : Int) := of_decide_eq_true (by first | (with_reducible assumption) | assumption)
                  have q375 : x7_2 < (t363.length : Int) := of_decide_eq_true (by first | (with_reducible assumption) | assumption)
                  obtain ⟨ad375, e375, hx375_0, hx375_1, hx375_2, hx375_3⟩ := at_T36 (Kd.R_reads' HO_5.out).2.2 x7_2 p375 q375
                  obtain rfl : ad370 = ad375 := (by injection e375)
                  replace p375 := eq_true p375
                  replace q375 := eq_true q375
                  go_wp2
                  repeat (go_quiet (fail); try go_wp2)
                  go_meet
                  case rel => exact ⟨_, (false), (by first | rfl | (simp; done) | (simp [*]; done)), H', ⟨by have := HJ4.out; have := HK2.out; have := HJ25.out; first | omega | exact Nat.le_refl _⟩, ⟨by (with_reducible repeat (first | apply Kd.R_alloc | apply Kd.R_drewN | apply Kd.R_drew)); exact HO_3.out⟩, ⟨by (with_reducible repeat (first | apply Kd.R_alloc | apply Kd.R_drewN | apply Kd.R_drew)); exact HO_5.out⟩, ⟨by repeat (first | (with_reducible first | exact HB.out | apply below_alloc | apply pw_below_drewN | apply below_drew1) | exact HB.out)⟩⟩
                 ·rw [if_neg c36] at H
                  have c36b0 : (((rd_T36 t363 x7_2).f0) == 21) = false := beq_eq_false_iff_ne.mpr c36
                  have c36b1 : (((rd_T36 t363 x7_2).f0) != 21) = true := bne_iff_ne.mpr c36
                  by_cases c37 : (wrap64 (x7_2 + 1)) = (t363.length : Int)
                  ·rw [if_pos c37] at H
                   have c37b0 : ((wrap64 (x7_2 + 1)) == (t363.length : Int)) = true := beq_iff_eq.mpr c37
                   have c37b1 : ((wrap64 (x7_2 + 1)) != (t363.length : Int)) = false := bne_eq_false_iff_eq.mpr c37
                   clear c37
                   have H' := Aside0.mk H
                   clear H
                   have p375 : 0 ≤ (x7_2 : Int) := of_decide_eq_true (by first | (with_reducible assumption) | assumption)
                   have q375 : x7_2 < (t363.length : Int) := of_decide_eq_true (by first | (with_reducible assumption) | assumption)
                   obtain ⟨ad375, e375, hx375_0, hx375_1, hx375_2, hx375_3⟩ := at_T36 (Kd.R_reads' HO_5.out).2.2 x7_2 p375 q375
                   obtain rfl : ad370 = ad375 := (by injection e375)
                   replace p375 := eq_true p375
                   replace q375 := eq_true q375
                   go_wp2
                   repeat (go_quiet (fail); try go_wp2)
                   go_meet
                   case rel => exact ⟨_, (true), (by first | rfl | (simp; done) | (simp [*]; done)), H', ⟨by have := HJ4.out; have := HK2.out; have := HJ25.out; first | omega | exact Nat.le_refl _⟩, ⟨by (with_reducible repeat (first | apply Kd.R_alloc | apply Kd.R_drewN | apply Kd.R_drew)); exact HO_3.out⟩, ⟨by (with_reducible repeat (first | apply Kd.R_alloc | apply Kd.R_drewN | apply Kd.R_drew)); exact HO_5.out⟩, ⟨by repeat (first | (with_reducible first | exact HB.out | apply below_alloc | apply pw_below_drewN | apply below_drew1) | exact HB.out)⟩⟩
                  ·rw [if_neg c37] at H
                   have c37b0 : ((wrap64 (x7_2 + 1)) == (t363.length : Int)) = false := beq_eq_false_iff_ne.mpr c37
                   have c37b1 : ((wrap64 (x7_2 + 1)) != (t363.length : Int)) = true := bne_iff_ne.mpr c37
                   obtain ⟨ji38, hji38⟩ : ∃ j_ : Int, (wrap64 (x7_2 + 1)) = j_ := ⟨_, rfl⟩
                   replace H : (if 0 ≤ (ji38) then (if (ji38) < (t358.length : Int) then (januslaw06_ValidStays.j3 kj25 t358 t363 x7_2 (wrap64 ((wrap64 ((rd t358 x7_2) - t371)) + t372)) ((rd t358 (ji38)) != (wrap64 ((wrap64 ((rd t358 x7_2) - t371)) + t372)))) else (none)) else (none)) = some r := by first | (rw [hji38] at H; exact H) | (simp only [hji38] at H ⊢; exact H)
                   (try rw [hji38] at c37b0)
                   (try rw [hji38] at c37b1)
                   have hji38w : (IntKind.i64.wrap (x7_2 + 1)) = ji38 := (i64_w _).trans hji38
                   by_cases c39 : 0 ≤ (ji38)
                   ·rw [if_pos c39] at H
                    have c39b0 : decide (0 ≤ (ji38)) = true := decide_eq_true c39
                    clear c39
                    by_cases c40 : (ji38) < (t358.length : Int)
                    ·rw [if_pos c40] at H
                     have c40b0 : decide ((ji38) < (t358.length : Int)) = true := decide_eq_true c40
                     clear c40
                     have H' := Aside0.mk H
                     clear H
                     have p375 : 0 ≤ (x7_2 : Int) := of_decide_eq_true (by first | (with_reducible assumption) | assumption)
                     have q375 : x7_2 < (t363.length : Int) := of_decide_eq_true (by first | (with_reducible assumption) | assumption)
                     obtain ⟨ad375, e375, hx375_0, hx375_1, hx375_2, hx375_3⟩ := at_T36 (Kd.R_reads' HO_5.out).2.2 x7_2 p375 q375
                     obtain rfl : ad370 = ad375 := (by injection e375)
                     replace p375 := eq_true p375
                     replace q375 := eq_true q375
                     have p376 : 0 ≤ ((ji38) : Int) := of_decide_eq_true (by first | (with_reducible assumption) | assumption)
                     have q376 : (ji38) < (t358.length : Int) := of_decide_eq_true (by first | (with_reducible assumption) | assumption)
                     obtain ⟨ad376, e376, hx376_0⟩ := Kd.at_int (Kd.R_reads' HO_3.out).2.2 (ji38) p376 q376
                     obtain rfl : ad369 = ad376 := (by injection e376)
                     replace p376 := eq_true p376
                     replace q376 := eq_true q376
                     go_wp2
                     repeat (go_quiet (fail); try go_wp2)
                     go_meet
                     case rel => exact ⟨_, (((rd t358 (ji38)) != (wrap64 ((wrap64 ((rd t358 x7_2) - t371)) + t372)))), (by first | rfl | (simp; done) | (simp only [← hji38] <;> (first | rfl | simp)) | (simp [*]; done)), H', ⟨by have := HJ4.out; have := HK2.out; have := HJ25.out; first | omega | exact Nat.le_refl _⟩, ⟨by (with_reducible repeat (first | apply Kd.R_alloc | apply Kd.R_drewN | apply Kd.R_drew)); exact HO_3.out⟩, ⟨by (with_reducible repeat (first | apply Kd.R_alloc | apply Kd.R_drewN | apply Kd.R_drew)); exact HO_5.out⟩, ⟨by repeat (first | (with_reducible first | exact HB.out | apply below_alloc | apply pw_below_drewN | apply below_drew1) | exact HB.out)⟩⟩
                    ·rw [if_neg c40] at H
                     exact absurd H (by simp)
                   ·rw [if_neg c39] at H
                    exact absurd H (by simp)
                ·rw [if_neg c35] at H
                 exact absurd H (by simp)
               ·rw [if_neg c34] at H
                exact absurd H (by simp)
              case rest =>
               clear HC33
               try clear c1
               try clear c2
               try clear p2
               try clear c3
               try clear c3b0
               try clear c3b1
               try clear p3
               try clear q3
               try clear hx3
               try clear qi3
               try clear c4
               try clear p6
               try clear c8
               try clear c8b0
               try clear c8b1
               try clear c9
               try clear c9b0
               try clear c9b1
               try clear c9b2
               try clear c10
               try clear c10b0
               try clear c10b1
               try clear c10b2
               try clear c13
               try clear c13b0
               try clear c13b1
               try clear c18
               try clear c19
               try clear c19b0
               try clear c20
               try clear c20b0
               try clear c21
               try clear c21b0
               try clear c22
               try clear c22b0
               try clear c30
               try clear c30b0
               try clear c31
               try clear c31b0
               try clear c32
               try clear c34
               try clear c34b0
               try clear c35
               try clear c35b0
               try clear c36
               try clear c36b0
               try clear c36b1
               try clear p36
               try clear q36
               try clear hx36
               try clear qi36
               try clear c37
               try clear c37b0
               try clear c37b1
               try clear p37
               try clear q37
               try clear hx37
               try clear c39
               try clear c39b0
               try clear c40
               try clear c40b0
               try clear hx367_0
               try clear hx369_0
               try clear hx370_0
               try clear hx370_1
               try clear hx370_2
               try clear hx370_3
               try clear hx373_0
               try clear hx374_0
               try clear hx375_0
               try clear hx375_1
               try clear hx375_2
               try clear hx375_3
               try clear hx376_0
               try clear p2
               try clear p3
               try clear p367
               try clear p369
               try clear p370
               try clear p373
               try clear p374
               try clear p375
               try clear p376
               try clear p6
               try clear q3
               try clear q367
               try clear q369
               try clear q370
               try clear q373
               try clear q374
               try clear q375
               try clear q376
               obtain ⟨kq, x113_32, rfl, HA, HJ32, HO_3, HO_5, HB⟩ := hcut
               cases kq with
               | zero => exact absurd HA.out (by simp [januslaw06_ValidStays.j3])
               | succ kj32 =>
                have H := HA.out
                clear HA
                simp only [januslaw06_ValidStays.j3] at H
                by_cases c41 : x113_32 = true
                ·subst c41
                 have H1 : (none) = some r := by rw [if_pos rfl] at H; exact H
                 clear H
                 have H := H1
                 clear H1
                 exact absurd H (by simp)
                ·replace c41 := Bool.eq_false_iff.mpr c41
                 subst c41
                 have H1 : (if 0 ≤ x7_2 then (if x7_2 < (t363.length : Int) then (if ((rd_T36 t363 x7_2).f0) = 21 then (januslaw06_ValidStays.j4 kj32 t358 t363 x7_2 (wrap64 ((wrap64 ((rd t358 x7_2) - t371)) + t372)) true) else (januslaw06_ValidStays.j4 kj32 t358 t363 x7_2 (wrap64 ((wrap64 ((rd t358 x7_2) - t371)) + t372)) (((rd_T36 t363 x7_2).f0) == 22))) else (none)) else (none)) = some r := by rw [if_neg (show ¬ (false = true) by decide)] at H; exact H
                 clear H
                 have H := H1
                 clear H1
                 have HC42 := Aside0.mk H
                 clear H
                 go_upto_region 17 with (fail)
                 repeat (go_quiet (fail); go_upto_region 17 with (fail))
                 go_cut [127] (fun v127 wc => ∃ (kq : Nat) (x127_41 : Bool), v127 = .bool x127_41 ∧ Aside0 (januslaw06_ValidStays.j4 kq t358 t363 x7_2 (wrap64 ((wrap64 ((rd t358 x7_2) - t371)) + t372)) x127_41 = some r) ∧ Aside0 (kq ≤ kj32) ∧ Aside0 (Kd.R (Kd.int .i64) 3 wc w.heap.size (fun _ => True) (.slice (some ad369) t358.length co28) t358) ∧ Aside0 (Kd.R k36 36 wc w.heap.size (fun _ => True) (.slice (some ad370) t363.length co27) t363) ∧ Aside0 (Below w.heap.size w wc))
                 case first =>
                  have H := HC42.out
                  clear HC42
                  by_cases c43 : 0 ≤ x7_2
                  ·rw [if_pos c43] at H
                   have c43b0 : decide (0 ≤ x7_2) = true := decide_eq_true c43
                   clear c43
                   (first | rw [c43b0] | (simp only [i64_w, i32_w]; rw [c43b0]) | skip)
                   by_cases c44 : x7_2 < (t363.length : Int)
                   ·rw [if_pos c44] at H
                    have c44b0 : decide (x7_2 < (t363.length : Int)) = true := decide_eq_true c44
                    clear c44
                    by_cases c45 : ((rd_T36 t363 x7_2).f0) = 21
                    ·rw [if_pos c45] at H
                     have c45b0 : (((rd_T36 t363 x7_2).f0) == 21) = true := beq_iff_eq.mpr c45
                     have c45b1 : (((rd_T36 t363 x7_2).f0) != 21) = false := bne_eq_false_iff_eq.mpr c45
                     clear c45
                     have H' := Aside0.mk H
                     clear H
                     have p377 : 0 ≤ (x7_2 : Int) := of_decide_eq_true (by first | (with_reducible assumption) | assumption)
                     have q377 : x7_2 < (t363.length : Int) := of_decide_eq_true (by first | (with_reducible assumption) | assumption)
                     obtain ⟨ad377, e377, hx377_0, hx377_1, hx377_2, hx377_3⟩ := at_T36 (Kd.R_reads' HO_5.out).2.2 x7_2 p377 q377
                     obtain rfl : ad370 = ad377 := (by injection e377)
                     replace p377 := eq_true p377
                     replace q377 := eq_true q377
                     go_wp2
                     repeat (go_quiet (fail); try go_wp2)
                     go_meet
                     case rel => exact ⟨_, (true), (by first | rfl | (simp; done) | (simp [*]; done)), H', ⟨by have := HJ4.out; have := HK2.out; have := HJ25.out; have := HJ32.out; first | omega | exact Nat.le_refl _⟩, ⟨by (with_reducible repeat (first | apply Kd.R_alloc | apply Kd.R_drewN | apply Kd.R_drew)); exact HO_3.out⟩, ⟨by (with_reducible repeat (first | apply Kd.R_alloc | apply Kd.R_drewN | apply Kd.R_drew)); exact HO_5.out⟩, ⟨by repeat (first | (with_reducible first | exact HB.out | apply below_alloc | apply pw_below_drewN | apply below_drew1) | exact HB.out)⟩⟩
                    ·rw [if_neg c45] at H
                     have c45b0 : (((rd_T36 t363 x7_2).f0) == 21) = false := beq_eq_false_iff_ne.mpr c45
                     have c45b1 : (((rd_T36 t363 x7_2).f0) != 21) = true := bne_iff_ne.mpr c45
                     have H' := Aside0.mk H
                     clear H
                     have p377 : 0 ≤ (x7_2 : Int) := of_decide_eq_true (by first | (with_reducible assumption) | assumption)
                     have q377 : x7_2 < (t363.length : Int) := of_decide_eq_true (by first | (with_reducible assumption) | assumption)
                     obtain ⟨ad377, e377, hx377_0, hx377_1, hx377_2, hx377_3⟩ := at_T36 (Kd.R_reads' HO_5.out).2.2 x7_2 p377 q377
                     obtain rfl : ad370 = ad377 := (by injection e377)
                     replace p377 := eq_true p377
                     replace q377 := eq_true q377
                     have p378 : 0 ≤ (x7_2 : Int) := of_decide_eq_true (by first | (with_reducible assumption) | assumption)
                     have q378 : x7_2 < (t363.length : Int) := of_decide_eq_true (by first | (with_reducible assumption) | assumption)
                     obtain ⟨ad378, e378, hx378_0, hx378_1, hx378_2, hx378_3⟩ := at_T36 (Kd.R_reads' HO_5.out).2.2 x7_2 p378 q378
                     obtain rfl : ad370 = ad378 := (by injection e378)
                     replace p378 := eq_true p378
                     replace q378 := eq_true q378
                     go_wp2
                     repeat (go_quiet (fail); try go_wp2)
                     go_meet
                     case rel => exact ⟨_, ((((rd_T36 t363 x7_2).f0) == 22)), (by first | rfl | (simp; done) | (simp [*]; done)), H', ⟨by have := HJ4.out; have := HK2.out; have := HJ25.out; have := HJ32.out; first | omega | exact Nat.le_refl _⟩, ⟨by (with_reducible repeat (first | apply Kd.R_alloc | apply Kd.R_drewN | apply Kd.R_drew)); exact HO_3.out⟩, ⟨by (with_reducible repeat (first | apply Kd.R_alloc | apply Kd.R_drewN | apply Kd.R_drew)); exact HO_5.out⟩, ⟨by repeat (first | (with_reducible first | exact HB.out | apply below_alloc | apply pw_below_drewN | apply below_drew1) | exact HB.out)⟩⟩
                   ·rw [if_neg c44] at H
                    exact absurd H (by simp)
                  ·rw [if_neg c43] at H
                   exact absurd H (by simp)
                 case rest =>
                  clear HC42
                  try clear c1
                  try clear c2
                  try clear p2
                  try clear c3
                  try clear c3b0
                  try clear c3b1
                  try clear p3
                  try clear q3
                  try clear hx3
                  try clear qi3
                  try clear c4
                  try clear p6
                  try clear c8
                  try clear c8b0
                  try clear c8b1
                  try clear c9
                  try clear c9b0
                  try clear c9b1
                  try clear c9b2
                  try clear c10
                  try clear c10b0
                  try clear c10b1
                  try clear c10b2
                  try clear c13
                  try clear c13b0
                  try clear c13b1
                  try clear c18
                  try clear c19
                  try clear c19b0
                  try clear c20
                  try clear c20b0
                  try clear c21
                  try clear c21b0
                  try clear c22
                  try clear c22b0
                  try clear c30
                  try clear c30b0
                  try clear c31
                  try clear c31b0
                  try clear c32
                  try clear c34
                  try clear c34b0
                  try clear c35
                  try clear c35b0
                  try clear c36
                  try clear c36b0
                  try clear c36b1
                  try clear p36
                  try clear q36
                  try clear hx36
                  try clear qi36
                  try clear c37
                  try clear c37b0
                  try clear c37b1
                  try clear p37
                  try clear q37
                  try clear hx37
                  try clear c39
                  try clear c39b0
                  try clear c40
                  try clear c40b0
                  try clear c41
                  try clear c43
                  try clear c43b0
                  try clear c44
                  try clear c44b0
                  try clear c45
                  try clear c45b0
                  try clear c45b1
                  try clear hx367_0
                  try clear hx369_0
                  try clear hx370_0
                  try clear hx370_1
                  try clear hx370_2
                  try clear hx370_3
                  try clear hx373_0
                  try clear hx374_0
                  try clear hx375_0
                  try clear hx375_1
                  try clear hx375_2
                  try clear hx375_3
                  try clear hx376_0
                  try clear hx377_0
                  try clear hx377_1
                  try clear hx377_2
                  try clear hx377_3
                  try clear hx378_0
                  try clear hx378_1
                  try clear hx378_2
                  try clear hx378_3
                  try clear p2
                  try clear p3
                  try clear p36
                  try clear p367
                  try clear p369
                  try clear p37
                  try clear p370
                  try clear p373
                  try clear p374
                  try clear p375
                  try clear p376
                  try clear p377
                  try clear p378
                  try clear p6
                  try clear q3
                  try clear q36
                  try clear q367
                  try clear q369
                  try clear q37
                  try clear q370
                  try clear q373
                  try clear q374
                  try clear q375
                  try clear q376
                  try clear q377
                  try clear q378
                  obtain ⟨kq, x127_41, rfl, HA, HJ41, HO_3, HO_5, HB⟩ := hcut
                  cases kq with
                  | zero => exact absurd HA.out (by simp [januslaw06_ValidStays.j4])
                  | succ kj41 =>
                   have H := HA.out
                   clear HA
                   simp only [januslaw06_ValidStays.j4] at H
                   by_cases c46 : x127_41 = true
                   ·subst c46
                    have H1 : (januslaw06_ValidStays.l1 kj41 t358 t363 x7_2 (wrap64 ((wrap64 ((rd t358 x7_2) - t371)) + t372)) false 0) = some r := by rw [if_pos rfl] at H; exact H
                    clear H
                    have H := H1
                    clear H1
                    have H' := Aside0.mk H
                    clear H
                    go_wp2
                    repeat (go_quiet (fail); try go_wp2)
                    go_loopg [11, 12] kj41 (fun kq v11 v12 w' => ∃ (x11_6 : Bool) (x12_6 : Int), v11 = .bool x11_6 ∧ v12 = .int .i64 x12_6 ∧ Aside0 (januslaw06_ValidStays.l1 kq t358 t363 x7_2 (wrap64 ((wrap64 ((rd t358 x7_2) - t371)) + t372)) x11_6 x12_6 = some r) ∧ Aside0 (kq ≤ kj41) ∧ Aside0 (Kd.R (Kd.int .i64) 3 w' w.heap.size (fun _ => True) (.slice (some ad369) t358.length co28) t358) ∧ Aside0 (Kd.R k36 36 w' w.heap.size (fun _ => True) (.slice (some ad370) t363.length co27) t363) ∧ Aside0 (Below w.heap.size w w'))
                    case atStart => exact ⟨(false), (0), (by first | rfl | (simp; done) | (simp [*]; done)), (by first | rfl | (simp; done) | (simp [*]; done)), H', ⟨Nat.le_refl _⟩, ⟨by (with_reducible repeat (first | apply Kd.R_alloc | apply Kd.R_drewN | apply Kd.R_drew)); exact HO_3.out⟩, ⟨by (with_reducible repeat (first | apply Kd.R_alloc | apply Kd.R_drewN | apply Kd.R_drew)); exact HO_5.out⟩, ⟨by repeat (first | (with_reducible first | exact HB.out | apply below_alloc | apply pw_below_drewN | apply below_drew1) | exact HB.out)⟩⟩
                    case round =>
                     clear H'
                     try clear c1
                     try clear c2
                     try clear p2
                     try clear c3
                     try clear c3b0
                     try clear c3b1
                     try clear p3
                     try clear q3
                     try clear hx3
                     try clear qi3
                     try clear c4
                     try clear p6
                     try clear c8
                     try clear c8b0
                     try clear c8b1
                     try clear c9
                     try clear c9b0
                     try clear c9b1
                     try clear c9b2
                     try clear c10
                     try clear c10b0
                     try clear c10b1
                     try clear c10b2
                     try clear c13
                     try clear c13b0
                     try clear c13b1
                     try clear c18
                     try clear c19
                     try clear c19b0
                     try clear c20
                     try clear c20b0
                     try clear c21
                     try clear c21b0
                     try clear c22
                     try clear c22b0
                     try clear c30
                     try clear c30b0
                     try clear c31
                     try clear c31b0
                     try clear c32
                     try clear c34
                     try clear c34b0
                     try clear c35
                     try clear c35b0
                     try clear c36
                     try clear c36b0
                     try clear c36b1
                     try clear p36
                     try clear q36
                     try clear hx36
                     try clear qi36
                     try clear c37
                     try clear c37b0
                     try clear c37b1
                     try clear p37
                     try clear q37
                     try clear hx37
                     try clear c39
                     try clear c39b0
                     try clear c40
                     try clear c40b0
                     try clear c41
                     try clear c43
                     try clear c43b0
                     try clear c44
                     try clear c44b0
                     try clear c45
                     try clear c45b0
                     try clear c45b1
                     try clear c46
                     try clear hx367_0
                     try clear hx369_0
                     try clear hx370_0
                     try clear hx370_1
                     try clear hx370_2
                     try clear hx370_3
                     try clear hx373_0
                     try clear hx374_0
                     try clear hx375_0
                     try clear hx375_1
                     try clear hx375_2
                     try clear hx375_3
                     try clear hx376_0
                     try clear hx377_0
                     try clear hx377_1
                     try clear hx377_2
                     try clear hx377_3
                     try clear hx378_0
                     try clear hx378_1
                     try clear hx378_2
                     try clear hx378_3
                     try clear p2
                     try clear p3
                     try clear p36
                     try clear p367
                     try clear p369
                     try clear p37
                     try clear p370
                     try clear p373
                     try clear p374
                     try clear p375
                     try clear p376
                     try clear p377
                     try clear p378
                     try clear p6
                     try clear q3
                     try clear q36
                     try clear q367
                     try clear q369
                     try clear q37
                     try clear q370
                     try clear q373
                     try clear q374
                     try clear q375
                     try clear q376
                     try clear q377
                     try clear q378
                     obtain ⟨x11_6, x12_6, rfl, rfl, HA, HK6, HO_3, HO_5, HB⟩ := hrel
                     cases gk with
                     | zero => exact absurd HA.out (by simp [januslaw06_ValidStays.l1])
                     | succ k6 =>
                      have H := HA.out
                      clear HA
                      simp only [januslaw06_ValidStays.l1] at H
                      by_cases c47 : x12_6 < (t363.length : Int)
                      ·rw [if_pos c47] at H
                       have c47b0 : decide (x12_6 < (t363.length : Int)) = true := decide_eq_true c47
                       clear c47
                       by_cases c48 : x11_6 = true
                       ·subst c48
                        have H1 : (januslaw06_ValidStays.l1 k6 t358 t363 x7_2 (wrap64 ((wrap64 ((rd t358 x7_2) - t371)) + t372)) true (wrap64 (x12_6 + 1))) = some r := by rw [if_pos rfl] at H; exact H
                        clear H
                        have H := H1
                        clear H1
                        have H' := Aside0.mk H
                        clear H
                        go_wp2
                        repeat (go_quiet (fail); try go_wp2)
                        go_roundg k6
                        case measure => have := HJ4.out; have := HK2.out; have := HJ25.out; have := HJ32.out; have := HJ41.out; have := HK6.out; omega
                        case rel => exact ⟨(true), (wrap64 (x12_6 + 1)), (by first | rfl | (simp; done) | (simp [*]; done)), (by first | rfl | (simp; done) | (simp [*]; done)), H', ⟨by have := HJ4.out; have := HK2.out; have := HJ25.out; have := HJ32.out; have := HJ41.out; have := HK6.out; omega⟩, ⟨by (with_reducible repeat (first | apply Kd.R_alloc | apply Kd.R_drewN | apply Kd.R_drew)); exact HO_3.out⟩, ⟨by (with_reducible repeat (first | apply Kd.R_alloc | apply Kd.R_drewN | apply Kd.R_drew)); exact HO_5.out⟩, ⟨by repeat (first | (with_reducible first | exact HB.out | apply below_alloc | apply pw_below_drewN | apply below_drew1) | exact HB.out)⟩⟩
                       ·replace c48 := Bool.eq_false_iff.mpr c48
                        subst c48
                        have H1 : (if 0 ≤ x12_6 then (if 0 ≤ x7_2 then (if x7_2 < (t363.length : Int) then (if (IntKind.u64.wrap ((rd_T36 t363 x12_6).f2)) = ((rd_T36 t363 x7_2).f1) then (if x12_6 < (t358.length : Int) then (januslaw06_ValidStays.l1 k6 t358 t363 x7_2 (wrap64 ((wrap64 ((rd t358 x7_2) - t371)) + t372)) ((rd t358 x12_6) == (wrap64 ((wrap64 ((rd t358 x7_2) - t371)) + t372))) (wrap64 (x12_6 + 1))) else (none)) else (januslaw06_ValidStays.l1 k6 t358 t363 x7_2 (wrap64 ((wrap64 ((rd t358 x7_2) - t371)) + t372)) false (wrap64 (x12_6 + 1)))) else (none)) else (none)) else (none)) = some r := by rw [if_neg (show ¬ (false = true) by decide)] at H; exact H
                        clear H
                        have H := H1
                        clear H1
                        by_cases c49 : 0 ≤ x12_6
                        ·rw [if_pos c49] at H
                         have c49b0 : decide (0 ≤ x12_6) = true := decide_eq_true c49
                         clear c49
                         by_cases c50 : 0 ≤ x7_2
                         ·rw [if_pos c50] at H
                          have c50b0 : decide (0 ≤ x7_2) = true := decide_eq_true c50
                          clear c50
                          by_cases c51 : x7_2 < (t363.length : Int)
                          ·rw [if_pos c51] at H
                           have c51b0 : decide (x7_2 < (t363.length : Int)) = true := decide_eq_true c51
                           clear c51
                           by_cases c52 : (IntKind.u64.wrap ((rd_T36 t363 x12_6).f2)) = ((rd_T36 t363 x7_2).f1)
                           ·rw [if_pos c52] at H
                            have c52b0 : ((IntKind.u64.wrap ((rd_T36 t363 x12_6).f2)) == ((rd_T36 t363 x7_2).f1)) = true := beq_iff_eq.mpr c52
                            have c52b1 : ((IntKind.u64.wrap ((rd_T36 t363 x12_6).f2)) != ((rd_T36 t363 x7_2).f1)) = false := bne_eq_false_iff_eq.mpr c52
                            clear c52
                            by_cases c53 : x12_6 < (t358.length : Int)
                            ·rw [if_pos c53] at H
                             have c53b0 : decide (x12_6 < (t358.length : Int)) = true := decide_eq_true c53
                             clear c53
                             have H' := Aside0.mk H
                             clear H
                             have p379 : 0 ≤ (x12_6 : Int) := of_decide_eq_true (by first | (with_reducible assumption) | assumption)
                             have q379 : x12_6 < (t363.length : Int) := of_decide_eq_true (by first | (with_reducible assumption) | assumption)
                             obtain ⟨ad379, e379, hx379_0, hx379_1, hx379_2, hx379_3⟩ := at_T36 (Kd.R_reads' HO_5.out).2.2 x12_6 p379 q379
                             obtain rfl : ad370 = ad379 := (by injection e379)
                             replace p379 := eq_true p379
                             replace q379 := eq_true q379
                             have p380 : 0 ≤ (x7_2 : Int) := of_decide_eq_true (by first | (with_reducible assumption) | assumption)
                             have q380 : x7_2 < (t363.length : Int) := of_decide_eq_true (by first | (with_reducible assumption) | assumption)
                             obtain ⟨ad380, e380, hx380_0, hx380_1, hx380_2, hx380_3⟩ := at_T36 (Kd.R_reads' HO_5.out).2.2 x7_2 p380 q380
                             obtain rfl : ad370 = ad380 := (by injection e380)
                             replace p380 := eq_true p380
                             replace q380 := eq_true q380
                             have p381 : 0 ≤ (x12_6 : Int) := of_decide_eq_true (by first | (with_reducible assumption) | assumption)
                             have q381 : x12_6 < (t358.length : Int) := of_decide_eq_true (by first | (with_reducible assumption) | assumption)
                             obtain ⟨ad381, e381, hx381_0⟩ := Kd.at_int (Kd.R_reads' HO_3.out).2.2 x12_6 p381 q381
                             obtain rfl : ad369 = ad381 := (by injection e381)
                             replace p381 := eq_true p381
                             replace q381 := eq_true q381
                             go_wp2
                             repeat (go_quiet (fail); try go_wp2)
                             go_roundg k6
                             case measure => have := HJ4.out; have := HK2.out; have := HJ25.out; have := HJ32.out; have := HJ41.out; have := HK6.out; omega
                             case rel => exact ⟨(((rd t358 x12_6) == (wrap64 ((wrap64 ((rd t358 x7_2) - t371)) + t372)))), (wrap64 (x12_6 + 1)), (by first | rfl | (simp; done) | (simp [*]; done)), (by first | rfl | (simp; done) | (simp [*]; done)), H', ⟨by have := HJ4.out; have := HK2.out; have := HJ25.out; have := HJ32.out; have := HJ41.out; have := HK6.out; omega⟩, ⟨by (with_reducible repeat (first | apply Kd.R_alloc | apply Kd.R_drewN | apply Kd.R_drew)); exact HO_3.out⟩, ⟨by (with_reducible repeat (first | apply Kd.R_alloc | apply Kd.R_drewN | apply Kd.R_drew)); exact HO_5.out⟩, ⟨by repeat (first | (with_reducible first | exact HB.out | apply below_alloc | apply pw_below_drewN | apply below_drew1) | exact HB.out)⟩⟩
                            ·rw [if_neg c53] at H
                             exact absurd H (by simp)
                           ·rw [if_neg c52] at H
                            have c52b0 : ((IntKind.u64.wrap ((rd_T36 t363 x12_6).f2)) == ((rd_T36 t363 x7_2).f1)) = false := beq_eq_false_iff_ne.mpr c52
                            have c52b1 : ((IntKind.u64.wrap ((rd_T36 t363 x12_6).f2)) != ((rd_T36 t363 x7_2).f1)) = true := bne_iff_ne.mpr c52
                            have H' := Aside0.mk H
                            clear H
                            have p379 : 0 ≤ (x12_6 : Int) := of_decide_eq_true (by first | (with_reducible assumption) | assumption)
                            have q379 : x12_6 < (t363.length : Int) := of_decide_eq_true (by first | (with_reducible assumption) | assumption)
                            obtain ⟨ad379, e379, hx379_0, hx379_1, hx379_2, hx379_3⟩ := at_T36 (Kd.R_reads' HO_5.out).2.2 x12_6 p379 q379
                            obtain rfl : ad370 = ad379 := (by injection e379)
                            replace p379 := eq_true p379
                            replace q379 := eq_true q379
                            have p380 : 0 ≤ (x7_2 : Int) := of_decide_eq_true (by first | (with_reducible assumption) | assumption)
                            have q380 : x7_2 < (t363.length : Int) := of_decide_eq_true (by first | (with_reducible assumption) | assumption)
                            obtain ⟨ad380, e380, hx380_0, hx380_1, hx380_2, hx380_3⟩ := at_T36 (Kd.R_reads' HO_5.out).2.2 x7_2 p380 q380
                            obtain rfl : ad370 = ad380 := (by injection e380)
                            replace p380 := eq_true p380
                            replace q380 := eq_true q380
                            go_wp2
                            repeat (go_quiet (fail); try go_wp2)
                            go_roundg k6
                            case measure => have := HJ4.out; have := HK2.out; have := HJ25.out; have := HJ32.out; have := HJ41.out; have := HK6.out; omega
                            case rel => exact ⟨(false), (wrap64 (x12_6 + 1)), (by first | rfl | (simp; done) | (simp [*]; done)), (by first | rfl | (simp; done) | (simp [*]; done)), H', ⟨by have := HJ4.out; have := HK2.out; have := HJ25.out; have := HJ32.out; have := HJ41.out; have := HK6.out; omega⟩, ⟨by (with_reducible repeat (first | apply Kd.R_alloc | apply Kd.R_drewN | apply Kd.R_drew)); exact HO_3.out⟩, ⟨by (with_reducible repeat (first | apply Kd.R_alloc | apply Kd.R_drewN | apply Kd.R_drew)); exact HO_5.out⟩, ⟨by repeat (first | (with_reducible first | exact HB.out | apply below_alloc | apply pw_below_drewN | apply below_drew1) | exact HB.out)⟩⟩
                          ·rw [if_neg c51] at H
                           exact absurd H (by simp)
                         ·rw [if_neg c50] at H
                          exact absurd H (by simp)
                        ·rw [if_neg c49] at H
                         exact absurd H (by simp)
                      ·rw [if_neg c47] at H
                       have c47b0 : decide (x12_6 < (t363.length : Int)) = false := decide_eq_false c47
                       clear c47
                       by_cases c54 : x11_6 = true
                       ·subst c54
                        have H1 : (januslaw06_ValidStays.l0 k6 t358 t363 (wrap64 (x7_2 + 1))) = some r := by rw [if_pos rfl] at H; exact H
                        clear H
                        have H := H1
                        clear H1
                        have H' := Aside0.mk H
                        clear H
                        go_wp2
                        repeat (go_quiet (fail); try go_wp2)
                        go_roundg k6
                        case measure => have := HJ4.out; have := HK2.out; have := HJ25.out; have := HJ32.out; have := HJ41.out; have := HK6.out; omega
                        case rel => exact ⟨(wrap64 (x7_2 + 1)), (by first | rfl | (simp; done) | (simp [*]; done)), H', ⟨by have := HJ4.out; have := HK2.out; have := HJ25.out; have := HJ32.out; have := HJ41.out; have := HK6.out; omega⟩, ⟨by (with_reducible repeat (first | apply Kd.R_alloc | apply Kd.R_drewN | apply Kd.R_drew)); exact HO_3.out⟩, ⟨by (with_reducible repeat (first | apply Kd.R_alloc | apply Kd.R_drewN | apply Kd.R_drew)); exact HO_5.out⟩, ⟨by repeat (first | (with_reducible first | exact HB.out | apply below_alloc | apply pw_below_drewN | apply below_drew1) | exact HB.out)⟩⟩
                       ·replace c54 := Bool.eq_false_iff.mpr c54
                        subst c54
                        have H1 : (none) = some r := by rw [if_neg (show ¬ (false = true) by decide)] at H; exact H
                        clear H
                        have H := H1
                        clear H1
                        exact absurd H (by simp)
                   ·replace c46 := Bool.eq_false_iff.mpr c46
                    subst c46
                    have H1 : (januslaw06_ValidStays.l0 kj41 t358 t363 (wrap64 (x7_2 + 1))) = some r := by rw [if_neg (show ¬ (false = true) by decide)] at H; exact H
                    clear H
                    have H := H1
                    clear H1
                    have H' := Aside0.mk H
                    clear H
                    go_wp2
                    repeat (go_quiet (fail); try go_wp2)
                    go_roundg kj41
                    case measure => have := HJ4.out; have := HK2.out; have := HJ25.out; have := HJ32.out; have := HJ41.out; omega
                    case rel => exact ⟨(wrap64 (x7_2 + 1)), (by first | rfl | (simp; done) | (simp [*]; done)), H', ⟨by have := HJ4.out; have := HK2.out; have := HJ25.out; have := HJ32.out; have := HJ41.out; omega⟩, ⟨by (with_reducible repeat (first | apply Kd.R_alloc | apply Kd.R_drewN | apply Kd.R_drew)); exact HO_3.out⟩, ⟨by (with_reducible repeat (first | apply Kd.R_alloc | apply Kd.R_drewN | apply Kd.R_drew)); exact HO_5.out⟩, ⟨by repeat (first | (with_reducible first | exact HB.out | apply below_alloc | apply pw_below_drewN | apply below_drew1) | exact HB.out)⟩⟩
         ·rw [if_neg c21] at H
          exact absurd H (by simp)
        ·rw [if_neg c20] at H
         exact absurd H (by simp)
       ·rw [if_neg c19] at H
        have c19b0 : decide (x7_2 < (t363.length : Int)) = false := decide_eq_false c19
        clear c19
        replace H := Option.bind_eq_some_iff.mp H
        obtain ⟨t368, A550, H⟩ := H
        replace H : (some t368) = some r := H
        have A55 := Aside0.mk A550
        clear A550
        obtain rfl := Option.some.inj H
        obtain ⟨Ao56, co56, eo56⟩ := Kd.R_slice HO_5.out
        subst eo56
        go_wp2_with (first | (go_at_call 28; (with_reducible refine (januslaw06_awake.calls k2  t368 _ A55.out).mono ?_); rintro e w57 ⟨rfl, hb⟩; have n0_ := Aside0.mk (Kd.R_below (by (with_reducible repeat (first | apply Kd.R_alloc | apply Kd.R_drewN | apply Kd.R_drew)); exact HO_3.out) hb); have n1_ := Aside0.mk (Kd.R_below (by (with_reducible repeat (first | apply Kd.R_alloc | apply Kd.R_drewN | apply Kd.R_drew)); exact HO_5.out) hb); have n2_ := Aside0.mk (below_step (by repeat (first | (with_reducible first | exact HB.out | apply below_alloc | apply pw_below_drewN | apply below_drew1) | exact HB.out)) hb); clear HO_3; clear HO_5; clear HB; have HO_3 := n0_; have HO_5 := n1_; have HB := n2_; clear n0_ n1_ n2_; (try clear hb); (try clear hb2); (try clear hk); (try clear hi)))
        repeat (go_quiet (first | (go_at_call 28; (with_reducible refine (januslaw06_awake.calls k2  t368 _ A55.out).mono ?_); rintro e w57 ⟨rfl, hb⟩; have n0_ := Aside0.mk (Kd.R_below (by (with_reducible repeat (first | apply Kd.R_alloc | apply Kd.R_drewN | apply Kd.R_drew)); exact HO_3.out) hb); have n1_ := Aside0.mk (Kd.R_below (by (with_reducible repeat (first | apply Kd.R_alloc | apply Kd.R_drewN | apply Kd.R_drew)); exact HO_5.out) hb); have n2_ := Aside0.mk (below_step (by repeat (first | (with_reducible first | exact HB.out | apply below_alloc | apply pw_below_drewN | apply below_drew1) | exact HB.out)) hb); clear HO_3; clear HO_5; clear HB; have HO_3 := n0_; have HO_5 := n1_; have HB := n2_; clear n0_ n1_ n2_; (try clear hb); (try clear hb2); (try clear hk); (try clear hi))); try go_wp2_with (first | (go_at_call 28; (with_reducible refine (januslaw06_awake.calls k2  t368 _ A55.out).mono ?_); rintro e w57 ⟨rfl, hb⟩; have n0_ := Aside0.mk (Kd.R_below (by (with_reducible repeat (first | apply Kd.R_alloc | apply Kd.R_drewN | apply Kd.R_drew)); exact HO_3.out) hb); have n1_ := Aside0.mk (Kd.R_below (by (with_reducible repeat (first | apply Kd.R_alloc | apply Kd.R_drewN | apply Kd.R_drew)); exact HO_5.out) hb); have n2_ := Aside0.mk (below_step (by repeat (first | (with_reducible first | exact HB.out | apply below_alloc | apply pw_below_drewN | apply below_drew1) | exact HB.out)) hb); clear HO_3; clear HO_5; clear HB; have HO_3 := n0_; have HO_5 := n1_; have HB := n2_; clear n0_ n1_ n2_; (try clear hb); (try clear hb2); (try clear hk); (try clear hi))))
        go_ret
        exact ⟨by first | rfl | (simp [errW_none, errW_some] <;> rfl) | (simp [*, errW_none, errW_some] <;> rfl), by repeat (first | (with_reducible first | exact HB.out | apply below_alloc | apply pw_below_drewN | apply below_drew1) | exact HB.out)⟩
 ·rw [if_neg c3] at H
  have c3b0 : (t359 == 0) = false := beq_eq_false_iff_ne.mpr c3
  have c3b1 : (t359 != 0) = true := bne_iff_ne.mpr c3
  by_cases c58 : (t358.length : Int) = 0
  ·rw [if_pos c58] at H
   have c58b0 : ((t358.length : Int) == 0) = true := beq_iff_eq.mpr c58
   have c58b1 : ((t358.length : Int) != 0) = false := bne_eq_false_iff_eq.mpr c58
   clear c58
   replace H := Option.bind_eq_some_iff.mp H
   obtain ⟨t362, A590, H⟩ := H
   replace H : (some t362) = some r := H
   have A59 := Aside0.mk A590
   clear A590
   obtain rfl := Option.some.inj H
   go_enter Try.func9, Try.ntmps9
   go_wp2_with (first | (go_at_call 29; (with_reducible refine (valid_Depths.calls k a0 t358 t359 _ A2.out).mono ?_); rintro e w60 ⟨v360, rfl, ho0, hb⟩; have n0_ := Aside0.mk (Kd.R_lower ho0 (below_size (by repeat (first | (with_reducible first | exact HB.out | apply below_alloc | apply pw_below_drewN | apply below_drew1) | exact HB.out)))); have n1_ := Aside0.mk (below_step (by repeat (first | (with_reducible first | exact HB.out | apply below_alloc | apply pw_below_drewN | apply below_drew1) | exact HB.out)) hb); clear HB; have HO361 := n0_; have HB := n1_; clear n0_ n1_; (try clear hb); (try clear hb2); (try clear hk); (try clear hi); (try clear ho0); obtain ⟨Ao61, co61, eo61⟩ := Kd.R_slice HO361.out; subst eo61) | (go_at_call 28; (with_reducible refine (januslaw06_awake.calls k  t362 _ A59.out).mono ?_); rintro e w62 ⟨rfl, hb⟩; have n0_ := Aside0.mk (Kd.R_below (by (with_reducible repeat (first | apply Kd.R_alloc | apply Kd.R_drewN | apply Kd.R_drew)); exact HO361.out) hb); have n1_ := Aside0.mk (below_step (by repeat (first | (with_reducible first | exact HB.out | apply below_alloc | apply pw_below_drewN | apply below_drew1) | exact HB.out)) hb); clear HO361; clear HB; have HO361 := n0_; have HB := n1_; clear n0_ n1_; (try clear hb); (try clear hb2); (try clear hk); (try clear hi)))
   repeat (go_quiet (first | (go_at_call 29; (with_reducible refine (valid_Depths.calls k a0 t358 t359 _ A2.out).mono ?_); rintro e w60 ⟨v360, rfl, ho0, hb⟩; have n0_ := Aside0.mk (Kd.R_lower ho0 (below_size (by repeat (first | (with_reducible first | exact HB.out | apply below_alloc | apply pw_below_drewN | apply below_drew1) | exact HB.out)))); have n1_ := Aside0.mk (below_step (by repeat (first | (with_reducible first | exact HB.out | apply below_alloc | apply pw_below_drewN | apply below_drew1) | exact HB.out)) hb); clear HB; have HO361 := n0_; have HB := n1_; clear n0_ n1_; (try clear hb); (try clear hb2); (try clear hk); (try clear hi); (try clear ho0); obtain ⟨Ao61, co61, eo61⟩ := Kd.R_slice HO361.out; subst eo61) | (go_at_call 28; (with_reducible refine (januslaw06_awake.calls k  t362 _ A59.out).mono ?_); rintro e w62 ⟨rfl, hb⟩; have n0_ := Aside0.mk (Kd.R_below (by (with_reducible repeat (first | apply Kd.R_alloc | apply Kd.R_drewN | apply Kd.R_drew)); exact HO361.out) hb); have n1_ := Aside0.mk (below_step (by repeat (first | (with_reducible first | exact HB.out | apply below_alloc | apply pw_below_drewN | apply below_drew1) | exact HB.out)) hb); clear HO361; clear HB; have HO361 := n0_; have HB := n1_; clear n0_ n1_; (try clear hb); (try clear hb2); (try clear hk); (try clear hi))); try go_wp2_with (first | (go_at_call 29; (with_reducible refine (valid_Depths.calls k a0 t358 t359 _ A2.out).mono ?_); rintro e w60 ⟨v360, rfl, ho0, hb⟩; have n0_ := Aside0.mk (Kd.R_lower ho0 (below_size (by repeat (first | (with_reducible first | exact HB.out | apply below_alloc | apply pw_below_drewN | apply below_drew1) | exact HB.out)))); have n1_ := Aside0.mk (below_step (by repeat (first | (with_reducible first | exact HB.out | apply below_alloc | apply pw_below_drewN | apply below_drew1) | exact HB.out)) hb); clear HB; have HO361 := n0_; have HB := n1_; clear n0_ n1_; (try clear hb); (try clear hb2); (try clear hk); (try clear hi); (try clear ho0); obtain ⟨Ao61, co61, eo61⟩ := Kd.R_slice HO361.out; subst eo61) | (go_at_call 28; (with_reducible refine (januslaw06_awake.calls k  t362 _ A59.out).mono ?_); rintro e w62 ⟨rfl, hb⟩; have n0_ := Aside0.mk (Kd.R_below (by (with_reducible repeat (first | apply Kd.R_alloc | apply Kd.R_drewN | apply Kd.R_drew)); exact HO361.out) hb); have n1_ := Aside0.mk (below_step (by repeat (first | (with_reducible first | exact HB.out | apply below_alloc | apply pw_below_drewN | apply below_drew1) | exact HB.out)) hb); clear HO361; clear HB; have HO361 := n0_; have HB := n1_; clear n0_ n1_; (try clear hb); (try clear hb2); (try clear hk); (try clear hi))))
   go_ret
   exact ⟨by first | rfl | (simp [errW_none, errW_some] <;> rfl) | (simp [*, errW_none, errW_some] <;> rfl), by repeat (first | (with_reducible first | exact HB.out | apply below_alloc | apply pw_below_drewN | apply below_drew1) | exact HB.out)⟩
  ·rw [if_neg c58] at H
   exact absurd H (by simp)
end Go.Proofs.Ytjbpljcfogekhaa.Q
namespace Go.Proofs.Ytjbpljcfogekhaa.Core
open Go.RowKit Go.Proofs.Ytjbpljcfogekhaa.Q Go.Proofs.YtjbpljcfogekhaaW.PrintWords Go.Proofs.YtjbpljcfogekhaaW.PrintLast Go.Proofs.YtjbpljcfogekhaaW.PrintMore
theorem stays_l1 {l : List S36} {ds : List Int} (hlen : ds.length = l.length) (hll : l.length ≤ 1048576) (hrng : ∀ x ∈ l, 0 ≤ x.f2 ∧ x.f2 < 1048576) (hpl : l.Pairwise fun x y => x.f2 < y.f2) {i : Nat} {x : S36} (hx : l[i]? = some x) {t : Nat} (ht : findS l x.f1 = some t) {nx : Int} (hd : ds[t]? = some nx) {r : Bool}
    (hnext : Ev (fun k => januslaw06_ValidStays.l0 k ds l (wrap64 ((i : Int) + 1))) r) : ∀ (d k : Nat) (b : Bool), k + d = l.length → (b = true → t < k) → (t < k → b = true) →
    Ev (fun n => januslaw06_ValidStays.l1 n ds l (i : Int) nx b (k : Int)) r
  | 0, k, b, hk, h1, h2 => by
    have htl := findS_lt ht
    have hb : b = true := h2 (by omega)
    subst hb
    refine Ev.step (f := fun n => januslaw06_ValidStays.l0 n ds l (wrap64 ((i : Int) + 1))) (fun n => ?_) hnext
    simp only [januslaw06_ValidStays.l1]
    rw [if_neg (by omega), if_pos trivial]
  | d + 1, k, b, hk, h1, h2 => by
    have htl := findS_lt ht
    have hil := (List.getElem?_eq_some_iff.1 hx).1
    have hkl : k < l.length := by omega
    cases hb : b with
    | true =>
      subst hb
      have htk := h1 rfl
      refine Ev.step (f := fun n => januslaw06_ValidStays.l1 n ds l (i : Int) nx true ((k + 1 : Nat) : Int)) (fun n => ?_) (stays_l1 hlen hll hrng hpl hx ht hd hnext d (k + 1) true (by omega) (fun _ => by omega) (fun _ => rfl))
      simp only [januslaw06_ValidStays.l1]
      rw [if_pos (by omega), if_pos trivial, wrap_in (by omega) (by omega)]
      rfl
    | false =>
      subst hb
      have htk : k ≤ t := by
        by_cases h : t < k
        · have := h2 h; cases this
        · omega
      obtain ⟨y, hy⟩ : ∃ y, l[k]? = some y := ⟨_, List.getElem?_eq_getElem hkl⟩
      have hyr := hrng y (List.mem_of_getElem? hy)
      obtain ⟨z, hz, hza⟩ := findS_some ht
      by_cases hkt : k = t
      · subst hkt
        rw [hy] at hz
        cases hz
        refine Ev.step (f := fun n => januslaw06_ValidStays.l1 n ds l (i : Int) nx true ((k + 1 : Nat) : Int)) (fun n => ?_) (stays_l1 hlen hll hrng hpl hx ht hd hnext d (k + 1) true (by omega) (fun _ => by omega) (fun _ => rfl))
        simp only [januslaw06_ValidStays.l1]
        rw [if_pos (by omega), if_neg (by simp), if_pos (by omega), if_pos (by omega), if_pos (by omega), rdT_of hy, rdT_of hx, u64_in y.f2 hyr.1 (by omega), if_pos hza, if_pos (by omega), rd_of hd, wrap_in (by omega) (by omega)]
        simp
      · have hne : y.f2 ≠ x.f1 := by
          have := List.pairwise_iff_getElem.1 hpl k t hkl htl (by omega)
          rw [List.getElem?_eq_getElem hkl] at hy
          rw [List.getElem?_eq_getElem htl] at hz
          rw [Option.some.inj hy, Option.some.inj hz] at this
          omega
        refine Ev.step (f := fun n => januslaw06_ValidStays.l1 n ds l (i : Int) nx false ((k + 1 : Nat) : Int)) (fun n => ?_) (stays_l1 hlen hll hrng hpl hx ht hd hnext d (k + 1) false (by omega) (fun h => by cases h) (fun h => by omega))
        simp only [januslaw06_ValidStays.l1]
        rw [if_pos (by omega), if_neg (by simp), if_pos (by omega), if_pos (by omega), if_pos (by omega), rdT_of hy, rdT_of hx, u64_in y.f2 hyr.1 (by omega), if_neg hne, wrap_in (by omega) (by omega)]
        rfl
theorem stays_l0 {s : ByteArray} {l : List S36} {ds : List Int} (R : Ready s l ds) : ∀ (d i : Nat), i + d = l.length → Ev (fun k => januslaw06_ValidStays.l0 k ds l (i : Int)) true
  | 0, i, hi => by
    refine Ev.step (f := fun k => (januslaw06_awake.f k).bind fun t368 => (some t368)) (fun k => ?_) (Ev.bind awake06 (Ev.now _))
    simp only [januslaw06_ValidStays.l0]
    rw [if_neg (by omega)]
  | d + 1, i, hi => by
    have ih := stays_l0 R d (i + 1) (by omega)
    have hll := decAll_length R.dec
    have hsz := R.size
    have hil : i < l.length := by omega
    have hid : i < ds.length := by rw [R.found.len]; exact hil
    obtain ⟨x, hx⟩ : ∃ x, l[i]? = some x := ⟨_, List.getElem?_eq_getElem hil⟩
    have hxr := decAll_range R.dec x (List.mem_of_getElem? hx)
    have hg := rd_get hid
    obtain ⟨e, he⟩ : ∃ e, rd ds (i : Int) = e := ⟨_, rfl⟩
    rw [he] at hg
    by_cases hneg : e < 0
    · refine Ev.step (f := fun k => januslaw06_ValidStays.l0 k ds l ((i + 1 : Nat) : Int)) (fun k => ?_) ih
      simp only [januslaw06_ValidStays.l0]
      rw [if_pos (by omega), if_pos (by omega), if_pos (by omega), he, if_pos hneg, wrap_in (by omega) (by omega)]
      rfl
    · have hR := R.found.iff i e hg (by omega)
      have hr32 := Reach_range R.ok hR
      have ht0 := okS_tk R.ok hx
      have hst : tk x ≤ e ∧ e - tk x + pt x ≤ 32 := by
        refine ⟨?_, ?_⟩
        · by_cases h : tk x ≤ e
          · exact h
          · exact absurd (Bad.stack hR hx (.inl (by omega))) R.good
        · by_cases h : e - tk x + pt x ≤ 32
          · exact h
          · exact absurd (Bad.stack hR hx (.inr (by omega))) R.good
      have hp1 := pt_nonneg ht0
      have hp2 := pt_le (x := x)
      have ht2 := tk_le (x := x)
      have hsucc : ∀ j ∈ succs l i x, ds[j]? = some (e - tk x + pt x) := fun j hj => R.found.all j _ (Core.Reach.step hR hx hst.1 hst.2 hj)
      have hw1 : wrap64 (wrap64 (e - tk x) + pt x) = e - tk x + pt x := by rw [wrap_in (n := e - tk x) (by omega) (by omega), wrap_in (by omega) (by omega)]
      have hnext : Ev (fun k => januslaw06_ValidStays.l0 k ds l (wrap64 ((i : Int) + 1))) true := by
        rw [wrap_in (by omega) (by omega)]; exact ih
      have j4t : ∀ b, b = jmp x → Ev (fun k => januslaw06_ValidStays.j4 k ds l (i : Int) (e - tk x + pt x) b) true := by
        intro b hb
        cases hj : jmp x with
        | false =>
          rw [hb, hj]
          refine Ev.step (f := fun k => januslaw06_ValidStays.l0 k ds l (wrap64 ((i : Int) + 1))) (fun k => by simp only [januslaw06_ValidStays.j4]; rw [if_neg (by simp)]) hnext
        | true =>
          rw [hb, hj]
          obtain ⟨t, ht⟩ := okS_jmp R.ok hx hj
          have hdt : ds[t]? = some (e - tk x + pt x) := hsucc t (by unfold succs; rw [if_pos hj, ht]; simp)
          refine Ev.step (f := fun k => januslaw06_ValidStays.l1 k ds l (i : Int) (e - tk x + pt x) false 0) (fun k => by simp only [januslaw06_ValidStays.j4]; rw [if_pos trivial]) ?_
          have := stays_l1 R.found.len (by omega) (fun y hy => by have := decAll_range R.dec y hy; omega) (decAll_places R.dec) hx ht hdt hnext l.length 0 false (by omega) (fun h => by cases h) (fun h => by omega)
          simpa using this
      have j3t : Ev (fun k => januslaw06_ValidStays.j3 k ds l (i : Int) (e - tk x + pt x) false) true := by
        by_cases h21 : x.f0 = 21
        · refine Ev.step (f := fun k => januslaw06_ValidStays.j4 k ds l (i : Int) (e - tk x + pt x) true) (fun k => ?_) (j4t true (by unfold jmp; simp [h21]))
          simp only [januslaw06_ValidStays.j3]
          rw [if_neg (by simp), if_pos (by omega), if_pos (by omega), rdT_of hx, if_pos h21]
        · refine Ev.step (f := fun k => januslaw06_ValidStays.j4 k ds l (i : Int) (e - tk x + pt x) (x.f0 == 22)) (fun k => ?_) (j4t _ (by unfold jmp; simp [h21]))
          simp only [januslaw06_ValidStays.j3]
          rw [if_neg (by simp), if_pos (by omega), if_pos (by omega), rdT_of hx, if_neg h21]
      have j2t : Ev (fun k => januslaw06_ValidStays.j2 k ds l (i : Int) (e - tk x + pt x) false) true := by
        by_cases h21 : x.f0 = 21
        · refine Ev.step (f := fun k => januslaw06_ValidStays.j3 k ds l (i : Int) (e - tk x + pt x) false) (fun k => ?_) j3t
          simp only [januslaw06_ValidStays.j2]
          rw [if_neg (by simp), if_pos (by omega), if_pos (by omega), rdT_of hx, if_pos h21]
        · have hs1 : i + 1 ∈ succs l i x := by unfold succs; simp [h21]
          have hne : i + 1 ≠ l.length := fun h => R.good (.end_ (h ▸ Core.Reach.step hR hx hst.1 hst.2 hs1))
          have hd1 := hsucc _ hs1
          have hr1 := rd_of hd1
          refine Ev.step (f := fun k => januslaw06_ValidStays.j3 k ds l (i : Int) (e - tk x + pt x) false) (fun k => ?_) j3t
          simp only [januslaw06_ValidStays.j2]
          rw [if_neg (by simp), if_pos (by omega), if_pos (by omega), rdT_of hx, if_neg h21, wrap_in (by omega) (by omega), if_neg (by omega), if_pos (by omega), if_pos (by rw [R.found.len]; omega)]
          have : ((i : Int) + 1) = ((i + 1 : Nat) : Int) := by omega
          rw [this, hr1]
          simp
      refine Ev.step (f := fun k => (janusref05_Moves.f k x.f0 x.f1 x.f2 x.f3).bind fun bt371 => (if bt371.1 < 0 then (januslaw06_ValidStays.j2 k ds l (i : Int) (wrap64 ((wrap64 (e - bt371.1)) + bt371.2)) true) else (if e < bt371.1 then (januslaw06_ValidStays.j2 k ds l (i : Int) (wrap64 ((wrap64 (e - bt371.1)) + bt371.2)) true) else (januslaw06_ValidStays.j2 k ds l (i : Int) (wrap64 ((wrap64 (e - bt371.1)) + bt371.2)) (decide ((wrap64 ((wrap64 (e - bt371.1)) + bt371.2)) > 32)))))) (fun k => ?_) ?_
      · simp only [januslaw06_ValidStays.l0]
        rw [if_pos (by omega), if_pos (by omega), if_pos (by omega), he, if_neg hneg, rdT_of hx]
      · refine Ev.bind (RMoves_ev x.f0 x.f1 x.f2 x.f3 hxr.2.2.2.2.1) ?_
        refine Ev.neg (show ¬ tk x < 0 by omega) (Ev.neg (show ¬ e < tk x by omega) ?_)
        show Ev (fun k => januslaw06_ValidStays.j2 k ds l (i : Int) (wrap64 (wrap64 (e - tk x) + pt x)) (decide (wrap64 (wrap64 (e - tk x) + pt x) > 32))) true
        rw [hw1, decide_eq_false (by omega)]
        exact j2t
theorem ValidStays_ev {s : ByteArray} (hs : s.size ≤ 1048576) : Ev (fun k => januslaw06_ValidStays.f k s) true := by
  simp only [januslaw06_ValidStays.f]
  refine Ev.bind (Ev.ret (fun k => Depths_f hs k)) ?_
  cases hr : readS s with
  | none =>
    rw [depths_none' hr]
    exact Ev.neg (by simp) (Ev.pos rfl (Ev.bind awake06 (Ev.now _)))
  | some p =>
    obtain ⟨l, ds⟩ := p
    have R := readS_some hr
    have hlp := decAll_pos R.dec (by have := R.size; omega)
    have h0 : ds[0]? = some 0 := R.found.all 0 0 .start
    have h0' := rd_of h0
    rw [depthsS_some hr]
    refine Ev.pos rfl (Ev.bind (RDec_ev hs R.dec) (Ev.pos rfl (Ev.pos (by rw [R.found.len]) (Ev.neg (by simp only; omega) (Ev.pos (by rw [R.found.len]; omega) ?_)))))
    refine Ev.step (f := fun k => januslaw06_ValidStays.l0 k ds l 0) (fun k => ?_) ?_
    · simp only [januslaw06_ValidStays.j0]
      have : rd ds 0 = 0 := h0'
      rw [this, if_neg (by simp)]
    · have := stays_l0 R l.length 0 (by omega)
      simpa using this
end Go.Proofs.Ytjbpljcfogekhaa.Core
namespace Go.Proofs.Ytjbpljcfogekhaa.Q
open Go.RowKit Go.Proofs.Ytjbpljcfogekhaa.Core Go.Proofs.YtjbpljcfogekhaaW.PrintWords Go.Proofs.YtjbpljcfogekhaaW.PrintLast Go.Proofs.YtjbpljcfogekhaaW.PrintMore
theorem val_all : True := by
  have a1 := @ValidEntries_ev
  have a2 := @ValidStays_ev
  have a3 := @januslaw06_ValidEntries.calls
  have a4 := @januslaw06_ValidStays.calls
  have a5 := @Ev.rounds
  trivial
end Go.Proofs.Ytjbpljcfogekhaa.Q
