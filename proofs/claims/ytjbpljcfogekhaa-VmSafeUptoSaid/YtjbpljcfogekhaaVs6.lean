/- januslaw07.VmSafe: part 6 of 7: what the walks and the plain law need, in order. -/
import Derived.Test.YtjbpljcfogekhaaVs5
import Derived.Deep.CutRange
set_option linter.unusedVariables false
set_option linter.unusedSimpArgs false
namespace Go.Proofs.Ytjbpljcfogekhaa.Q
open Go.RowKit YtjbpljcfogekhaaW.PrintWords YtjbpljcfogekhaaW.PrintLast YtjbpljcfogekhaaW.PrintMore
attribute [local go_sem] max2_int min2_int max_two min_two max_three min_three max_four min_four
attribute [local go_sem high] eqA61
def januslaw07_awake.f (k : Nat)  : Option (Bool) := (vm_Run.f k (⟨#[0, 2, 0, 3, 6, 23, 17]⟩ : ByteArray) 0 ([] : List Int) ([] : List Int) 9).bind fun bt492 => ((vm_Run.f k (⟨#[0, 1, 0, 64, 14]⟩ : ByteArray) 0 ([] : List Int) ([] : List Int) 3).bind fun bt506 => ((vm_Step.f k (⟨#[20]⟩ : ByteArray) 0 (([9, 5] : List Int))).bind fun bt523 => ((vm_Step.f k (⟨#[3]⟩ : ByteArray) 0 ([] : List Int)).bind fun bt533 => ((vm_Done.f k (⟨#[23, 17]⟩ : ByteArray) 0 ([] : List Int) 7).bind fun bt543 => ((janusref01_Words.f k bt492.2.1 (([5] : List Int))).bind fun t551 => (if t551 = true then (if bt492.1 = 5 then (if bt492.2.2.2.1 = 3 then (if bt492.2.2.2.2.2.2.1 = 17 then (if bt492.2.2.2.2.2.2.2 = 3 then ((janusref01_Words.f k bt506.2.1 (([0] : List Int))).bind fun t555 => (if t555 = true then (if (bt523.2.2.1 == 2 && (bt523.2.2.2.1 == 5 && (bt523.2.2.2.2.1 == 9 && (bt523.2.2.2.2.2 == 0)))) = true then (if bt533.2.2.1 = 4 then (if bt543.1 = 2 then ((janusref01_Words.f k bt543.2 (([7] : List Int))).bind fun t559 => (some t559)) else (none)) else (none)) else (none)) else (none))) else (none)) else (none)) else (none)) else (none)) else (none)))))))
theorem januslaw07_awake.mono : ∀ k, LeO (januslaw07_awake.f k ) (januslaw07_awake.f (k + 1) ) := by
 intro  k
 unfold januslaw07_awake.f
 repeat' first
   | (with_reducible exact janusref01_Words.mono _ _ _)
   | (with_reducible exact vm_Done.mono _ _ _ _ _)
   | (with_reducible exact vm_Run.mono _ _ _ _ _ _)
   | (with_reducible exact vm_Step.mono _ _ _ _)
   | (with_reducible exact LeO.refl _)
   | (with_reducible exact LeO.none _)
   | (with_reducible refine LeO.ite ?_ ?_)
   | (with_reducible refine LeO.bind ?_ (fun _ => ?_))
   | exact janusref01_Words.mono _ _ _
   | exact vm_Done.mono _ _ _ _ _
   | exact vm_Run.mono _ _ _ _ _ _
   | exact vm_Step.mono _ _ _ _
   | exact LeO.none _
   | refine LeO.ite ?_ ?_
   | refine LeO.bind ?_ (fun _ => ?_)
set_option maxHeartbeats 8000000 in
set_option maxRecDepth 100000 in
theorem januslaw07_awake.calls (k : Nat)  (r : Bool) (w : World) (h : januslaw07_awake.f k  = some r) :
  Calls Try.prog 34 #[] w fun e w' => e = .returned (.bool r) ∧ Below w.heap.size w w' := by
 have hu59 := Try.underlying59
 have hu61 := Try.underlying61
 have HB := Aside0.mk (Below.refl w.heap.size w)
 have H : ((vm_Run.f k (⟨#[0, 2, 0, 3, 6, 23, 17]⟩ : ByteArray) 0 ([] : List Int) ([] : List Int) 9).bind fun bt492 => ((vm_Run.f k (⟨#[0, 1, 0, 64, 14]⟩ : ByteArray) 0 ([] : List Int) ([] : List Int) 3).bind fun bt506 => ((vm_Step.f k (⟨#[20]⟩ : ByteArray) 0 (([9, 5] : List Int))).bind fun bt523 => ((vm_Step.f k (⟨#[3]⟩ : ByteArray) 0 ([] : List Int)).bind fun bt533 => ((vm_Done.f k (⟨#[23, 17]⟩ : ByteArray) 0 ([] : List Int) 7).bind fun bt543 => ((janusref01_Words.f k bt492.2.1 (([5] : List Int))).bind fun t551 => (if t551 = true then (if bt492.1 = 5 then (if bt492.2.2.2.1 = 3 then (if bt492.2.2.2.2.2.2.1 = 17 then (if bt492.2.2.2.2.2.2.2 = 3 then ((janusref01_Words.f k bt506.2.1 (([0] : List Int))).bind fun t555 => (if t555 = true then (if (bt523.2.2.1 == 2 && (bt523.2.2.2.1 == 5 && (bt523.2.2.2.2.1 == 9 && (bt523.2.2.2.2.2 == 0)))) = true then (if bt533.2.2.1 = 4 then (if bt543.1 = 2 then ((janusref01_Words.f k bt543.2 (([7] : List Int))).bind fun t559 => (some t559)) else (none)) else (none)) else (none)) else (none))) else (none)) else (none)) else (none)) else (none)) else (none)))))))) = some r := h
 clear h
 replace H := Option.bind_eq_some_iff.mp H
 obtain ⟨⟨t492, t493, t496, t499, t500, t501, t502, t503⟩, A10, H⟩ := H
 replace H : ((vm_Run.f k (⟨#[0, 1, 0, 64, 14]⟩ : ByteArray) 0 ([] : List Int) ([] : List Int) 3).bind fun bt506 => ((vm_Step.f k (⟨#[20]⟩ : ByteArray) 0 (([9, 5] : List Int))).bind fun bt523 => ((vm_Step.f k (⟨#[3]⟩ : ByteArray) 0 ([] : List Int)).bind fun bt533 => ((vm_Done.f k (⟨#[23, 17]⟩ : ByteArray) 0 ([] : List Int) 7).bind fun bt543 => ((janusref01_Words.f k t493 (([5] : List Int))).bind fun t551 => (if t551 = true then (if t492 = 5 then (if t499 = 3 then (if t502 = 17 then (if t503 = 3 then ((janusref01_Words.f k bt506.2.1 (([0] : List Int))).bind fun t555 => (if t555 = true then (if (bt523.2.2.1 == 2 && (bt523.2.2.2.1 == 5 && (bt523.2.2.2.2.1 == 9 && (bt523.2.2.2.2.2 == 0)))) = true then (if bt533.2.2.1 = 4 then (if bt543.1 = 2 then ((janusref01_Words.f k bt543.2 (([7] : List Int))).bind fun t559 => (some t559)) else (none)) else (none)) else (none)) else (none))) else (none)) else (none)) else (none)) else (none)) else (none))))))) = some r := H
 have A1 := Aside0.mk A10
 clear A10
 replace H := Option.bind_eq_some_iff.mp H
 obtain ⟨⟨t506, t507, t510, t513, t514, t515, t516, t517⟩, A20, H⟩ := H
 replace H : ((vm_Step.f k (⟨#[20]⟩ : ByteArray) 0 (([9, 5] : List Int))).bind fun bt523 => ((vm_Step.f k (⟨#[3]⟩ : ByteArray) 0 ([] : List Int)).bind fun bt533 => ((vm_Done.f k (⟨#[23, 17]⟩ : ByteArray) 0 ([] : List Int) 7).bind fun bt543 => ((janusref01_Words.f k t493 (([5] : List Int))).bind fun t551 => (if t551 = true then (if t492 = 5 then (if t499 = 3 then (if t502 = 17 then (if t503 = 3 then ((janusref01_Words.f k t507 (([0] : List Int))).bind fun t555 => (if t555 = true then (if (bt523.2.2.1 == 2 && (bt523.2.2.2.1 == 5 && (bt523.2.2.2.2.1 == 9 && (bt523.2.2.2.2.2 == 0)))) = true then (if bt533.2.2.1 = 4 then (if bt543.1 = 2 then ((janusref01_Words.f k bt543.2 (([7] : List Int))).bind fun t559 => (some t559)) else (none)) else (none)) else (none)) else (none))) else (none)) else (none)) else (none)) else (none)) else (none)))))) = some r := H
 have A2 := Aside0.mk A20
 clear A20
 obtain ⟨y520, hy520⟩ : ∃ y_ : List Int, y_ = (([9, 5] : List Int)) := ⟨_, rfl⟩
 replace H : ((vm_Step.f k (⟨#[20]⟩ : ByteArray) 0 y520).bind fun bt523 => ((vm_Step.f k (⟨#[3]⟩ : ByteArray) 0 ([] : List Int)).bind fun bt533 => ((vm_Done.f k (⟨#[23, 17]⟩ : ByteArray) 0 ([] : List Int) 7).bind fun bt543 => ((janusref01_Words.f k t493 (([5] : List Int))).bind fun t551 => (if t551 = true then (if t492 = 5 then (if t499 = 3 then (if t502 = 17 then (if t503 = 3 then ((janusref01_Words.f k t507 (([0] : List Int))).bind fun t555 => (if t555 = true then (if (bt523.2.2.1 == 2 && (bt523.2.2.2.1 == 5 && (bt523.2.2.2.2.1 == 9 && (bt523.2.2.2.2.2 == 0)))) = true then (if bt533.2.2.1 = 4 then (if bt543.1 = 2 then ((janusref01_Words.f k bt543.2 (([7] : List Int))).bind fun t559 => (some t559)) else (none)) else (none)) else (none)) else (none))) else (none)) else (none)) else (none)) else (none)) else (none)))))) = some r := by first | (rw [hy520]; with_reducible exact H) | (have H2_ := (Option.bind_some _ _).symm.trans H; rw [hy520]; with_reducible exact H2_) | (have H2_ := (Option.bind_some _ _).symm.trans H; with_reducible exact H2_) | with_reducible exact H | (rw [hy520]; exact H) | exact H
 have Ny520 := Aside0.mk hy520
 clear hy520
 replace H := Option.bind_eq_some_iff.mp H
 obtain ⟨⟨t523, t524, t527, t528, t529, t530⟩, A30, H⟩ := H
 replace H : ((vm_Step.f k (⟨#[3]⟩ : ByteArray) 0 ([] : List Int)).bind fun bt533 => ((vm_Done.f k (⟨#[23, 17]⟩ : ByteArray) 0 ([] : List Int) 7).bind fun bt543 => ((janusref01_Words.f k t493 (([5] : List Int))).bind fun t551 => (if t551 = true then (if t492 = 5 then (if t499 = 3 then (if t502 = 17 then (if t503 = 3 then ((janusref01_Words.f k t507 (([0] : List Int))).bind fun t555 => (if t555 = true then (if (t527 == 2 && (t528 == 5 && (t529 == 9 && (t530 == 0)))) = true then (if bt533.2.2.1 = 4 then (if bt543.1 = 2 then ((janusref01_Words.f k bt543.2 (([7] : List Int))).bind fun t559 => (some t559)) else (none)) else (none)) else (none)) else (none))) else (none)) else (none)) else (none)) else (none)) else (none))))) = some r := H
 have A3 := Aside0.mk A30
 clear A30
 replace H := Option.bind_eq_some_iff.mp H
 obtain ⟨⟨t533, t534, t537, t538, t539, t540⟩, A40, H⟩ := H
 replace H : ((vm_Done.f k (⟨#[23, 17]⟩ : ByteArray) 0 ([] : List Int) 7).bind fun bt543 => ((janusref01_Words.f k t493 (([5] : List Int))).bind fun t551 => (if t551 = true then (if t492 = 5 then (if t499 = 3 then (if t502 = 17 then (if t503 = 3 then ((janusref01_Words.f k t507 (([0] : List Int))).bind fun t555 => (if t555 = true then (if (t527 == 2 && (t528 == 5 && (t529 == 9 && (t530 == 0)))) = true then (if t537 = 4 then (if bt543.1 = 2 then ((janusref01_Words.f k bt543.2 (([7] : List Int))).bind fun t559 => (some t559)) else (none)) else (none)) else (none)) else (none))) else (none)) else (none)) else (none)) else (none)) else (none)))) = some r := H
 have A4 := Aside0.mk A40
 clear A40
 replace H := Option.bind_eq_some_iff.mp H
 obtain ⟨⟨t543, t544⟩, A50, H⟩ := H
 replace H : ((janusref01_Words.f k t493 (([5] : List Int))).bind fun t551 => (if t551 = true then (if t492 = 5 then (if t499 = 3 then (if t502 = 17 then (if t503 = 3 then ((janusref01_Words.f k t507 (([0] : List Int))).bind fun t555 => (if t555 = true then (if (t527 == 2 && (t528 == 5 && (t529 == 9 && (t530 == 0)))) = true then (if t537 = 4 then (if t543 = 2 then ((janusref01_Words.f k t544 (([7] : List Int))).bind fun t559 => (some t559)) else (none)) else (none)) else (none)) else (none))) else (none)) else (none)) else (none)) else (none)) else (none))) = some r := H
 have A5 := Aside0.mk A50
 clear A50
 obtain ⟨y548, hy548⟩ : ∃ y_ : List Int, y_ = (([5] : List Int)) := ⟨_, rfl⟩
 replace H : ((janusref01_Words.f k t493 y548).bind fun t551 => (if t551 = true then (if t492 = 5 then (if t499 = 3 then (if t502 = 17 then (if t503 = 3 then ((janusref01_Words.f k t507 (([0] : List Int))).bind fun t555 => (if t555 = true then (if (t527 == 2 && (t528 == 5 && (t529 == 9 && (t530 == 0)))) = true then (if t537 = 4 then (if t543 = 2 then ((janusref01_Words.f k t544 (([7] : List Int))).bind fun t559 => (some t559)) else (none)) else (none)) else (none)) else (none))) else (none)) else (none)) else (none)) else (none)) else (none))) = some r := by first | (rw [hy548]; with_reducible exact H) | (have H2_ := (Option.bind_some _ _).symm.trans H; rw [hy548]; with_reducible exact H2_) | (have H2_ := (Option.bind_some _ _).symm.trans H; with_reducible exact H2_) | with_reducible exact H | (rw [hy548]; exact H) | exact H
 have Ny548 := Aside0.mk hy548
 clear hy548
 replace H := Option.bind_eq_some_iff.mp H
 obtain ⟨t551, A60, H⟩ := H
 replace H : (if t551 = true then (if t492 = 5 then (if t499 = 3 then (if t502 = 17 then (if t503 = 3 then ((janusref01_Words.f k t507 (([0] : List Int))).bind fun t555 => (if t555 = true then (if (t527 == 2 && (t528 == 5 && (t529 == 9 && (t530 == 0)))) = true then (if t537 = 4 then (if t543 = 2 then ((janusref01_Words.f k t544 (([7] : List Int))).bind fun t559 => (some t559)) else (none)) else (none)) else (none)) else (none))) else (none)) else (none)) else (none)) else (none)) else (none)) = some r := H
 have A6 := Aside0.mk A60
 clear A60
 by_cases c7 : t551 = true
 ·subst c7
  have H1 : (if t492 = 5 then (if t499 = 3 then (if t502 = 17 then (if t503 = 3 then ((janusref01_Words.f k t507 (([0] : List Int))).bind fun t555 => (if t555 = true then (if (t527 == 2 && (t528 == 5 && (t529 == 9 && (t530 == 0)))) = true then (if t537 = 4 then (if t543 = 2 then ((janusref01_Words.f k t544 (([7] : List Int))).bind fun t559 => (some t559)) else (none)) else (none)) else (none)) else (none))) else (none)) else (none)) else (none)) else (none)) = some r := by rw [if_pos rfl] at H; exact H
  clear H
  have H := H1
  clear H1
  by_cases c8 : t492 = 5
  ·rw [if_pos c8] at H
   have c8b0 : (t492 == 5) = true := beq_iff_eq.mpr c8
   have c8b1 : (t492 != 5) = false := bne_eq_false_iff_eq.mpr c8
   clear c8
   by_cases c9 : t499 = 3
   ·rw [if_pos c9] at H
    have c9b0 : (t499 == 3) = true := beq_iff_eq.mpr c9
    have c9b1 : (t499 != 3) = false := bne_eq_false_iff_eq.mpr c9
    clear c9
    by_cases c10 : t502 = 17
    ·rw [if_pos c10] at H
     have c10b0 : (t502 == 17) = true := beq_iff_eq.mpr c10
     have c10b1 : (t502 != 17) = false := bne_eq_false_iff_eq.mpr c10
     clear c10
     by_cases c11 : t503 = 3
     ·rw [if_pos c11] at H
      have c11b0 : (t503 == 3) = true := beq_iff_eq.mpr c11
      have c11b1 : (t503 != 3) = false := bne_eq_false_iff_eq.mpr c11
      clear c11
      obtain ⟨y552, hy552⟩ : ∃ y_ : List Int, y_ = (([0] : List Int)) := ⟨_, rfl⟩
      replace H : ((janusref01_Words.f k t507 y552).bind fun t555 => (if t555 = true then (if (t527 == 2 && (t528 == 5 && (t529 == 9 && (t530 == 0)))) = true then (if t537 = 4 then (if t543 = 2 then ((janusref01_Words.f k t544 (([7] : List Int))).bind fun t559 => (some t559)) else (none)) else (none)) else (none)) else (none))) = some r := by first | (rw [hy552]; with_reducible exact H) | (have H2_ := (Option.bind_some _ _).symm.trans H; rw [hy552]; with_reducible exact H2_) | (have H2_ := (Option.bind_some _ _).symm.trans H; with_reducible exact H2_) | with_reducible exact H | (rw [hy552]; exact H) | exact H
      have Ny552 := Aside0.mk hy552
      clear hy552
      replace H := Option.bind_eq_some_iff.mp H
      obtain ⟨t555, A120, H⟩ := H
      replace H : (if t555 = true then (if (t527 == 2 && (t528 == 5 && (t529 == 9 && (t530 == 0)))) = true then (if t537 = 4 then (if t543 = 2 then ((janusref01_Words.f k t544 (([7] : List Int))).bind fun t559 => (some t559)) else (none)) else (none)) else (none)) else (none)) = some r := H
      have A12 := Aside0.mk A120
      clear A120
      by_cases c13 : t555 = true
      ·subst c13
       have H1 : (if (t527 == 2 && (t528 == 5 && (t529 == 9 && (t530 == 0)))) = true then (if t537 = 4 then (if t543 = 2 then ((janusref01_Words.f k t544 (([7] : List Int))).bind fun t559 => (some t559)) else (none)) else (none)) else (none)) = some r := by rw [if_pos rfl] at H; exact H
       clear H
       have H := H1
       clear H1
       by_cases c14 : (t527 == 2 && (t528 == 5 && (t529 == 9 && (t530 == 0)))) = true
       ·rw [if_pos c14] at H
        have c14b0 : (t527 == 2 && (t528 == 5 && (t529 == 9 && (t530 == 0)))) = true := c14
        (try (have c14b1 : decide (t527 = 2 && (t528 == 5 && (t529 == 9 && (t530 == 0)))) = true := by simpa using c14))
        (try (have c14b2 : (t527 == 2 && (t528 == 5 && (t529 == 9 && (t530 == 0)))) = true := by simpa using c14))
        clear c14
        by_cases c15 : t537 = 4
        ·rw [if_pos c15] at H
         have c15b0 : (t537 == 4) = true := beq_iff_eq.mpr c15
         have c15b1 : (t537 != 4) = false := bne_eq_false_iff_eq.mpr c15
         clear c15
         by_cases c16 : t543 = 2
         ·rw [if_pos c16] at H
          have c16b0 : (t543 == 2) = true := beq_iff_eq.mpr c16
          have c16b1 : (t543 != 2) = false := bne_eq_false_iff_eq.mpr c16
          clear c16
          obtain ⟨y556, hy556⟩ : ∃ y_ : List Int, y_ = (([7] : List Int)) := ⟨_, rfl⟩
          replace H : ((janusref01_Words.f k t544 y556).bind fun t559 => (some t559)) = some r := by first | (rw [hy556]; with_reducible exact H) | (have H2_ := (Option.bind_some _ _).symm.trans H; rw [hy556]; with_reducible exact H2_) | (have H2_ := (Option.bind_some _ _).symm.trans H; with_reducible exact H2_) | with_reducible exact H | (rw [hy556]; exact H) | exact H
          have Ny556 := Aside0.mk hy556
          clear hy556
          replace H := Option.bind_eq_some_iff.mp H
          obtain ⟨t559, A170, H⟩ := H
          replace H : (some t559) = some r := H
          have A17 := Aside0.mk A170
          clear A170
          obtain rfl := Option.some.inj H
          go_enter Try.func34, Try.ntmps34
          go_wp2_with (first | ((with_reducible refine gate_callee (f := 35) rfl ?_); refine goesL_ (some 16) rfl rfl Try.func35 (by kernel_rfl) rfl #[.string (⟨#[0, 2, 0, 3, 6, 23, 17]⟩ : ByteArray), .agg #[.int .i64 0, .slice none 0 0], .slice none 0 0, .int .i64 9] rfl (by (try simp only [List.map_toArray, List.map_cons, List.map_nil]); first | done | rfl | (simp only [List.length_drop, List.length_take]; rfl)) ?_; (refine (vm_Run.calls k (⟨#[0, 2, 0, 3, 6, 23, 17]⟩ : ByteArray) 0 _ _ ([] : List Int) _ _ ([] : List Int) 9 t492 t493 t496 t499 t500 t501 t502 t503 _ ?side1 ?side2 ?side3 ?side4 A1.out).mono ?_); (case side1 => exact Kd.C_nil _ _); (case side2 => exact Nat.le_refl _); (case side3 => exact Kd.C_nil _ _); (case side4 => exact Nat.le_refl _); rintro e w18 ⟨v494, v497, rfl, ho0, ho1, hb⟩; refine ⟨_, rfl, ?_⟩; have n0_ := Aside0.mk (Kd.R_lower ho0 (below_size (by repeat (first | (with_reducible first | exact HB.out | apply below_alloc | apply pw_below_drewN | apply below_drew1) | exact HB.out)))); have n1_ := Aside0.mk (Kd.R_lower ho1 (below_size (by repeat (first | (with_reducible first | exact HB.out | apply below_alloc | apply pw_below_drewN | apply below_drew1) | exact HB.out)))); have n2_ := Aside0.mk (below_step (by repeat (first | (with_reducible first | exact HB.out | apply below_alloc | apply pw_below_drewN | apply below_drew1) | exact HB.out)) hb); clear HB; have HO495 := n0_; have HO498 := n1_; have HB := n2_; clear n0_ n1_ n2_; (try clear hb); (try clear hb2); (try clear hk); (try clear hi); (try clear ho0); (try clear ho1)) | ((with_reducible refine gate_dst (N := 1) rfl ?_); (try (refine gate_guard (by rfl) ?_; dsimp only)); refine box_event ?hg (N := 1) ?hd (cs := #[.int .i64 0, .slice none 0 0]) (t := 59) ?hr ?_; (case hd => rfl); (case hg => rfl); (case hr => first | (go_simp; done) | (go_simp; rfl)); intro gb504 hg w19 hbox hb; have n0_ := Aside0.mk (Kd.R_below (by (with_reducible repeat (first | apply Kd.R_alloc | apply Kd.R_drewN | apply Kd.R_drew)); exact HO495.out) hb); have n1_ := Aside0.mk (Kd.R_below (by (with_reducible repeat (first | apply Kd.R_alloc | apply Kd.R_drewN | apply Kd.R_drew)); exact HO498.out) hb); have n2_ := Aside0.mk (below_step (by repeat (first | (with_reducible first | exact HB.out | apply below_alloc | apply pw_below_drewN | apply below_drew1) | exact HB.out)) hb); have n3_ := Aside0.mk (hbox); have n4_ := Aside0.mk ((by rw [hg]; exact (below_size (by repeat (first | (with_reducible first | exact HB.out | apply below_alloc | apply pw_below_drewN | apply below_drew1) | exact HB.out))) : w.heap.size ≤ gb504)); have n5_ := Aside0.mk ((by rw [hg]; exact (below_size (by repeat (first | (with_reducible first | exact HB.out | apply below_alloc | apply pw_below_drewN | apply below_drew1) | exact HB.out))) : w.heap.size ≤ gb504)); clear HO495; clear HO498; clear HB; have HO495 := n0_; have HO498 := n1_; have HB := n2_; have BK504 := n3_; have GW504 := n4_; have GE504 := n5_; clear n0_ n1_ n2_ n3_ n4_ n5_; clear hb hbox hg) | ((with_reducible refine gate_dst (N := 3) rfl ?_); (try (refine gate_guard (by rfl) ?_; dsimp only)); refine box_event ?hg (N := 3) ?hd (cs := #[.int .i64 0, .int .u64 0, .int .u64 0, .int .i64 0]) (t := 61) ?hr ?_; (case hd => rfl); (case hg => rfl); (case hr => first | (go_simp; done) | (go_simp; rfl)); intro gb505 hg w20 hbox hb; have n0_ := Aside0.mk (Kd.R_below (by (with_reducible repeat (first | apply Kd.R_alloc | apply Kd.R_drewN | apply Kd.R_drew)); exact HO495.out) hb); have n1_ := Aside0.mk (Kd.R_below (by (with_reducible repeat (first | apply Kd.R_alloc | apply Kd.R_drewN | apply Kd.R_drew)); exact HO498.out) hb); have n2_ := Aside0.mk (blk_below (g := gb504) (o := .cells #[.int .i64 0, .slice none 0 0] 59 (0, 0)) (by (with_reducible repeat (first | refine blk_drewN ?_ _ | refine blk_drew ?_ | refine blk_alloc ?_ _)); exact BK504.out) hb); have n3_ := Aside0.mk (below_step (by repeat (first | (with_reducible first | exact HB.out | apply below_alloc | apply pw_below_drewN | apply below_drew1 | refine below_set ?_ GE504.out) | exact HB.out)) hb); have n4_ := Aside0.mk (hbox); have n5_ := Aside0.mk ((by rw [hg]; exact (below_size (by repeat (first | (with_reducible first | exact HB.out | apply below_alloc | apply pw_below_drewN | apply below_drew1 | refine below_set ?_ GE504.out) | exact HB.out))) : w.heap.size ≤ gb505)); have n6_ := Aside0.mk ((by rw [hg]; exact (below_size (by repeat (first | (with_reducible first | exact HB.out | apply below_alloc | apply pw_below_drewN | apply below_drew1 | refine below_set ?_ GE504.out) | exact HB.out))) : w.heap.size ≤ gb505)); have n7_ := Aside0.mk ((by rw [hg]; exact Nat.ne_of_lt (blk_lt (g := gb504) (o := .cells #[.int .i64 0, .slice none 0 0] 59 (0, 0)) (by (with_reducible repeat (first | refine blk_drewN ?_ _ | refine blk_drew ?_ | refine blk_alloc ?_ _)); exact BK504.out)) : gb504 ≠ gb505)); have n8_ := Aside0.mk ((by rw [hg]; exact Nat.ne_of_gt (blk_lt (g := gb504) (o := .cells #[.int .i64 0, .slice none 0 0] 59 (0, 0)) (by (with_reducible repeat (first | refine blk_drewN ?_ _ | refine blk_drew ?_ | refine blk_alloc ?_ _)); exact BK504.out)) : gb505 ≠ gb504)); clear HO495; clear HO498; clear BK504; clear HB; have HO495 := n0_; have HO498 := n1_; have BK504 := n2_; have HB := n3_; have BK505 := n4_; have GW505 := n5_; have GE505 := n6_; have NB504_505 := n7_; have NB505_504 := n8_; clear n0_ n1_ n2_ n3_ n4_ n5_ n6_ n7_ n8_; clear hb hbox hg; have hnb21 := NB504_505.out; have hnc21 := NB505_504.out; have hcz22_0 : w20.cell? ⟨gb504, 0, none⟩ = some (.int .i64 0) := (blk_cell BK504.out 0).trans rfl; have hcz22_1 : w20.cell? ⟨gb504, 1, none⟩ = some (.slice none 0 0) := (blk_cell BK504.out 1).trans rfl; have hfz22_0 := blk_frozen BK504.out 0; have hfz22_1 := blk_frozen BK504.out 1; obtain ⟨Ao23, co23, eo23⟩ := Kd.R_slice HO495.out; subst eo23; have hcz24_0 : w20.cell? ⟨gb505, 0, none⟩ = some (.int .i64 0) := (blk_cell BK505.out 0).trans rfl; have hcz24_1 : w20.cell? ⟨gb505, 1, none⟩ = some (.int .u64 0) := (blk_cell BK505.out 1).trans rfl; have hcz24_2 : w20.cell? ⟨gb505, 2, none⟩ = some (.int .u64 0) := (blk_cell BK505.out 2).trans rfl; have hcz24_3 : w20.cell? ⟨gb505, 3, none⟩ = some (.int .i64 0) := (blk_cell BK505.out 3).trans rfl; have hfz24_0 := blk_frozen BK505.out 0; have hfz24_1 := blk_frozen BK505.out 1; have hfz24_2 := blk_frozen BK505.out 2; have hfz24_3 := blk_frozen BK505.out 3) | ((with_reducible refine gate_callee (f := 35) rfl ?_); refine goesL_ (some 23) rfl rfl Try.func35 (by kernel_rfl) rfl #[.string (⟨#[0, 1, 0, 64, 14]⟩ : ByteArray), .agg #[.int .i64 0, .slice none 0 0], .slice none 0 0, .int .i64 3] rfl (by (try simp only [List.map_toArray, List.map_cons, List.map_nil]); first | done | rfl | (simp only [List.length_drop, List.length_take]; rfl)) ?_; (refine (vm_Run.calls k (⟨#[0, 1, 0, 64, 14]⟩ : ByteArray) 0 _ _ ([] : List Int) _ _ ([] : List Int) 3 t506 t507 t510 t513 t514 t515 t516 t517 _ ?side1 ?side2 ?side3 ?side4 A2.out).mono ?_); (case side1 => exact Kd.C_nil _ _); (case side2 => exact Nat.le_refl _); (case side3 => exact Kd.C_nil _ _); (case side4 => exact Nat.le_refl _); rintro e w25 ⟨v508, v511, rfl, ho0, ho1, hb⟩; refine ⟨_, rfl, ?_⟩; have n0_ := Aside0.mk (Kd.R_mono (Kd.R_told (Kd.R_told (Kd.R_old (by (with_reducible repeat (first | apply Kd.R_alloc | apply Kd.R_drewN | apply Kd.R_drew)); exact (Kd.R_mono (Kd.R_mono (Kd.R_far (p := ⟨gb505, 3, none⟩) (Kd.R_far (p := ⟨gb505, 2, none⟩) (Kd.R_far (p := ⟨gb505, 1, none⟩) (Kd.R_far (p := ⟨gb505, 0, none⟩) (Kd.R_far (p := ⟨gb504, 1, none⟩) (Kd.R_far (p := ⟨gb504, 0, none⟩) (Kd.R_types (Kd.R_types HO495.out BK504.out (by decide)) BK505.out (by decide)) (fun _ hk => hk.1.2) (.int .i64 t492)) (fun _ hk => hk.1.2) (.slice Ao23 t493.length co23)) (fun _ hk => hk.2) (.int .i64 t499)) (fun _ hk => hk.2) (.int .u64 t500)) (fun _ hk => hk.2) (.int .u64 t501)) (fun _ hk => hk.2) (.int .i64 t502)) (fun _ h_ => h_.1)) (fun _ h_ => h_.1))) hb) (Kd.R_base ho0)) (Kd.R_base ho1)) (fun _ h_ => h_.1)); have n1_ := Aside0.mk (Kd.R_mono (Kd.R_told (Kd.R_told (Kd.R_old (by (with_reducible repeat (first | apply Kd.R_alloc | apply Kd.R_drewN | apply Kd.R_drew)); exact (Kd.R_mono (Kd.R_mono (Kd.R_far (p := ⟨gb505, 3, none⟩) (Kd.R_far (p := ⟨gb505, 2, none⟩) (Kd.R_far (p := ⟨gb505, 1, none⟩) (Kd.R_far (p := ⟨gb505, 0, none⟩) (Kd.R_far (p := ⟨gb504, 1, none⟩) (Kd.R_far (p := ⟨gb504, 0, none⟩) (Kd.R_types (Kd.R_types HO498.out BK504.out (by decide)) BK505.out (by decide)) (fun _ hk => hk.1.2) (.int .i64 t492)) (fun _ hk => hk.1.2) (.slice Ao23 t493.length co23)) (fun _ hk => hk.2) (.int .i64 t499)) (fun _ hk => hk.2) (.int .u64 t500)) (fun _ hk => hk.2) (.int .u64 t501)) (fun _ hk => hk.2) (.int .i64 t502)) (fun _ h_ => h_.1)) (fun _ h_ => h_.1))) hb) (Kd.R_base ho0)) (Kd.R_base ho1)) (fun _ h_ => h_.1)); have n2_ := Aside0.mk (Kd.R_lower (Kd.R_new' (Kd.R_new' ho0 (Kd.R_lt (by (with_reducible repeat (first | apply Kd.R_alloc | apply Kd.R_drewN | apply Kd.R_drew)); exact (Kd.R_mono (Kd.R_mono (Kd.R_far (p := ⟨gb505, 3, none⟩) (Kd.R_far (p := ⟨gb505, 2, none⟩) (Kd.R_far (p := ⟨gb505, 1, none⟩) (Kd.R_far (p := ⟨gb505, 0, none⟩) (Kd.R_far (p := ⟨gb504, 1, none⟩) (Kd.R_far (p := ⟨gb504, 0, none⟩) (Kd.R_types (Kd.R_types HO495.out BK504.out (by decide)) BK505.out (by decide)) (fun _ hk => hk.1.2) (.int .i64 t492)) (fun _ hk => hk.1.2) (.slice Ao23 t493.length co23)) (fun _ hk => hk.2) (.int .i64 t499)) (fun _ hk => hk.2) (.int .u64 t500)) (fun _ hk => hk.2) (.int .u64 t501)) (fun _ hk => hk.2) (.int .i64 t502)) (fun _ h_ => h_.1)) (fun _ h_ => h_.1))))) (Kd.R_lt (by (with_reducible repeat (first | apply Kd.R_alloc | apply Kd.R_drewN | apply Kd.R_drew)); exact (Kd.R_mono (Kd.R_mono (Kd.R_far (p := ⟨gb505, 3, none⟩) (Kd.R_far (p := ⟨gb505, 2, none⟩) (Kd.R_far (p := ⟨gb505, 1, none⟩) (Kd.R_far (p := ⟨gb505, 0, none⟩) (Kd.R_far (p := ⟨gb504, 1, none⟩) (Kd.R_far (p := ⟨gb504, 0, none⟩) (Kd.R_types (Kd.R_types HO498.out BK504.out (by decide)) BK505.out (by decide)) (fun _ hk => hk.1.2) (.int .i64 t492)) (fun _ hk => hk.1.2) (.slice Ao23 t493.length co23)) (fun _ hk => hk.2) (.int .i64 t499)) (fun _ hk => hk.2) (.int .u64 t500)) (fun _ hk => hk.2) (.int .u64 t501)) (fun _ hk => hk.2) (.int .i64 t502)) (fun _ h_ => h_.1)) (fun _ h_ => h_.1))))) (below_size (by repeat (first | (with_reducible first | exact HB.out | apply below_alloc | apply pw_below_drewN | apply below_drew1 | refine below_set ?_ GE504.out | refine below_set ?_ GE505.out) | exact HB.out)))); have n3_ := Aside0.mk (Kd.R_lower (Kd.R_new' (Kd.R_new' ho1 (Kd.R_lt (by (with_reducible repeat (first | apply Kd.R_alloc | apply Kd.R_drewN | apply Kd.R_drew)); exact (Kd.R_mono (Kd.R_mono (Kd.R_far (p := ⟨gb505, 3, none⟩) (Kd.R_far (p := ⟨gb505, 2, none⟩) (Kd.R_far (p := ⟨gb505, 1, none⟩) (Kd.R_far (p := ⟨gb505, 0, none⟩) (Kd.R_far (p := ⟨gb504, 1, none⟩) (Kd.R_far (p := ⟨gb504, 0, none⟩) (Kd.R_types (Kd.R_types HO495.out BK504.out (by decide)) BK505.out (by decide)) (fun _ hk => hk.1.2) (.int .i64 t492)) (fun _ hk => hk.1.2) (.slice Ao23 t493.length co23)) (fun _ hk => hk.2) (.int .i64 t499)) (fun _ hk => hk.2) (.int .u64 t500)) (fun _ hk => hk.2) (.int .u64 t501)) (fun _ hk => hk.2) (.int .i64 t502)) (fun _ h_ => h_.1)) (fun _ h_ => h_.1))))) (Kd.R_lt (by (with_reducible repeat (first | apply Kd.R_alloc | apply Kd.R_drewN | apply Kd.R_drew)); exact (Kd.R_mono (Kd.R_mono (Kd.R_far (p := ⟨gb505, 3, none⟩) (Kd.R_far (p := ⟨gb505, 2, none⟩) (Kd.R_far (p := ⟨gb505, 1, none⟩) (Kd.R_far (p := ⟨gb505, 0, none⟩) (Kd.R_far (p := ⟨gb504, 1, none⟩) (Kd.R_far (p := ⟨gb504, 0, none⟩) (Kd.R_types (Kd.R_types HO498.out BK504.out (by decide)) BK505.out (by decide)) (fun _ hk => hk.1.2) (.int .i64 t492)) (fun _ hk => hk.1.2) (.slice Ao23 t493.length co23)) (fun _ hk => hk.2) (.int .i64 t499)) (fun _ hk => hk.2) (.int .u64 t500)) (fun _ hk => hk.2) (.int .u64 t501)) (fun _ hk => hk.2) (.int .i64 t502)) (fun _ h_ => h_.1)) (fun _ h_ => h_.1))))) (below_size (by repeat (first | (with_reducible first | exact HB.out | apply below_alloc | apply pw_below_drewN | apply below_drew1 | refine below_set ?_ GE504.out | refine below_set ?_ GE505.out) | exact HB.out)))); have n4_ := Aside0.mk (blk_below (g := gb504) (o := .cells #[.int .i64 t492, .slice Ao23 t493.length co23] 59 (0, 0)) (by (with_reducible repeat (first | refine blk_drewN ?_ _ | refine blk_drew ?_ | refine blk_alloc ?_ _)); refine blk_far ?_ NB504_505.out _; (with_reducible repeat (first | refine blk_drewN ?_ _ | refine blk_drew ?_ | refine blk_alloc ?_ _)); refine blk_far ?_ NB504_505.out _; (with_reducible repeat (first | refine blk_drewN ?_ _ | refine blk_drew ?_ | refine blk_alloc ?_ _)); refine blk_far ?_ NB504_505.out _; (with_reducible repeat (first | refine blk_drewN ?_ _ | refine blk_drew ?_ | refine blk_alloc ?_ _)); refine blk_far ?_ NB504_505.out _; (with_reducible repeat (first | refine blk_drewN ?_ _ | refine blk_drew ?_ | refine blk_alloc ?_ _)); refine blk_put (cs := #[.int .i64 t492, .slice none 0 0]) ?_ 1 _ rfl; (with_reducible repeat (first | refine blk_drewN ?_ _ | refine blk_drew ?_ | refine blk_alloc ?_ _)); refine blk_put (cs := #[.int .i64 0, .slice none 0 0]) ?_ 0 _ rfl; (with_reducible repeat (first | refine blk_drewN ?_ _ | refine blk_drew ?_ | refine blk_alloc ?_ _)); exact BK504.out) hb); have n5_ := Aside0.mk (blk_below (g := gb505) (o := .cells #[.int .i64 t499, .int .u64 t500, .int .u64 t501, .int .i64 t502] 61 (0, 0)) (by (with_reducible repeat (first | refine blk_drewN ?_ _ | refine blk_drew ?_ | refine blk_alloc ?_ _)); refine blk_put (cs := #[.int .i64 t499, .int .u64 t500, .int .u64 t501, .int .i64 0]) ?_ 3 _ rfl; (with_reducible repeat (first | refine blk_drewN ?_ _ | refine blk_drew ?_ | refine blk_alloc ?_ _)); refine blk_put (cs := #[.int .i64 t499, .int .u64 t500, .int .u64 0, .int .i64 0]) ?_ 2 _ rfl; (with_reducible repeat (first | refine blk_drewN ?_ _ | refine blk_drew ?_ | refine blk_alloc ?_ _)); refine blk_put (cs := #[.int .i64 t499, .int .u64 0, .int .u64 0, .int .i64 0]) ?_ 1 _ rfl; (with_reducible repeat (first | refine blk_drewN ?_ _ | refine blk_drew ?_ | refine blk_alloc ?_ _)); refine blk_put (cs := #[.int .i64 0, .int .u64 0, .int .u64 0, .int .i64 0]) ?_ 0 _ rfl; (with_reducible repeat (first | refine blk_drewN ?_ _ | refine blk_drew ?_ | refine blk_alloc ?_ _)); refine blk_far ?_ NB505_504.out _; (with_reducible repeat (first | refine blk_drewN ?_ _ | refine blk_drew ?_ | refine blk_alloc ?_ _)); refine blk_far ?_ NB505_504.out _; (with_reducible repeat (first | refine blk_drewN ?_ _ | refine blk_drew ?_ | refine blk_alloc ?_ _)); exact BK505.out) hb); have n6_ := Aside0.mk (below_step (by repeat (first | (with_reducible first | exact HB.out | apply below_alloc | apply pw_below_drewN | apply below_drew1 | refine below_set ?_ GE504.out | refine below_set ?_ GE505.out) | exact HB.out)) hb); clear HO495; clear HO498; clear BK504; clear BK505; clear HB; have HO495 := n0_; have HO498 := n1_; have HO509 := n2_; have HO512 := n3_; have BK504 := n4_; have BK505 := n5_; have HB := n6_; clear n0_ n1_ n2_ n3_ n4_ n5_ n6_; (try clear hb); (try clear hb2); (try clear hk); (try clear hi); (try clear ho0); (try clear ho1)) | ((with_reducible refine gate_dst (N := 5) rfl ?_); (try (refine gate_guard (by rfl) ?_; dsimp only)); refine box_event ?hg (N := 5) ?hd (cs := #[.int .i64 0, .slice none 0 0]) (t := 59) ?hr ?_; (case hd => rfl); (case hg => rfl); (case hr => first | (go_simp; done) | (go_simp; rfl)); intro gb518 hg w26 hbox hb; have n0_ := Aside0.mk (Kd.R_below (by (with_reducible repeat (first | apply Kd.R_alloc | apply Kd.R_drewN | apply Kd.R_drew)); exact HO495.out) hb); have n1_ := Aside0.mk (Kd.R_below (by (with_reducible repeat (first | apply Kd.R_alloc | apply Kd.R_drewN | apply Kd.R_drew)); exact HO498.out) hb); have n2_ := Aside0.mk (Kd.R_below (by (with_reducible repeat (first | apply Kd.R_alloc | apply Kd.R_drewN | apply Kd.R_drew)); exact HO509.out) hb); have n3_ := Aside0.mk (Kd.R_below (by (with_reducible repeat (first | apply Kd.R_alloc | apply Kd.R_drewN | apply Kd.R_drew)); exact HO512.out) hb); have n4_ := Aside0.mk (blk_below (g := gb504) (o := .cells #[.int .i64 t492, .slice Ao23 t493.length co23] 59 (0, 0)) (by (with_reducible repeat (first | refine blk_drewN ?_ _ | refine blk_drew ?_ | refine blk_alloc ?_ _)); exact BK504.out) hb); have n5_ := Aside0.mk (blk_below (g := gb505) (o := .cells #[.int .i64 t499, .int .u64 t500, .int .u64 t501, .int .i64 t502] 61 (0, 0)) (by (with_reducible repeat (first | refine blk_drewN ?_ _ | refine blk_drew ?_ | refine blk_alloc ?_ _)); exact BK505.out) hb); have n6_ := Aside0.mk (below_step (by repeat (first | (with_reducible first | exact HB.out | apply below_alloc | apply pw_below_drewN | apply below_drew1 | refine below_set ?_ GE504.out | refine below_set ?_ GE505.out) | exact HB.out)) hb); have n7_ := Aside0.mk (hbox); have n8_ := Aside0.mk ((by rw [hg]; exact (below_size (by repeat (first | (with_reducible first | exact HB.out | apply below_alloc | apply pw_below_drewN | apply below_drew1 | refine below_set ?_ GE504.out | refine below_set ?_ GE505.out) | exact HB.out))) : w.heap.size ≤ gb518)); have n9_ := Aside0.mk ((by rw [hg]; exact (below_size (by repeat (first | (with_reducible first | exact HB.out | apply below_alloc | apply pw_below_drewN | apply below_drew1 | refine below_set ?_ GE504.out | refine below_set ?_ GE505.out) | exact HB.out))) : w.heap.size ≤ gb518)); have n10_ := Aside0.mk ((by rw [hg]; exact Nat.ne_of_lt (blk_lt (g := gb504) (o := .cells #[.int .i64 t492, .slice Ao23 t493.length co23] 59 (0, 0)) (by (with_reducible repeat (first | refine blk_drewN ?_ _ | refine blk_drew ?_ | refine blk_alloc ?_ _)); exact BK504.out)) : gb504 ≠ gb518)); have n11_ := Aside0.mk ((by rw [hg]; exact Nat.ne_of_gt (blk_lt (g := gb504) (o := .cells #[.int .i64 t492, .slice Ao23 t493.length co23] 59 (0, 0)) (by (with_reducible repeat (first | refine blk_drewN ?_ _ | refine blk_drew ?_ | refine blk_alloc ?_ _)); exact BK504.out)) : gb518 ≠ gb504)); have n12_ := Aside0.mk ((by rw [hg]; exact Nat.ne_of_lt (blk_lt (g := gb505) (o := .cells #[.int .i64 t499, .int .u64 t500, .int .u64 t501, .int .i64 t502] 61 (0, 0)) (by (with_reducible repeat (first | refine blk_drewN ?_ _ | refine blk_drew ?_ | refine blk_alloc ?_ _)); exact BK505.out)) : gb505 ≠ gb518)); have n13_ := Aside0.mk ((by rw [hg]; exact Nat.ne_of_gt (blk_lt (g := gb505) (o := .cells #[.int .i64 t499, .int .u64 t500, .int .u64 t501, .int .i64 t502] 61 (0, 0)) (by (with_reducible repeat (first | refine blk_drewN ?_ _ | refine blk_drew ?_ | refine blk_alloc ?_ _)); exact BK505.out)) : gb518 ≠ gb505)); clear HO495; clear HO498; clear HO509; clear HO512; clear BK504; clear BK505; clear HB; have HO495 := n0_; have HO498 := n1_; have HO509 := n2_; have HO512 := n3_; have BK504 := n4_; have BK505 := n5_; have HB := n6_; have BK518 := n7_; have GW518 := n8_; have GE518 := n9_; have NB504_518 := n10_; have NB518_504 := n11_; have NB505_518 := n12_; have NB518_505 := n13_; clear n0_ n1_ n2_ n3_ n4_ n5_ n6_ n7_ n8_ n9_ n10_ n11_ n12_ n13_; clear hb hbox hg) | ((with_reducible refine gate_dst (N := 7) rfl ?_); (try (refine gate_guard (by rfl) ?_; dsimp only)); refine box_event ?hg (N := 7) ?hd (cs := #[.int .i64 0, .int .u64 0, .int .u64 0, .int .i64 0]) (t := 61) ?hr ?_; (case hd => rfl); (case hg => rfl); (case hr => first | (go_simp; done) | (go_simp; rfl)); intro gb519 hg w27 hbox hb; have n0_ := Aside0.mk (Kd.R_below (by (with_reducible repeat (first | apply Kd.R_alloc | apply Kd.R_drewN | apply Kd.R_drew)); exact HO495.out) hb); have n1_ := Aside0.mk (Kd.R_below (by (with_reducible repeat (first | apply Kd.R_alloc | apply Kd.R_drewN | apply Kd.R_drew)); exact HO498.out) hb); have n2_ := Aside0.mk (Kd.R_below (by (with_reducible repeat (first | apply Kd.R_alloc | apply Kd.R_drewN | apply Kd.R_drew)); exact HO509.out) hb); have n3_ := Aside0.mk (Kd.R_below (by (with_reducible repeat (first | apply Kd.R_alloc | apply Kd.R_drewN | apply Kd.R_drew)); exact HO512.out) hb); have n4_ := Aside0.mk (blk_below (g := gb504) (o := .cells #[.int .i64 t492, .slice Ao23 t493.length co23] 59 (0, 0)) (by (with_reducible repeat (first | refine blk_drewN ?_ _ | refine blk_drew ?_ | refine blk_alloc ?_ _)); exact BK504.out) hb); have n5_ := Aside0.mk (blk_below (g := gb505) (o := .cells #[.int .i64 t499, .int .u64 t500, .int .u64 t501, .int .i64 t502] 61 (0, 0)) (by (with_reducible repeat (first | refine blk_drewN ?_ _ | refine blk_drew ?_ | refine blk_alloc ?_ _)); exact BK505.out) hb); have n6_ := Aside0.mk (blk_below (g := gb518) (o := .cells #[.int .i64 0, .slice none 0 0] 59 (0, 0)) (by (with_reducible repeat (first | refine blk_drewN ?_ _ | refine blk_drew ?_ | refine blk_alloc ?_ _)); exact BK518.out) hb); have n7_ := Aside0.mk (below_step (by repeat (first | (with_reducible first | exact HB.out | apply below_alloc | apply pw_below_drewN | apply below_drew1 | refine below_set ?_ GE504.out | refine below_set ?_ GE505.out | refine below_set ?_ GE518.out) | exact HB.out)) hb); have n8_ := Aside0.mk (hbox); have n9_ := Aside0.mk ((by rw [hg]; exact (below_size (by repeat (first | (with_reducible first | exact HB.out | apply below_alloc | apply pw_below_drewN | apply below_drew1 | refine below_set ?_ GE504.out | refine below_set ?_ GE505.out | refine below_set ?_ GE518.out) | exact HB.out))) : w.heap.size ≤ gb519)); have n10_ := Aside0.mk ((by rw [hg]; exact (below_size (by repeat (first | (with_reducible first | exact HB.out | apply below_alloc | apply pw_below_drewN | apply below_drew1 | refine below_set ?_ GE504.out | refine below_set ?_ GE505.out | refine below_set ?_ GE518.out) | exact HB.out))) : w.heap.size ≤ gb519)); have n11_ := Aside0.mk ((by rw [hg]; exact Nat.ne_of_lt (blk_lt (g := gb504) (o := .cells #[.int .i64 t492, .slice Ao23 t493.length co23] 59 (0, 0)) (by (with_reducible repeat (first | refine blk_drewN ?_ _ | refine blk_drew ?_ | refine blk_alloc ?_ _)); exact BK504.out)) : gb504 ≠ gb519)); have n12_ := Aside0.mk ((by rw [hg]; exact Nat.ne_of_gt (blk_lt (g := gb504) (o := .cells #[.int .i64 t492, .slice Ao23 t493.length co23] 59 (0, 0)) (by (with_reducible repeat (first | refine blk_drewN ?_ _ | refine blk_drew ?_ | refine blk_alloc ?_ _)); exact BK504.out)) : gb519 ≠ gb504)); have n13_ := Aside0.mk ((by rw [hg]; exact Nat.ne_of_lt (blk_lt (g := gb505) (o := .cells #[.int .i64 t499, .int .u64 t500, .int .u64 t501, .int .i64 t502] 61 (0, 0)) (by (with_reducible repeat (first | refine blk_drewN ?_ _ | refine blk_drew ?_ | refine blk_alloc ?_ _)); exact BK505.out)) : gb505 ≠ gb519)); have n14_ := Aside0.mk ((by rw [hg]; exact Nat.ne_of_gt (blk_lt (g := gb505) (o := .cells #[.int .i64 t499, .int .u64 t500, .int .u64 t501, .int .i64 t502] 61 (0, 0)) (by (with_reducible repeat (first | refine blk_drewN ?_ _ | refine blk_drew ?_ | refine blk_alloc ?_ _)); exact BK505.out)) : gb519 ≠ gb505)); have n15_ := Aside0.mk ((by rw [hg]; exact Nat.ne_of_lt (blk_lt (g := gb518) (o := .cells #[.int .i64 0, .slice none 0 0] 59 (0, 0)) (by (with_reducible repeat (first | refine blk_drewN ?_ _ | refine blk_drew ?_ | refine blk_alloc ?_ _)); exact BK518.out)) : gb518 ≠ gb519)); have n16_ := Aside0.mk ((by rw [hg]; exact Nat.ne_of_gt (blk_lt (g := gb518) (o := .cells #[.int .i64 0, .slice none 0 0] 59 (0, 0)) (by (with_reducible repeat (first | refine blk_drewN ?_ _ | refine blk_drew ?_ | refine blk_alloc ?_ _)); exact BK518.out)) : gb519 ≠ gb518)); clear HO495; clear HO498; clear HO509; clear HO512; clear BK504; clear BK505; clear BK518; clear HB; have HO495 := n0_; have HO498 := n1_; have HO509 := n2_; have HO512 := n3_; have BK504 := n4_; have BK505 := n5_; have BK518 := n6_; have HB := n7_; have BK519 := n8_; have GW519 := n9_; have GE519 := n10_; have NB504_519 := n11_; have NB519_504 := n12_; have NB505_519 := n13_; have NB519_505 := n14_; have NB518_519 := n15_; have NB519_518 := n16_; clear n0_ n1_ n2_ n3_ n4_ n5_ n6_ n7_ n8_ n9_ n10_ n11_ n12_ n13_ n14_ n15_ n16_; clear hb hbox hg; have hnb28 := NB518_504.out; have hnc28 := NB504_518.out; have hnb29 := NB518_505.out; have hnc29 := NB505_518.out; have hnb30 := NB518_519.out; have hnc30 := NB519_518.out; have hcz31_0 : w27.cell? ⟨gb518, 0, none⟩ = some (.int .i64 0) := (blk_cell BK518.out 0).trans rfl; have hcz31_1 : w27.cell? ⟨gb518, 1, none⟩ = some (.slice none 0 0) := (blk_cell BK518.out 1).trans rfl; have hfz31_0 := blk_frozen BK518.out 0; have hfz31_1 := blk_frozen BK518.out 1; obtain ⟨Ao32, co32, eo32⟩ := Kd.R_slice HO509.out; subst eo32; have hnb33 := NB519_504.out; have hnc33 := NB504_519.out; have hnb34 := NB519_505.out; have hnc34 := NB505_519.out; have hcz35_0 : w27.cell? ⟨gb519, 0, none⟩ = some (.int .i64 0) := (blk_cell BK519.out 0).trans rfl; have hcz35_1 : w27.cell? ⟨gb519, 1, none⟩ = some (.int .u64 0) := (blk_cell BK519.out 1).trans rfl; have hcz35_2 : w27.cell? ⟨gb519, 2, none⟩ = some (.int .u64 0) := (blk_cell BK519.out 2).trans rfl; have hcz35_3 : w27.cell? ⟨gb519, 3, none⟩ = some (.int .i64 0) := (blk_cell BK519.out 3).trans rfl; have hfz35_0 := blk_frozen BK519.out 0; have hfz35_1 := blk_frozen BK519.out 1; have hfz35_2 := blk_frozen BK519.out 2; have hfz35_3 := blk_frozen BK519.out 3) | ((with_reducible refine gate_dst (N := 29) rfl ?_); (try (refine gate_guard (by rfl) ?_; dsimp only)); refine Kd.R_lit (Kd.int .u64) _ 34 ?hg (N := 29) ?hd (xs := ([9, 5] : List Int)) (inner := [.int .u64 9, .int .u64 5]) (ok := fun _ => True) (okp := fun _ => True) ?hr ?hp (fun _ hk => hk) trivial (Below.refl _ _) (Nat.le_refl _) (by simp) ?_; (case hd => rfl); (case hg => rfl); (case hr => first | (go_simp; done) | (go_simp; rfl)); (case hp => exact (Reps.one (show Kd.M (Kd.int .u64) _ _ _ 9 [.int .u64 9] from rfl) (Reps.one (show Kd.M (Kd.int .u64) _ _ _ 5 [.int .u64 5] from rfl) (Reps.none _ _)))); intro v521 w36 ho37 hb hg_ hnew_; clear hg_ hnew_; (first | rw [← Ny520.out] at ho37 | (simp only [Int.reduceToNat] at ho37; rw [← Ny520.out] at ho37)); have n0_ := Aside0.mk (Kd.R_elder' (by (with_reducible repeat (first | apply Kd.R_alloc | apply Kd.R_drewN | apply Kd.R_drew)); exact (Kd.R_mono (Kd.R_mono (Kd.R_far (p := ⟨gb519, 3, none⟩) (Kd.R_far (p := ⟨gb519, 2, none⟩) (Kd.R_far (p := ⟨gb519, 1, none⟩) (Kd.R_far (p := ⟨gb519, 0, none⟩) (Kd.R_far (p := ⟨gb518, 1, none⟩) (Kd.R_far (p := ⟨gb518, 0, none⟩) (Kd.R_types (Kd.R_types HO495.out BK518.out (by decide)) BK519.out (by decide)) (fun _ hk => hk.1.2) (.int .i64 t506)) (fun _ hk => hk.1.2) (.slice Ao32 t507.length co32)) (fun _ hk => hk.2) (.int .i64 t513)) (fun _ hk => hk.2) (.int .u64 t514)) (fun _ hk => hk.2) (.int .u64 t515)) (fun _ hk => hk.2) (.int .i64 t516)) (fun _ h_ => h_.1)) (fun _ h_ => h_.1))) (Kd.R_base ho37) hb); have n1_ := Aside0.mk (Kd.R_elder' (by (with_reducible repeat (first | apply Kd.R_alloc | apply Kd.R_drewN | apply Kd.R_drew)); exact (Kd.R_mono (Kd.R_mono (Kd.R_far (p := ⟨gb519, 3, none⟩) (Kd.R_far (p := ⟨gb519, 2, none⟩) (Kd.R_far (p := ⟨gb519, 1, none⟩) (Kd.R_far (p := ⟨gb519, 0, none⟩) (Kd.R_far (p := ⟨gb518, 1, none⟩) (Kd.R_far (p := ⟨gb518, 0, none⟩) (Kd.R_types (Kd.R_types HO498.out BK518.out (by decide)) BK519.out (by decide)) (fun _ hk => hk.1.2) (.int .i64 t506)) (fun _ hk => hk.1.2) (.slice Ao32 t507.length co32)) (fun _ hk => hk.2) (.int .i64 t513)) (fun _ hk => hk.2) (.int .u64 t514)) (fun _ hk => hk.2) (.int .u64 t515)) (fun _ hk => hk.2) (.int .i64 t516)) (fun _ h_ => h_.1)) (fun _ h_ => h_.1))) (Kd.R_base ho37) hb); have n2_ := Aside0.mk (Kd.R_elder' (by (with_reducible repeat (first | apply Kd.R_alloc | apply Kd.R_drewN | apply Kd.R_drew)); exact (Kd.R_mono (Kd.R_mono (Kd.R_far (p := ⟨gb519, 3, none⟩) (Kd.R_far (p := ⟨gb519, 2, none⟩) (Kd.R_far (p := ⟨gb519, 1, none⟩) (Kd.R_far (p := ⟨gb519, 0, none⟩) (Kd.R_far (p := ⟨gb518, 1, none⟩) (Kd.R_far (p := ⟨gb518, 0, none⟩) (Kd.R_types (Kd.R_types HO509.out BK518.out (by decide)) BK519.out (by decide)) (fun _ hk => hk.1.2) (.int .i64 t506)) (fun _ hk => hk.1.2) (.slice Ao32 t507.length co32)) (fun _ hk => hk.2) (.int .i64 t513)) (fun _ hk => hk.2) (.int .u64 t514)) (fun _ hk => hk.2) (.int .u64 t515)) (fun _ hk => hk.2) (.int .i64 t516)) (fun _ h_ => h_.1)) (fun _ h_ => h_.1))) (Kd.R_base ho37) hb); have n3_ := Aside0.mk (Kd.R_elder' (by (with_reducible repeat (first | apply Kd.R_alloc | apply Kd.R_drewN | apply Kd.R_drew)); exact (Kd.R_mono (Kd.R_mono (Kd.R_far (p := ⟨gb519, 3, none⟩) (Kd.R_far (p := ⟨gb519, 2, none⟩) (Kd.R_far (p := ⟨gb519, 1, none⟩) (Kd.R_far (p := ⟨gb519, 0, none⟩) (Kd.R_far (p := ⟨gb518, 1, none⟩) (Kd.R_far (p := ⟨gb518, 0, none⟩) (Kd.R_types (Kd.R_types HO512.out BK518.out (by decide)) BK519.out (by decide)) (fun _ hk => hk.1.2) (.int .i64 t506)) (fun _ hk => hk.1.2) (.slice Ao32 t507.length co32)) (fun _ hk => hk.2) (.int .i64 t513)) (fun _ hk => hk.2) (.int .u64 t514)) (fun _ hk => hk.2) (.int .u64 t515)) (fun _ hk => hk.2) (.int .i64 t516)) (fun _ h_ => h_.1)) (fun _ h_ => h_.1))) (Kd.R_base ho37) hb); have n4_ := Aside0.mk (Kd.R_lower (Kd.R_new' (Kd.R_new' (Kd.R_new' (Kd.R_new' ho37 (Kd.R_lt (by (with_reducible repeat (first | apply Kd.R_alloc | apply Kd.R_drewN | apply Kd.R_drew)); exact (Kd.R_mono (Kd.R_mono (Kd.R_far (p := ⟨gb519, 3, none⟩) (Kd.R_far (p := ⟨gb519, 2, none⟩) (Kd.R_far (p := ⟨gb519, 1, none⟩) (Kd.R_far (p := ⟨gb519, 0, none⟩) (Kd.R_far (p := ⟨gb518, 1, none⟩) (Kd.R_far (p := ⟨gb518, 0, none⟩) (Kd.R_types (Kd.R_types HO495.out BK518.out (by decide)) BK519.out (by decide)) (fun _ hk => hk.1.2) (.int .i64 t506)) (fun _ hk => hk.1.2) (.slice Ao32 t507.length co32)) (fun _ hk => hk.2) (.int .i64 t513)) (fun _ hk => hk.2) (.int .u64 t514)) (fun _ hk => hk.2) (.int .u64 t515)) (fun _ hk => hk.2) (.int .i64 t516)) (fun _ h_ => h_.1)) (fun _ h_ => h_.1))))) (Kd.R_lt (by (with_reducible repeat (first | apply Kd.R_alloc | apply Kd.R_drewN | apply Kd.R_drew)); exact (Kd.R_mono (Kd.R_mono (Kd.R_far (p := ⟨gb519, 3, none⟩) (Kd.R_far (p := ⟨gb519, 2, none⟩) (Kd.R_far (p := ⟨gb519, 1, none⟩) (Kd.R_far (p := ⟨gb519, 0, none⟩) (Kd.R_far (p := ⟨gb518, 1, none⟩) (Kd.R_far (p := ⟨gb518, 0, none⟩) (Kd.R_types (Kd.R_types HO498.out BK518.out (by decide)) BK519.out (by decide)) (fun _ hk => hk.1.2) (.int .i64 t506)) (fun _ hk => hk.1.2) (.slice Ao32 t507.length co32)) (fun _ hk => hk.2) (.int .i64 t513)) (fun _ hk => hk.2) (.int .u64 t514)) (fun _ hk => hk.2) (.int .u64 t515)) (fun _ hk => hk.2) (.int .i64 t516)) (fun _ h_ => h_.1)) (fun _ h_ => h_.1))))) (Kd.R_lt (by (with_reducible repeat (first | apply Kd.R_alloc | apply Kd.R_drewN | apply Kd.R_drew)); exact (Kd.R_mono (Kd.R_mono (Kd.R_far (p := ⟨gb519, 3, none⟩) (Kd.R_far (p := ⟨gb519, 2, none⟩) (Kd.R_far (p := ⟨gb519, 1, none⟩) (Kd.R_far (p := ⟨gb519, 0, none⟩) (Kd.R_far (p := ⟨gb518, 1, none⟩) (Kd.R_far (p := ⟨gb518, 0, none⟩) (Kd.R_types (Kd.R_types HO509.out BK518.out (by decide)) BK519.out (by decide)) (fun _ hk => hk.1.2) (.int .i64 t506)) (fun _ hk => hk.1.2) (.slice Ao32 t507.length co32)) (fun _ hk => hk.2) (.int .i64 t513)) (fun _ hk => hk.2) (.int .u64 t514)) (fun _ hk => hk.2) (.int .u64 t515)) (fun _ hk => hk.2) (.int .i64 t516)) (fun _ h_ => h_.1)) (fun _ h_ => h_.1))))) (Kd.R_lt (by (with_reducible repeat (first | apply Kd.R_alloc | apply Kd.R_drewN | apply Kd.R_drew)); exact (Kd.R_mono (Kd.R_mono (Kd.R_far (p := ⟨gb519, 3, none⟩) (Kd.R_far (p := ⟨gb519, 2, none⟩) (Kd.R_far (p := ⟨gb519, 1, none⟩) (Kd.R_far (p := ⟨gb519, 0, none⟩) (Kd.R_far (p := ⟨gb518, 1, none⟩) (Kd.R_far (p := ⟨gb518, 0, none⟩) (Kd.R_types (Kd.R_types HO512.out BK518.out (by decide)) BK519.out (by decide)) (fun _ hk => hk.1.2) (.int .i64 t506)) (fun _ hk => hk.1.2) (.slice Ao32 t507.length co32)) (fun _ hk => hk.2) (.int .i64 t513)) (fun _ hk => hk.2) (.int .u64 t514)) (fun _ hk => hk.2) (.int .u64 t515)) (fun _ hk => hk.2) (.int .i64 t516)) (fun _ h_ => h_.1)) (fun _ h_ => h_.1))))) (below_size (by repeat (first | (with_reducible first | exact HB.out | apply below_alloc | apply pw_below_drewN | apply below_drew1 | refine below_set ?_ GE504.out | refine below_set ?_ GE505.out | refine below_set ?_ GE518.out | refine below_set ?_ GE519.out) | exact HB.out)))); have n5_ := Aside0.mk (blk_below (g := gb504) (o := .cells #[.int .i64 t492, .slice Ao23 t493.length co23] 59 (0, 0)) (by (with_reducible repeat (first | refine blk_drewN ?_ _ | refine blk_drew ?_ | refine blk_alloc ?_ _)); refine blk_far ?_ NB504_519.out _; (with_reducible repeat (first | refine blk_drewN ?_ _ | refine blk_drew ?_ | refine blk_alloc ?_ _)); refine blk_far ?_ NB504_519.out _; (with_reducible repeat (first | refine blk_drewN ?_ _ | refine blk_drew ?_ | refine blk_alloc ?_ _)); refine blk_far ?_ NB504_519.out _; (with_reducible repeat (first | refine blk_drewN ?_ _ | refine blk_drew ?_ | refine blk_alloc ?_ _)); refine blk_far ?_ NB504_519.out _; (with_reducible repeat (first | refine blk_drewN ?_ _ | refine blk_drew ?_ | refine blk_alloc ?_ _)); refine blk_far ?_ NB504_518.out _; (with_reducible repeat (first | refine blk_drewN ?_ _ | refine blk_drew ?_ | refine blk_alloc ?_ _)); refine blk_far ?_ NB504_518.out _; (with_reducible repeat (first | refine blk_drewN ?_ _ | refine blk_drew ?_ | refine blk_alloc ?_ _)); exact BK504.out) hb); have n6_ := Aside0.mk (blk_below (g := gb505) (o := .cells #[.int .i64 t499, .int .u64 t500, .int .u64 t501, .int .i64 t502] 61 (0, 0)) (by (with_reducible repeat (first | refine blk_drewN ?_ _ | refine blk_drew ?_ | refine blk_alloc ?_ _)); refine blk_far ?_ NB505_519.out _; (with_reducible repeat (first | refine blk_drewN ?_ _ | refine blk_drew ?_ | refine blk_alloc ?_ _)); refine blk_far ?_ NB505_519.out _; (with_reducible repeat (first | refine blk_drewN ?_ _ | refine blk_drew ?_ | refine blk_alloc ?_ _)); refine blk_far ?_ NB505_519.out _; (with_reducible repeat (first | refine blk_drewN ?_ _ | refine blk_drew ?_ | refine blk_alloc ?_ _)); refine blk_far ?_ NB505_519.out _; (with_reducible repeat (first | refine blk_drewN ?_ _ | refine blk_drew ?_ | refine blk_alloc ?_ _)); refine blk_far ?_ NB505_518.out _; (with_reducible repeat (first | refine blk_drewN ?_ _ | refine blk_drew ?_ | refine blk_alloc ?_ _)); refine blk_far ?_ NB505_518.out _; (with_reducible repeat (first | refine blk_drewN ?_ _ | refine blk_drew ?_ | refine blk_alloc ?_ _)); exact BK505.out) hb); have n7_ := Aside0.mk (blk_below (g := gb518) (o := .cells #[.int .i64 t506, .slice Ao32 t507.length co32] 59 (0, 0)) (by (with_reducible repeat (first | refine blk_drewN ?_ _ | refine blk_drew ?_ | refine blk_alloc ?_ _)); refine blk_far ?_ NB518_519.out _; (with_reducible repeat (first | refine blk_drewN ?_ _ | refine blk_drew ?_ | refine blk_alloc ?_ _)); refine blk_far ?_ NB518_519.out _; (with_reducible repeat (first | refine blk_drewN ?_ _ | refine blk_drew ?_ | refine blk_alloc ?_ _)); refine blk_far ?_ NB518_519.out _; (with_reducible repeat (first | refine blk_drewN ?_ _ | refine blk_drew ?_ | refine blk_alloc ?_ _)); refine blk_far ?_ NB518_519.out _; (with_reducible repeat (first | refine blk_drewN ?_ _ | refine blk_drew ?_ | refine blk_alloc ?_ _)); refine blk_put (cs := #[.int .i64 t506, .slice none 0 0]) ?_ 1 _ rfl; (with_reducible repeat (first | refine blk_drewN ?_ _ | refine blk_drew ?_ | refine blk_alloc ?_ _)); refine blk_put (cs := #[.int .i64 0, .slice none 0 0]) ?_ 0 _ rfl; (with_reducible repeat (first | refine blk_drewN ?_ _ | refine blk_drew ?_ | refine blk_alloc ?_ _)); exact BK518.out) hb); have n8_ := Aside0.mk (blk_below (g := gb519) (o := .cells #[.int .i64 t513, .int .u64 t514, .int .u64 t515, .int .i64 t516] 61 (0, 0)) (by (with_reducible repeat (first | refine blk_drewN ?_ _ | refine blk_drew ?_ | refine blk_alloc ?_ _)); refine blk_put (cs := #[.int .i64 t513, .int .u64 t514, .int .u64 t515, .int .i64 0]) ?_ 3 _ rfl; (with_reducible repeat (first | refine blk_drewN ?_ _ | refine blk_drew ?_ | refine blk_alloc ?_ _)); refine blk_put (cs := #[.int .i64 t513, .int .u64 t514, .int .u64 0, .int .i64 0]) ?_ 2 _ rfl; (with_reducible repeat (first | refine blk_drewN ?_ _ | refine blk_drew ?_ | refine blk_alloc ?_ _)); refine blk_put (cs := #[.int .i64 t513, .int .u64 0, .int .u64 0, .int .i64 0]) ?_ 1 _ rfl; (with_reducible repeat (first | refine blk_drewN ?_ _ | refine blk_drew ?_ | refine blk_alloc ?_ _)); refine blk_put (cs := #[.int .i64 0, .int .u64 0, .int .u64 0, .int .i64 0]) ?_ 0 _ rfl; (with_reducible repeat (first | refine blk_drewN ?_ _ | refine blk_drew ?_ | refine blk_alloc ?_ _)); refine blk_far ?_ NB519_518.out _; (with_reducible repeat (first | refine blk_drewN ?_ _ | refine blk_drew ?_ | refine blk_alloc ?_ _)); refine blk_far ?_ NB519_518.out _; (with_reducible repeat (first | refine blk_drewN ?_ _ | refine blk_drew ?_ | refine blk_alloc ?_ _)); exact BK519.out) hb); have n9_ := Aside0.mk (below_step (by repeat (first | (with_reducible first | exact HB.out | apply below_alloc | apply pw_below_drewN | apply below_drew1 | refine below_set ?_ GE504.out | refine below_set ?_ GE505.out | refine below_set ?_ GE518.out | refine below_set ?_ GE519.out) | exact HB.out)) hb); clear HO495; clear HO498; clear HO509; clear HO512; clear BK504; clear BK505; clear BK518; clear BK519; clear HB; have HO495 := n0_; have HO498 := n1_; have HO509 := n2_; have HO512 := n3_; have HO522 := n4_; have BK504 := n5_; have BK505 := n6_; have BK518 := n7_; have BK519 := n8_; have HB := n9_; clear n0_ n1_ n2_ n3_ n4_ n5_ n6_ n7_ n8_ n9_; clear hb ho37; obtain ⟨Ao38, co38, eo38⟩ := Kd.R_slice HO522.out; subst eo38) | ((with_reducible refine gate_callee (f := 45) rfl ?_); refine goesL_ (some 31) rfl rfl Try.func45 (by kernel_rfl) rfl #[.string (⟨#[20]⟩ : ByteArray), .agg #[.int .i64 0, .slice Ao38 y520.length co38]] rfl (by (try simp only [List.map_toArray, List.map_cons, List.map_nil]); first | done | rfl | (simp only [List.length_drop, List.length_take]; rfl)) ?_; (with_reducible refine (vm_Step.calls k (⟨#[20]⟩ : ByteArray) 0 _ _ y520 t523 t524 t527 t528 t529 t530 _ ?side1 ?side2 A3.out).mono ?_); (case side1 => repeat (first | exact (Kd.R_reads' HO522.out).2.2 | (with_reducible refine Kd.C_alloc ?_ _) | (with_reducible refine Kd.C_drewN ?_ _) | (with_reducible refine Kd.C_drew ?_))); (case side2 => exact (Kd.R_reads' HO522.out).2.1); rintro e w39 ⟨v525, rfl, ho0, hb⟩; refine ⟨_, rfl, ?_⟩; have n0_ := Aside0.mk (Kd.R_elder' (by (with_reducible repeat (first | apply Kd.R_alloc | apply Kd.R_drewN | apply Kd.R_drew)); exact HO495.out) (Kd.R_base ho0) hb); have n1_ := Aside0.mk (Kd.R_elder' (by (with_reducible repeat (first | apply Kd.R_alloc | apply Kd.R_drewN | apply Kd.R_drew)); exact HO498.out) (Kd.R_base ho0) hb); have n2_ := Aside0.mk (Kd.R_elder' (by (with_reducible repeat (first | apply Kd.R_alloc | apply Kd.R_drewN | apply Kd.R_drew)); exact HO509.out) (Kd.R_base ho0) hb); have n3_ := Aside0.mk (Kd.R_elder' (by (with_reducible repeat (first | apply Kd.R_alloc | apply Kd.R_drewN | apply Kd.R_drew)); exact HO512.out) (Kd.R_base ho0) hb); have n4_ := Aside0.mk (Kd.R_elder' (by (with_reducible repeat (first | apply Kd.R_alloc | apply Kd.R_drewN | apply Kd.R_drew)); exact HO522.out) (Kd.R_base ho0) hb); have n5_ := Aside0.mk (Kd.R_lower (Kd.R_new' (Kd.R_new' (Kd.R_new' (Kd.R_new' (Kd.R_new' ho0 (Kd.R_lt (by (with_reducible repeat (first | apply Kd.R_alloc | apply Kd.R_drewN | apply Kd.R_drew)); exact HO495.out))) (Kd.R_lt (by (with_reducible repeat (first | apply Kd.R_alloc | apply Kd.R_drewN | apply Kd.R_drew)); exact HO498.out))) (Kd.R_lt (by (with_reducible repeat (first | apply Kd.R_alloc | apply Kd.R_drewN | apply Kd.R_drew)); exact HO509.out))) (Kd.R_lt (by (with_reducible repeat (first | apply Kd.R_alloc | apply Kd.R_drewN | apply Kd.R_drew)); exact HO512.out))) (Kd.R_lt (by (with_reducible repeat (first | apply Kd.R_alloc | apply Kd.R_drewN | apply Kd.R_drew)); exact HO522.out))) (below_size (by repeat (first | (with_reducible first | exact HB.out | apply below_alloc | apply pw_below_drewN | apply below_drew1 | refine below_set ?_ GE504.out | refine below_set ?_ GE505.out | refine below_set ?_ GE518.out | refine below_set ?_ GE519.out) | exact HB.out)))); have n6_ := Aside0.mk (blk_below (g := gb504) (o := .cells #[.int .i64 t492, .slice Ao23 t493.length co23] 59 (0, 0)) (by (with_reducible repeat (first | refine blk_drewN ?_ _ | refine blk_drew ?_ | refine blk_alloc ?_ _)); exact BK504.out) hb); have n7_ := Aside0.mk (blk_below (g := gb505) (o := .cells #[.int .i64 t499, .int .u64 t500, .int .u64 t501, .int .i64 t502] 61 (0, 0)) (by (with_reducible repeat (first | refine blk_drewN ?_ _ | refine blk_drew ?_ | refine blk_alloc ?_ _)); exact BK505.out) hb); have n8_ := Aside0.mk (blk_below (g := gb518) (o := .cells #[.int .i64 t506, .slice Ao32 t507.length co32] 59 (0, 0)) (by (with_reducible repeat (first | refine blk_drewN ?_ _ | refine blk_drew ?_ | refine blk_alloc ?_ _)); exact BK518.out) hb); have n9_ := Aside0.mk (blk_below (g := gb519) (o := .cells #[.int .i64 t513, .int .u64 t514, .int .u64 t515, .int .i64 t516] 61 (0, 0)) (by (with_reducible repeat (first | refine blk_drewN ?_ _ | refine blk_drew ?_ | refine blk_alloc ?_ _)); exact BK519.out) hb); have n10_ := Aside0.mk (below_step (by repeat (first | (with_reducible first | exact HB.out | apply below_alloc | apply pw_below_drewN | apply below_drew1 | refine below_set ?_ GE504.out | refine below_set ?_ GE505.out | refine below_set ?_ GE518.out | refine below_set ?_ GE519.out) | exact HB.out)) hb); clear HO495; clear HO498; clear HO509; clear HO512; clear HO522; clear BK504; clear BK505; clear BK518; clear BK519; clear HB; have HO495 := n0_; have HO498 := n1_; have HO509 := n2_; have HO512 := n3_; have HO522 := n4_; have HO526 := n5_; have BK504 := n6_; have BK505 := n7_; have BK518 := n8_; have BK519 := n9_; have HB := n10_; clear n0_ n1_ n2_ n3_ n4_ n5_ n6_ n7_ n8_ n9_ n10_; (try clear hb); (try clear hb2); (try clear hk); (try clear hi); (try clear ho0)) | ((with_reducible refine gate_dst (N := 9) rfl ?_); (try (refine gate_guard (by rfl) ?_; dsimp only)); refine box_event ?hg (N := 9) ?hd (cs := #[.int .i64 0, .slice none 0 0]) (t := 59) ?hr ?_; (case hd => rfl); (case hg => rfl); (case hr => first | (go_simp; done) | (go_simp; rfl)); intro gb531 hg w40 hbox hb; have n0_ := Aside0.mk (Kd.R_below (by (with_reducible repeat (first | apply Kd.R_alloc | apply Kd.R_drewN | apply Kd.R_drew)); exact HO495.out) hb); have n1_ := Aside0.mk (Kd.R_below (by (with_reducible repeat (first | apply Kd.R_alloc | apply Kd.R_drewN | apply Kd.R_drew)); exact HO498.out) hb); have n2_ := Aside0.mk (Kd.R_below (by (with_reducible repeat (first | apply Kd.R_alloc | apply Kd.R_drewN | apply Kd.R_drew)); exact HO509.out) hb); have n3_ := Aside0.mk (Kd.R_below (by (with_reducible repeat (first | apply Kd.R_alloc | apply Kd.R_drewN | apply Kd.R_drew)); exact HO512.out) hb); have n4_ := Aside0.mk (Kd.R_below (by (with_reducible repeat (first | apply Kd.R_alloc | apply Kd.R_drewN | apply Kd.R_drew)); exact HO522.out) hb); have n5_ := Aside0.mk (Kd.R_below (by (with_reducible repeat (first | apply Kd.R_alloc | apply Kd.R_drewN | apply Kd.R_drew)); exact HO526.out) hb); have n6_ := Aside0.mk (blk_below (g := gb504) (o := .cells #[.int .i64 t492, .slice Ao23 t493.length co23] 59 (0, 0)) (by (with_reducible repeat (first | refine blk_drewN ?_ _ | refine blk_drew ?_ | refine blk_alloc ?_ _)); exact BK504.out) hb); have n7_ := Aside0.mk (blk_below (g := gb505) (o := .cells #[.int .i64 t499, .int .u64 t500, .int .u64 t501, .int .i64 t502] 61 (0, 0)) (by (with_reducible repeat (first | refine blk_drewN ?_ _ | refine blk_drew ?_ | refine blk_alloc ?_ _)); exact BK505.out) hb); have n8_ := Aside0.mk (blk_below (g := gb518) (o := .cells #[.int .i64 t506, .slice Ao32 t507.length co32] 59 (0, 0)) (by (with_reducible repeat (first | refine blk_drewN ?_ _ | refine blk_drew ?_ | refine blk_alloc ?_ _)); exact BK518.out) hb); have n9_ := Aside0.mk (blk_below (g := gb519) (o := .cells #[.int .i64 t513, .int .u64 t514, .int .u64 t515, .int .i64 t516] 61 (0, 0)) (by (with_reducible repeat (first | refine blk_drewN ?_ _ | refine blk_drew ?_ | refine blk_alloc ?_ _)); exact BK519.out) hb); have n10_ := Aside0.mk (below_step (by repeat (first | (with_reducible first | exact HB.out | apply below_alloc | apply pw_below_drewN | apply below_drew1 | refine below_set ?_ GE504.out | refine below_set ?_ GE505.out | refine below_set ?_ GE518.out | refine below_set ?_ GE519.out) | exact HB.out)) hb); have n11_ := Aside0.mk (hbox); have n12_ := Aside0.mk ((by rw [hg]; exact (below_size (by repeat (first | (with_reducible first | exact HB.out | apply below_alloc | apply pw_below_drewN | apply below_drew1 | refine below_set ?_ GE504.out | refine below_set ?_ GE505.out | refine below_set ?_ GE518.out | refine below_set ?_ GE519.out) | exact HB.out))) : w.heap.size ≤ gb531)); have n13_ := Aside0.mk ((by rw [hg]; exact (below_size (by repeat (first | (with_reducible first | exact HB.out | apply below_alloc | apply pw_below_drewN | apply below_drew1 | refine below_set ?_ GE504.out | refine below_set ?_ GE505.out | refine below_set ?_ GE518.out | refine below_set ?_ GE519.out) | exact HB.out))) : w.heap.size ≤ gb531)); have n14_ := Aside0.mk ((by rw [hg]; exact Nat.ne_of_lt (blk_lt (g := gb504) (o := .cells #[.int .i64 t492, .slice Ao23 t493.length co23] 59 (0, 0)) (by (with_reducible repeat (first | refine blk_drewN ?_ _ | refine blk_drew ?_ | refine blk_alloc ?_ _)); exact BK504.out)) : gb504 ≠ gb531)); have n15_ := Aside0.mk ((by rw [hg]; exact Nat.ne_of_gt (blk_lt (g := gb504) (o := .cells #[.int .i64 t492, .slice Ao23 t493.length co23] 59 (0, 0)) (by (with_reducible repeat (first | refine blk_drewN ?_ _ | refine blk_drew ?_ | refine blk_alloc ?_ _)); exact BK504.out)) : gb531 ≠ gb504)); have n16_ := Aside0.mk ((by rw [hg]; exact Nat.ne_of_lt (blk_lt (g := gb505) (o := .cells #[.int .i64 t499, .int .u64 t500, .int .u64 t501, .int .i64 t502] 61 (0, 0)) (by (with_reducible repeat (first | refine blk_drewN ?_ _ | refine blk_drew ?_ | refine blk_alloc ?_ _)); exact BK505.out)) : gb505 ≠ gb531)); have n17_ := Aside0.mk ((by rw [hg]; exact Nat.ne_of_gt (blk_lt (g := gb505) (o := .cells #[.int .i64 t499, .int .u64 t500, .int .u64 t501, .int .i64 t502] 61 (0, 0)) (by (with_reducible repeat (first | refine blk_drewN ?_ _ | refine blk_drew ?_ | refine blk_alloc ?_ _)); exact BK505.out)) : gb531 ≠ gb505)); have n18_ := Aside0.mk ((by rw [hg]; exact Nat.ne_of_lt (blk_lt (g := gb518) (o := .cells #[.int .i64 t506, .slice Ao32 t507.length co32] 59 (0, 0)) (by (with_reducible repeat (first | refine blk_drewN ?_ _ | refine blk_drew ?_ | refine blk_alloc ?_ _)); exact BK518.out)) : gb518 ≠ gb531)); have n19_ := Aside0.mk ((by rw [hg]; exact Nat.ne_of_gt (blk_lt (g := gb518) (o := .cells #[.int .i64 t506, .slice Ao32 t507.length co32] 59 (0, 0)) (by (with_reducible repeat (first | refine blk_drewN ?_ _ | refine blk_drew ?_ | refine blk_alloc ?_ _)); exact BK518.out)) : gb531 ≠ gb518)); have n20_ := Aside0.mk ((by rw [hg]; exact Nat.ne_of_lt (blk_lt (g := gb519) (o := .cells #[.int .i64 t513, .int .u64 t514, .int .u64 t515, .int .i64 t516] 61 (0, 0)) (by (with_reducible repeat (first | refine blk_drewN ?_ _ | refine blk_drew ?_ | refine blk_alloc ?_ _)); exact BK519.out)) : gb519 ≠ gb531)); have n21_ := Aside0.mk ((by rw [hg]; exact Nat.ne_of_gt (blk_lt (g := gb519) (o := .cells #[.int .i64 t513, .int .u64 t514, .int .u64 t515, .int .i64 t516] 61 (0, 0)) (by (with_reducible repeat (first | refine blk_drewN ?_ _ | refine blk_drew ?_ | refine blk_alloc ?_ _)); exact BK519.out)) : gb531 ≠ gb519)); clear HO495; clear HO498; clear HO509; clear HO512; clear HO522; clear HO526; clear BK504; clear BK505; clear BK518; clear BK519; clear HB; have HO495 := n0_; have HO498 := n1_; have HO509 := n2_; have HO512 := n3_; have HO522 := n4_; have HO526 := n5_; have BK504 := n6_; have BK505 := n7_; have BK518 := n8_; have BK519 := n9_; have HB := n10_; have BK531 := n11_; have GW531 := n12_; have GE531 := n13_; have NB504_531 := n14_; have NB531_504 := n15_; have NB505_531 := n16_; have NB531_505 := n17_; have NB518_531 := n18_; have NB531_518 := n19_; have NB519_531 := n20_; have NB531_519 := n21_; clear n0_ n1_ n2_ n3_ n4_ n5_ n6_ n7_ n8_ n9_ n10_ n11_ n12_ n13_ n14_ n15_ n16_ n17_ n18_ n19_ n20_ n21_; clear hb hbox hg) | ((with_reducible refine gate_dst (N := 10) rfl ?_); (try (refine gate_guard (by rfl) ?_; dsimp only)); refine box_event ?hg (N := 10) ?hd (cs := #[.int .i64 0, .int .u64 0, .int .u64 0, .int .i64 0]) (t := 61) ?hr ?_; (case hd => rfl); (case hg => rfl); (case hr => first | (go_simp; done) | (go_simp; rfl)); intro gb532 hg w41 hbox hb; have n0_ := Aside0.mk (Kd.R_below (by (with_reducible repeat (first | apply Kd.R_alloc | apply Kd.R_drewN | apply Kd.R_drew)); exact HO495.out) hb); have n1_ := Aside0.mk (Kd.R_below (by (with_reducible repeat (first | apply Kd.R_alloc | apply Kd.R_drewN | apply Kd.R_drew)); exact HO498.out) hb); have n2_ := Aside0.mk (Kd.R_below (by (with_reducible repeat (first | apply Kd.R_alloc | apply Kd.R_drewN | apply Kd.R_drew)); exact HO509.out) hb); have n3_ := Aside0.mk (Kd.R_below (by (with_reducible repeat (first | apply Kd.R_alloc | apply Kd.R_drewN | apply Kd.R_drew)); exact HO512.out) hb); have n4_ := Aside0.mk (Kd.R_below (by (with_reducible repeat (first | apply Kd.R_alloc | apply Kd.R_drewN | apply Kd.R_drew)); exact HO522.out) hb); have n5_ := Aside0.mk (Kd.R_below (by (with_reducible repeat (first | apply Kd.R_alloc | apply Kd.R_drewN | apply Kd.R_drew)); exact HO526.out) hb); have n6_ := Aside0.mk (blk_below (g := gb504) (o := .cells #[.int .i64 t492, .slice Ao23 t493.length co23] 59 (0, 0)) (by (with_reducible repeat (first | refine blk_drewN ?_ _ | refine blk_drew ?_ | refine blk_alloc ?_ _)); exact BK504.out) hb); have n7_ := Aside0.mk (blk_below (g := gb505) (o := .cells #[.int .i64 t499, .int .u64 t500, .int .u64 t501, .int .i64 t502] 61 (0, 0)) (by (with_reducible repeat (first | refine blk_drewN ?_ _ | refine blk_drew ?_ | refine blk_alloc ?_ _)); exact BK505.out) hb); have n8_ := Aside0.mk (blk_below (g := gb518) (o := .cells #[.int .i64 t506, .slice Ao32 t507.length co32] 59 (0, 0)) (by (with_reducible repeat (first | refine blk_drewN ?_ _ | refine blk_drew ?_ | refine blk_alloc ?_ _)); exact BK518.out) hb); have n9_ := Aside0.mk (blk_below (g := gb519) (o := .cells #[.int .i64 t513, .int .u64 t514, .int .u64 t515, .int .i64 t516] 61 (0, 0)) (by (with_reducible repeat (first | refine blk_drewN ?_ _ | refine blk_drew ?_ | refine blk_alloc ?_ _)); exact BK519.out) hb); have n10_ := Aside0.mk (blk_below (g := gb531) (o := .cells #[.int .i64 0, .slice none 0 0] 59 (0, 0)) (by (with_reducible repeat (first | refine blk_drewN ?_ _ | refine blk_drew ?_ | refine blk_alloc ?_ _)); exact BK531.out) hb); have n11_ := Aside0.mk (below_step (by repeat (first | (with_reducible first | exact HB.out | apply below_alloc | apply pw_below_drewN | apply below_drew1 | refine below_set ?_ GE504.out | refine below_set ?_ GE505.out | refine below_set ?_ GE518.out | refine below_set ?_ GE519.out | refine below_set ?_ GE531.out) | exact HB.out)) hb); have n12_ := Aside0.mk (hbox); have n13_ := Aside0.mk ((by rw [hg]; exact (below_size (by repeat (first | (with_reducible first | exact HB.out | apply below_alloc | apply pw_below_drewN | apply below_drew1 | refine below_set ?_ GE504.out | refine below_set ?_ GE505.out | refine below_set ?_ GE518.out | refine below_set ?_ GE519.out | refine below_set ?_ GE531.out) | exact HB.out))) : w.heap.size ≤ gb532)); have n14_ := Aside0.mk ((by rw [hg]; exact (below_size (by repeat (first | (with_reducible first | exact HB.out | apply below_alloc | apply pw_below_drewN | apply below_drew1 | refine below_set ?_ GE504.out | refine below_set ?_ GE505.out | refine below_set ?_ GE518.out | refine below_set ?_ GE519.out | refine below_set ?_ GE531.out) | exact HB.out))) : w.heap.size ≤ gb532)); have n15_ := Aside0.mk ((by rw [hg]; exact Nat.ne_of_lt (blk_lt (g := gb504) (o := .cells #[.int .i64 t492, .slice Ao23 t493.length co23] 59 (0, 0)) (by (with_reducible repeat (first | refine blk_drewN ?_ _ | refine blk_drew ?_ | refine blk_alloc ?_ _)); exact BK504.out)) : gb504 ≠ gb532)); have n16_ := Aside0.mk ((by rw [hg]; exact Nat.ne_of_gt (blk_lt (g := gb504) (o := .cells #[.int .i64 t492, .slice Ao23 t493.length co23] 59 (0, 0)) (by (with_reducible repeat (first | refine blk_drewN ?_ _ | refine blk_drew ?_ | refine blk_alloc ?_ _)); exact BK504.out)) : gb532 ≠ gb504)); have n17_ := Aside0.mk ((by rw [hg]; exact Nat.ne_of_lt (blk_lt (g := gb505) (o := .cells #[.int .i64 t499, .int .u64 t500, .int .u64 t501, .int .i64 t502] 61 (0, 0)) (by (with_reducible repeat (first | refine blk_drewN ?_ _ | refine blk_drew ?_ | refine blk_alloc ?_ _)); exact BK505.out)) : gb505 ≠ gb532)); have n18_ := Aside0.mk ((by rw [hg]; exact Nat.ne_of_gt (blk_lt (g := gb505) (o := .cells #[.int .i64 t499, .int .u64 t500, .int .u64 t501, .int .i64 t502] 61 (0, 0)) (by (with_reducible repeat (first | refine blk_drewN ?_ _ | refine blk_drew ?_ | refine blk_alloc ?_ _)); exact BK505.out)) : gb532 ≠ gb505)); have n19_ := Aside0.mk ((by rw [hg]; exact Nat.ne_of_lt (blk_lt (g := gb518) (o := .cells #[.int .i64 t506, .slice Ao32 t507.length co32] 59 (0, 0)) (by (with_reducible repeat (first | refine blk_drewN ?_ _ | refine blk_drew ?_ | refine blk_alloc ?_ _)); exact BK518.out)) : gb518 ≠ gb532)); have n20_ := Aside0.mk ((by rw [hg]; exact Nat.ne_of_gt (blk_lt (g := gb518) (o := .cells #[.int .i64 t506, .slice Ao32 t507.length co32] 59 (0, 0)) (by (with_reducible repeat (first | refine blk_drewN ?_ _ | refine blk_drew ?_ | refine blk_alloc ?_ _)); exact BK518.out)) : gb532 ≠ gb518)); have n21_ := Aside0.mk ((by rw [hg]; exact Nat.ne_of_lt (blk_lt (g := gb519) (o := .cells #[.int .i64 t513, .int .u64 t514, .int .u64 t515, .int .i64 t516] 61 (0, 0)) (by (with_reducible repeat (first | refine blk_drewN ?_ _ | refine blk_drew ?_ | refine blk_alloc ?_ _)); exact BK519.out)) : gb519 ≠ gb532)); have n22_ := Aside0.mk ((by rw [hg]; exact Nat.ne_of_gt (blk_lt (g := gb519) (o := .cells #[.int .i64 t513, .int .u64 t514, .int .u64 t515, .int .i64 t516] 61 (0, 0)) (by (with_reducible repeat (first | refine blk_drewN ?_ _ | refine blk_drew ?_ | refine blk_alloc ?_ _)); exact BK519.out)) : gb532 ≠ gb519)); have n23_ := Aside0.mk ((by rw [hg]; exact Nat.ne_of_lt (blk_lt (g := gb531) (o := .cells #[.int .i64 0, .slice none 0 0] 59 (0, 0)) (by (with_reducible repeat (first | refine blk_drewN ?_ _ | refine blk_drew ?_ | refine blk_alloc ?_ _)); exact BK531.out)) : gb531 ≠ gb532)); have n24_ := Aside0.mk ((by rw [hg]; exact Nat.ne_of_gt (blk_lt (g := gb531) (o := .cells #[.int .i64 0, .slice none 0 0] 59 (0, 0)) (by (with_reducible repeat (first | refine blk_drewN ?_ _ | refine blk_drew ?_ | refine blk_alloc ?_ _)); exact BK531.out)) : gb532 ≠ gb531)); clear HO495; clear HO498; clear HO509; clear HO512; clear HO522; clear HO526; clear BK504; clear BK505; clear BK518; clear BK519; clear BK531; clear HB; have HO495 := n0_; have HO498 := n1_; have HO509 := n2_; have HO512 := n3_; have HO522 := n4_; have HO526 := n5_; have BK504 := n6_; have BK505 := n7_; have BK518 := n8_; have BK519 := n9_; have BK531 := n10_; have HB := n11_; have BK532 := n12_; have GW532 := n13_; have GE532 := n14_; have NB504_532 := n15_; have NB532_504 := n16_; have NB505_532 := n17_; have NB532_505 := n18_; have NB518_532 := n19_; have NB532_518 := n20_; have NB519_532 := n21_; have NB532_519 := n22_; have NB531_532 := n23_; have NB532_531 := n24_; clear n0_ n1_ n2_ n3_ n4_ n5_ n6_ n7_ n8_ n9_ n10_ n11_ n12_ n13_ n14_ n15_ n16_ n17_ n18_ n19_ n20_ n21_ n22_ n23_ n24_; clear hb hbox hg; have hnb42 := NB531_504.out; have hnc42 := NB504_531.out; have hnb43 := NB531_505.out; have hnc43 := NB505_531.out; have hnb44 := NB531_518.out; have hnc44 := NB518_531.out; have hnb45 := NB531_519.out; have hnc45 := NB519_531.out; have hnb46 := NB531_532.out; have hnc46 := NB532_531.out; have hcz47_0 : w41.cell? ⟨gb531, 0, none⟩ = some (.int .i64 0) := (blk_cell BK531.out 0).trans rfl; have hcz47_1 : w41.cell? ⟨gb531, 1, none⟩ = some (.slice none 0 0) := (blk_cell BK531.out 1).trans rfl; have hfz47_0 := blk_frozen BK531.out 0; have hfz47_1 := blk_frozen BK531.out 1; obtain ⟨Ao48, co48, eo48⟩ := Kd.R_slice HO526.out; subst eo48; have hnb49 := NB532_504.out; have hnc49 := NB504_532.out; have hnb50 := NB532_505.out; have hnc50 := NB505_532.out; have hnb51 := NB532_518.out; have hnc51 := NB518_532.out; have hnb52 := NB532_519.out; have hnc52 := NB519_532.out; have hcz53_0 : w41.cell? ⟨gb532, 0, none⟩ = some (.int .i64 0) := (blk_cell BK532.out 0).trans rfl; have hcz53_1 : w41.cell? ⟨gb532, 1, none⟩ = some (.int .u64 0) := (blk_cell BK532.out 1).trans rfl; have hcz53_2 : w41.cell? ⟨gb532, 2, none⟩ = some (.int .u64 0) := (blk_cell BK532.out 2).trans rfl; have hcz53_3 : w41.cell? ⟨gb532, 3, none⟩ = some (.int .i64 0) := (blk_cell BK532.out 3).trans rfl; have hfz53_0 := blk_frozen BK532.out 0; have hfz53_1 := blk_frozen BK532.out 1; have hfz53_2 := blk_frozen BK532.out 2; have hfz53_3 := blk_frozen BK532.out 3) | ((with_reducible refine gate_callee (f := 45) rfl ?_); refine goesL_ (some 36) rfl rfl Try.func45 (by kernel_rfl) rfl #[.string (⟨#[3]⟩ : ByteArray), .agg #[.int .i64 0, .slice none 0 0]] rfl (by (try simp only [List.map_toArray, List.map_cons, List.map_nil]); first | done | rfl | (simp only [List.length_drop, List.length_take]; rfl)) ?_; (refine (vm_Step.calls k (⟨#[3]⟩ : ByteArray) 0 _ _ ([] : List Int) t533 t534 t537 t538 t539 t540 _ ?side1 ?side2 A4.out).mono ?_); (case side1 => exact Kd.C_nil _ _); (case side2 => exact Nat.le_refl _); rintro e w54 ⟨v535, rfl, ho0, hb⟩; refine ⟨_, rfl, ?_⟩; have n0_ := Aside0.mk (Kd.R_elder' (by (with_reducible repeat (first | apply Kd.R_alloc | apply Kd.R_drewN | apply Kd.R_drew)); exact (Kd.R_mono (Kd.R_mono (Kd.R_far (p := ⟨gb532, 3, none⟩) (Kd.R_far (p := ⟨gb532, 2, none⟩) (Kd.R_far (p := ⟨gb532, 1, none⟩) (Kd.R_far (p := ⟨gb532, 0, none⟩) (Kd.R_far (p := ⟨gb531, 1, none⟩) (Kd.R_far (p := ⟨gb531, 0, none⟩) (Kd.R_types (Kd.R_types HO495.out BK531.out (by decide)) BK532.out (by decide)) (fun _ hk => hk.1.2) (.int .i64 t523)) (fun _ hk => hk.1.2) (.slice Ao48 t524.length co48)) (fun _ hk => hk.2) (.int .i64 t527)) (fun _ hk => hk.2) (.int .u64 t528)) (fun _ hk => hk.2) (.int .u64 t529)) (fun _ hk => hk.2) (.int .i64 t530)) (fun _ h_ => h_.1)) (fun _ h_ => h_.1))) (Kd.R_base ho0) hb); have n1_ := Aside0.mk (Kd.R_elder' (by (with_reducible repeat (first | apply Kd.R_alloc | apply Kd.R_drewN | apply Kd.R_drew)); exact (Kd.R_mono (Kd.R_mono (Kd.R_far (p := ⟨gb532, 3, none⟩) (Kd.R_far (p := ⟨gb532, 2, none⟩) (Kd.R_far (p := ⟨gb532, 1, none⟩) (Kd.R_far (p := ⟨gb532, 0, none⟩) (Kd.R_far (p := ⟨gb531, 1, none⟩) (Kd.R_far (p := ⟨gb531, 0, none⟩) (Kd.R_types (Kd.R_types HO498.out BK531.out (by decide)) BK532.out (by decide)) (fun _ hk => hk.1.2) (.int .i64 t523)) (fun _ hk => hk.1.2) (.slice Ao48 t524.length co48)) (fun _ hk => hk.2) (.int .i64 t527)) (fun _ hk => hk.2) (.int .u64 t528)) (fun _ hk => hk.2) (.int .u64 t529)) (fun _ hk => hk.2) (.int .i64 t530)) (fun _ h_ => h_.1)) (fun _ h_ => h_.1))) (Kd.R_base ho0) hb); have n2_ := Aside0.mk (Kd.R_elder' (by (with_reducible repeat (first | apply Kd.R_alloc | apply Kd.R_drewN | apply Kd.R_drew)); exact (Kd.R_mono (Kd.R_mono (Kd.R_far (p := ⟨gb532, 3, none⟩) (Kd.R_far (p := ⟨gb532, 2, none⟩) (Kd.R_far (p := ⟨gb532, 1, none⟩) (Kd.R_far (p := ⟨gb532, 0, none⟩) (Kd.R_far (p := ⟨gb531, 1, none⟩) (Kd.R_far (p := ⟨gb531, 0, none⟩) (Kd.R_types (Kd.R_types HO509.out BK531.out (by decide)) BK532.out (by decide)) (fun _ hk => hk.1.2) (.int .i64 t523)) (fun _ hk => hk.1.2) (.slice Ao48 t524.length co48)) (fun _ hk => hk.2) (.int .i64 t527)) (fun _ hk => hk.2) (.int .u64 t528)) (fun _ hk => hk.2) (.int .u64 t529)) (fun _ hk => hk.2) (.int .i64 t530)) (fun _ h_ => h_.1)) (fun _ h_ => h_.1))) (Kd.R_base ho0) hb); have n3_ := Aside0.mk (Kd.R_elder' (by (with_reducible repeat (first | apply Kd.R_alloc | apply Kd.R_drewN | apply Kd.R_drew)); exact (Kd.R_mono (Kd.R_mono (Kd.R_far (p := ⟨gb532, 3, none⟩) (Kd.R_far (p := ⟨gb532, 2, none⟩) (Kd.R_far (p := ⟨gb532, 1, none⟩) (Kd.R_far (p := ⟨gb532, 0, none⟩) (Kd.R_far (p := ⟨gb531, 1, none⟩) (Kd.R_far (p := ⟨gb531, 0, none⟩) (Kd.R_types (Kd.R_types HO512.out BK531.out (by decide)) BK532.out (by decide)) (fun _ hk => hk.1.2) (.int .i64 t523)) (fun _ hk => hk.1.2) (.slice Ao48 t524.length co48)) (fun _ hk => hk.2) (.int .i64 t527)) (fun _ hk => hk.2) (.int .u64 t528)) (fun _ hk => hk.2) (.int .u64 t529)) (fun _ hk => hk.2) (.int .i64 t530)) (fun _ h_ => h_.1)) (fun _ h_ => h_.1))) (Kd.R_base ho0) hb); have n4_ := Aside0.mk (Kd.R_elder' (by (with_reducible repeat (first | apply Kd.R_alloc | apply Kd.R_drewN | apply Kd.R_drew)); exact (Kd.R_mono (Kd.R_mono (Kd.R_far (p := ⟨gb532, 3, none⟩) (Kd.R_far (p := ⟨gb532, 2, none⟩) (Kd.R_far (p := ⟨gb532, 1, none⟩) (Kd.R_far (p := ⟨gb532, 0, none⟩) (Kd.R_far (p := ⟨gb531, 1, none⟩) (Kd.R_far (p := ⟨gb531, 0, none⟩) (Kd.R_types (Kd.R_types HO522.out BK531.out (by decide)) BK532.out (by decide)) (fun _ hk => hk.1.2) (.int .i64 t523)) (fun _ hk => hk.1.2) (.slice Ao48 t524.length co48)) (fun _ hk => hk.2) (.int .i64 t527)) (fun _ hk => hk.2) (.int .u64 t528)) (fun _ hk => hk.2) (.int .u64 t529)) (fun _ hk => hk.2) (.int .i64 t530)) (fun _ h_ => h_.1)) (fun _ h_ => h_.1))) (Kd.R_base ho0) hb); have n5_ := Aside0.mk (Kd.R_elder' (by (with_reducible repeat (first | apply Kd.R_alloc | apply Kd.R_drewN | apply Kd.R_drew)); exact (Kd.R_mono (Kd.R_mono (Kd.R_far (p := ⟨gb532, 3, none⟩) (Kd.R_far (p := ⟨gb532, 2, none⟩) (Kd.R_far (p := ⟨gb532, 1, none⟩) (Kd.R_far (p := ⟨gb532, 0, none⟩) (Kd.R_far (p := ⟨gb531, 1, none⟩) (Kd.R_far (p := ⟨gb531, 0, none⟩) (Kd.R_types (Kd.R_types HO526.out BK531.out (by decide)) BK532.out (by decide)) (fun _ hk => hk.1.2) (.int .i64 t523)) (fun _ hk => hk.1.2) (.slice Ao48 t524.length co48)) (fun _ hk => hk.2) (.int .i64 t527)) (fun _ hk => hk.2) (.int .u64 t528)) (fun _ hk => hk.2) (.int .u64 t529)) (fun _ hk => hk.2) (.int .i64 t530)) (fun _ h_ => h_.1)) (fun _ h_ => h_.1))) (Kd.R_base ho0) hb); have n6_ := Aside0.mk (Kd.R_lower (Kd.R_new' (Kd.R_new' (Kd.R_new' (Kd.R_new' (Kd.R_new' (Kd.R_new' ho0 (Kd.R_lt (by (with_reducible repeat (first | apply Kd.R_alloc | apply Kd.R_drewN | apply Kd.R_drew)); exact (Kd.R_mono (Kd.R_mono (Kd.R_far (p := ⟨gb532, 3, none⟩) (Kd.R_far (p := ⟨gb532, 2, none⟩) (Kd.R_far (p := ⟨gb532, 1, none⟩) (Kd.R_far (p := ⟨gb532, 0, none⟩) (Kd.R_far (p := ⟨gb531, 1, none⟩) (Kd.R_far (p := ⟨gb531, 0, none⟩) (Kd.R_types (Kd.R_types HO495.out BK531.out (by decide)) BK532.out (by decide)) (fun _ hk => hk.1.2) (.int .i64 t523)) (fun _ hk => hk.1.2) (.slice Ao48 t524.length co48)) (fun _ hk => hk.2) (.int .i64 t527)) (fun _ hk => hk.2) (.int .u64 t528)) (fun _ hk => hk.2) (.int .u64 t529)) (fun _ hk => hk.2) (.int .i64 t530)) (fun _ h_ => h_.1)) (fun _ h_ => h_.1))))) (Kd.R_lt (by (with_reducible repeat (first | apply Kd.R_alloc | apply Kd.R_drewN | apply Kd.R_drew)); exact (Kd.R_mono (Kd.R_mono (Kd.R_far (p := ⟨gb532, 3, none⟩) (Kd.R_far (p := ⟨gb532, 2, none⟩) (Kd.R_far (p := ⟨gb532, 1, none⟩) (Kd.R_far (p := ⟨gb532, 0, none⟩) (Kd.R_far (p := ⟨gb531, 1, none⟩) (Kd.R_far (p := ⟨gb531, 0, none⟩) (Kd.R_types (Kd.R_types HO498.out BK531.out (by decide)) BK532.out (by decide)) (fun _ hk => hk.1.2) (.int .i64 t523)) (fun _ hk => hk.1.2) (.slice Ao48 t524.length co48)) (fun _ hk => hk.2) (.int .i64 t527)) (fun _ hk => hk.2) (.int .u64 t528)) (fun _ hk => hk.2) (.int .u64 t529)) (fun _ hk => hk.2) (.int .i64 t530)) (fun _ h_ => h_.1)) (fun _ h_ => h_.1))))) (Kd.R_lt (by (with_reducible repeat (first | apply Kd.R_alloc | apply Kd.R_drewN | apply Kd.R_drew)); exact (Kd.R_mono (Kd.R_mono (Kd.R_far (p := ⟨gb532, 3, none⟩) (Kd.R_far (p := ⟨gb532, 2, none⟩) (Kd.R_far (p := ⟨gb532, 1, none⟩) (Kd.R_far (p := ⟨gb532, 0, none⟩) (Kd.R_far (p := ⟨gb531, 1, none⟩) (Kd.R_far (p := ⟨gb531, 0, none⟩) (Kd.R_types (Kd.R_types HO509.out BK531.out (by decide)) BK532.out (by decide)) (fun _ hk => hk.1.2) (.int .i64 t523)) (fun _ hk => hk.1.2) (.slice Ao48 t524.length co48)) (fun _ hk => hk.2) (.int .i64 t527)) (fun _ hk => hk.2) (.int .u64 t528)) (fun _ hk => hk.2) (.int .u64 t529)) (fun _ hk => hk.2) (.int .i64 t530)) (fun _ h_ => h_.1)) (fun _ h_ => h_.1))))) (Kd.R_lt (by (with_reducible repeat (first | apply Kd.R_alloc | apply Kd.R_drewN | apply Kd.R_drew)); exact (Kd.R_mono (Kd.R_mono (Kd.R_far (p := ⟨gb532, 3, none⟩) (Kd.R_far (p := ⟨gb532, 2, none⟩) (Kd.R_far (p := ⟨gb532, 1, none⟩) (Kd.R_far (p := ⟨gb532, 0, none⟩) (Kd.R_far (p := ⟨gb531, 1, none⟩) (Kd.R_far (p := ⟨gb531, 0, none⟩) (Kd.R_types (Kd.R_types HO512.out BK531.out (by decide)) BK532.out (by decide)) (fun _ hk => hk.1.2) (.int .i64 t523)) (fun _ hk => hk.1.2) (.slice Ao48 t524.length co48)) (fun _ hk => hk.2) (.int .i64 t527)) (fun _ hk => hk.2) (.int .u64 t528)) (fun _ hk => hk.2) (.int .u64 t529)) (fun _ hk => hk.2) (.int .i64 t530)) (fun _ h_ => h_.1)) (fun _ h_ => h_.1))))) (Kd.R_lt (by (with_reducible repeat (first | apply Kd.R_alloc | apply Kd.R_drewN | apply Kd.R_drew)); exact (Kd.R_mono (Kd.R_mono (Kd.R_far (p := ⟨gb532, 3, none⟩) (Kd.R_far (p := ⟨gb532, 2, none⟩) (Kd.R_far (p := ⟨gb532, 1, none⟩) (Kd.R_far (p := ⟨gb532, 0, none⟩) (Kd.R_far (p := ⟨gb531, 1, none⟩) (Kd.R_far (p := ⟨gb531, 0, none⟩) (Kd.R_types (Kd.R_types HO522.out BK531.out (by decide)) BK532.out (by decide)) (fun _ hk => hk.1.2) (.int .i64 t523)) (fun _ hk => hk.1.2) (.slice Ao48 t524.length co48)) (fun _ hk => hk.2) (.int .i64 t527)) (fun _ hk => hk.2) (.int .u64 t528)) (fun _ hk => hk.2) (.int .u64 t529)) (fun _ hk => hk.2) (.int .i64 t530)) (fun _ h_ => h_.1)) (fun _ h_ => h_.1))))) (Kd.R_lt (by (with_reducible repeat (first | apply Kd.R_alloc | apply Kd.R_drewN | apply Kd.R_drew)); exact (Kd.R_mono (Kd.R_mono (Kd.R_far (p := ⟨gb532, 3, none⟩) (Kd.R_far (p := ⟨gb532, 2, none⟩) (Kd.R_far (p := ⟨gb532, 1, none⟩) (Kd.R_far (p := ⟨gb532, 0, none⟩) (Kd.R_far (p := ⟨gb531, 1, none⟩) (Kd.R_far (p := ⟨gb531, 0, none⟩) (Kd.R_types (Kd.R_types HO526.out BK531.out (by decide)) BK532.out (by decide)) (fun _ hk => hk.1.2) (.int .i64 t523)) (fun _ hk => hk.1.2) (.slice Ao48 t524.length co48)) (fun _ hk => hk.2) (.int .i64 t527)) (fun _ hk => hk.2) (.int .u64 t528)) (fun _ hk => hk.2) (.int .u64 t529)) (fun _ hk => hk.2) (.int .i64 t530)) (fun _ h_ => h_.1)) (fun _ h_ => h_.1))))) (below_size (by repeat (first | (with_reducible first | exact HB.out | apply below_alloc | apply pw_below_drewN | apply below_drew1 | refine below_set ?_ GE504.out | refine below_set ?_ GE505.out | refine below_set ?_ GE518.out | refine below_set ?_ GE519.out | refine below_set ?_ GE531.out | refine below_set ?_ GE532.out) | exact HB.out)))); have n7_ := Aside0.mk (blk_below (g := gb504) (o := .cells #[.int .i64 t492, .slice Ao23 t493.length co23] 59 (0, 0)) (by (with_reducible repeat (first | refine blk_drewN ?_ _ | refine blk_drew ?_ | refine blk_alloc ?_ _)); refine blk_far ?_ NB504_532.out _; (with_reducible repeat (first | refine blk_drewN ?_ _ | refine blk_drew ?_ | refine blk_alloc ?_ _)); refine blk_far ?_ NB504_532.out _; (with_reducible repeat (first | refine blk_drewN ?_ _ | refine blk_drew ?_ | refine blk_alloc ?_ _)); refine blk_far ?_ NB504_532.out _; (with_reducible repeat (first | refine blk_drewN ?_ _ | refine blk_drew ?_ | refine blk_alloc ?_ _)); refine blk_far ?_ NB504_532.out _; (with_reducible repeat (first | refine blk_drewN ?_ _ | refine blk_drew ?_ | refine blk_alloc ?_ _)); refine blk_far ?_ NB504_531.out _; (with_reducible repeat (first | refine blk_drewN ?_ _ | refine blk_drew ?_ | refine blk_alloc ?_ _)); refine blk_far ?_ NB504_531.out _; (with_reducible repeat (first | refine blk_drewN ?_ _ | refine blk_drew ?_ | refine blk_alloc ?_ _)); exact BK504.out) hb); have n8_ := Aside0.mk (blk_below (g := gb505) (o := .cells #[.int .i64 t499, .int .u64 t500, .int .u64 t501, .int .i64 t502] 61 (0, 0)) (by (with_reducible repeat (first | refine blk_drewN ?_ _ | refine blk_drew ?_ | refine blk_alloc ?_ _)); refine blk_far ?_ NB505_532.out _; (with_reducible repeat (first | refine blk_drewN ?_ _ | refine blk_drew ?_ | refine blk_alloc ?_ _)); refine blk_far ?_ NB505_532.out _; (with_reducible repeat (first | refine blk_drewN ?_ _ | refine blk_drew ?_ | refine blk_alloc ?_ _)); refine blk_far ?_ NB505_532.out _; (with_reducible repeat (first | refine blk_drewN ?_ _ | refine blk_drew ?_ | refine blk_alloc ?_ _)); refine blk_far ?_ NB505_532.out _; (with_reducible repeat (first | refine blk_drewN ?_ _ | refine blk_drew ?_ | refine blk_alloc ?_ _)); refine blk_far ?_ NB505_531.out _; (with_reducible repeat (first | refine blk_drewN ?_ _ | refine blk_drew ?_ | refine blk_alloc ?_ _)); refine blk_far ?_ NB505_531.out _; (with_reducible repeat (first | refine blk_drewN ?_ _ | refine blk_drew ?_ | refine blk_alloc ?_ _)); exact BK505.out) hb); have n9_ := Aside0.mk (blk_below (g := gb518) (o := .cells #[.int .i64 t506, .slice Ao32 t507.length co32] 59 (0, 0)) (by (with_reducible repeat (first | refine blk_drewN ?_ _ | refine blk_drew ?_ | refine blk_alloc ?_ _)); refine blk_far ?_ NB518_532.out _; (with_reducible repeat (first | refine blk_drewN ?_ _ | refine blk_drew ?_ | refine blk_alloc ?_ _)); refine blk_far ?_ NB518_532.out _; (with_reducible repeat (first | refine blk_drewN ?_ _ | refine blk_drew ?_ | refine blk_alloc ?_ _)); refine blk_far ?_ NB518_532.out _; (with_reducible repeat (first | refine blk_drewN ?_ _ | refine blk_drew ?_ | refine blk_alloc ?_ _)); refine blk_far ?_ NB518_532.out _; (with_reducible repeat (first | refine blk_drewN ?_ _ | refine blk_drew ?_ | refine blk_alloc ?_ _)); refine blk_far ?_ NB518_531.out _; (with_reducible repeat (first | refine blk_drewN ?_ _ | refine blk_drew ?_ | refine blk_alloc ?_ _)); refine blk_far ?_ NB518_531.out _; (with_reducible repeat (first | refine blk_drewN ?_ _ | refine blk_drew ?_ | refine blk_alloc ?_ _)); exact BK518.out) hb); have n10_ := Aside0.mk (blk_below (g := gb519) (o := .cells #[.int .i64 t513, .int .u64 t514, .int .u64 t515, .int .i64 t516] 61 (0, 0)) (by (with_reducible repeat (first | refine blk_drewN ?_ _ | refine blk_drew ?_ | refine blk_alloc ?_ _)); refine blk_far ?_ NB519_532.out _; (with_reducible repeat (first | refine blk_drewN ?_ _ | refine blk_drew ?_ | refine blk_alloc ?_ _)); refine blk_far ?_ NB519_532.out _; (with_reducible repeat (first | refine blk_drewN ?_ _ | refine blk_drew ?_ | refine blk_alloc ?_ _)); refine blk_far ?_ NB519_532.out _; (with_reducible repeat (first | refine blk_drewN ?_ _ | refine blk_drew ?_ | refine blk_alloc ?_ _)); refine blk_far ?_ NB519_532.out _; (with_reducible repeat (first | refine blk_drewN ?_ _ | refine blk_drew ?_ | refine blk_alloc ?_ _)); refine blk_far ?_ NB519_531.out _; (with_reducible repeat (first | refine blk_drewN ?_ _ | refine blk_drew ?_ | refine blk_alloc ?_ _)); refine blk_far ?_ NB519_531.out _; (with_reducible repeat (first | refine blk_drewN ?_ _ | refine blk_drew ?_ | refine blk_alloc ?_ _)); exact BK519.out) hb); have n11_ := Aside0.mk (blk_below (g := gb531) (o := .cells #[.int .i64 t523, .slice Ao48 t524.length co48] 59 (0, 0)) (by (with_reducible repeat (first | refine blk_drewN ?_ _ | refine blk_drew ?_ | refine blk_alloc ?_ _)); refine blk_far ?_ NB531_532.out _; (with_reducible repeat (first | refine blk_drewN ?_ _ | refine blk_drew ?_ | refine blk_alloc ?_ _)); refine blk_far ?_ NB531_532.out _; (with_reducible repeat (first | refine blk_drewN ?_ _ | refine blk_drew ?_ | refine blk_alloc ?_ _)); refine blk_far ?_ NB531_532.out _; (with_reducible repeat (first | refine blk_drewN ?_ _ | refine blk_drew ?_ | refine blk_alloc ?_ _)); refine blk_far ?_ NB531_532.out _; (with_reducible repeat (first | refine blk_drewN ?_ _ | refine blk_drew ?_ | refine blk_alloc ?_ _)); refine blk_put (cs := #[.int .i64 t523, .slice none 0 0]) ?_ 1 _ rfl; (with_reducible repeat (first | refine blk_drewN ?_ _ | refine blk_drew ?_ | refine blk_alloc ?_ _)); refine blk_put (cs := #[.int .i64 0, .slice none 0 0]) ?_ 0 _ rfl; (with_reducible repeat (first | refine blk_drewN ?_ _ | refine blk_drew ?_ | refine blk_alloc ?_ _)); exact BK531.out) hb); have n12_ := Aside0.mk (blk_below (g := gb532) (o := .cells #[.int .i64 t527, .int .u64 t528, .int .u64 t529, .int .i64 t530] 61 (0, 0)) (by (with_reducible repeat (first | refine blk_drewN ?_ _ | refine blk_drew ?_ | refine blk_alloc ?_ _)); refine blk_put (cs := #[.int .i64 t527, .int .u64 t528, .int .u64 t529, .int .i64 0]) ?_ 3 _ rfl; (with_reducible repeat (first | refine blk_drewN ?_ _ | refine blk_drew ?_ | refine blk_alloc ?_ _)); refine blk_put (cs := #[.int .i64 t527, .int .u64 t528, .int .u64 0, .int .i64 0]) ?_ 2 _ rfl; (with_reducible repeat (first | refine blk_drewN ?_ _ | refine blk_drew ?_ | refine blk_alloc ?_ _)); refine blk_put (cs := #[.int .i64 t527, .int .u64 0, .int .u64 0, .int .i64 0]) ?_ 1 _ rfl; (with_reducible repeat (first | refine blk_drewN ?_ _ | refine blk_drew ?_ | refine blk_alloc ?_ _)); refine blk_put (cs := #[.int .i64 0, .int .u64 0, .int .u64 0, .int .i64 0]) ?_ 0 _ rfl; (with_reducible repeat (first | refine blk_drewN ?_ _ | refine blk_drew ?_ | refine blk_alloc ?_ _)); refine blk_far ?_ NB532_531.out _; (with_reducible repeat (first | refine blk_drewN ?_ _ | refine blk_drew ?_ | refine blk_alloc ?_ _)); refine blk_far ?_ NB532_531.out _; (with_reducible repeat (first | refine blk_drewN ?_ _ | refine blk_drew ?_ | refine blk_alloc ?_ _)); exact BK532.out) hb); have n13_ := Aside0.mk (below_step (by repeat (first | (with_reducible first | exact HB.out | apply below_alloc | apply pw_below_drewN | apply below_drew1 | refine below_set ?_ GE504.out | refine below_set ?_ GE505.out | refine below_set ?_ GE518.out | refine below_set ?_ GE519.out | refine below_set ?_ GE531.out | refine below_set ?_ GE532.out) | exact HB.out)) hb); clear HO495; clear HO498; clear HO509; clear HO512; clear HO522; clear HO526; clear BK504; clear BK505; clear BK518; clear BK519; clear BK531; clear BK532; clear HB; have HO495 := n0_; have HO498 := n1_; have HO509 := n2_; have HO512 := n3_; have HO522 := n4_; have HO526 := n5_; have HO536 := n6_; have BK504 := n7_; have BK505 := n8_; have BK518 := n9_; have BK519 := n10_; have BK531 := n11_; have BK532 := n12_; have HB := n13_; clear n0_ n1_ n2_ n3_ n4_ n5_ n6_ n7_ n8_ n9_ n10_ n11_ n12_ n13_; (try clear hb); (try clear hb2); (try clear hk); (try clear hi); (try clear ho0)) | ((with_reducible refine gate_dst (N := 11) rfl ?_); (try (refine gate_guard (by rfl) ?_; dsimp only)); refine box_event ?hg (N := 11) ?hd (cs := #[.int .i64 0, .slice none 0 0]) (t := 59) ?hr ?_; (case hd => rfl); (case hg => rfl); (case hr => first | (go_simp; done) | (go_simp; rfl)); intro gb541 hg w55 hbox hb; have n0_ := Aside0.mk (Kd.R_below (by (with_reducible repeat (first | apply Kd.R_alloc | apply Kd.R_drewN | apply Kd.R_drew)); exact HO495.out) hb); have n1_ := Aside0.mk (Kd.R_below (by (with_reducible repeat (first | apply Kd.R_alloc | apply Kd.R_drewN | apply Kd.R_drew)); exact HO498.out) hb); have n2_ := Aside0.mk (Kd.R_below (by (with_reducible repeat (first | apply Kd.R_alloc | apply Kd.R_drewN | apply Kd.R_drew)); exact HO509.out) hb); have n3_ := Aside0.mk (Kd.R_below (by (with_reducible repeat (first | apply Kd.R_alloc | apply Kd.R_drewN | apply Kd.R_drew)); exact HO512.out) hb); have n4_ := Aside0.mk (Kd.R_below (by (with_reducible repeat (first | apply Kd.R_alloc | apply Kd.R_drewN | apply Kd.R_drew)); exact HO522.out) hb); have n5_ := Aside0.mk (Kd.R_below (by (with_reducible repeat (first | apply Kd.R_alloc | apply Kd.R_drewN | apply Kd.R_drew)); exact HO526.out) hb); have n6_ := Aside0.mk (Kd.R_below (by (with_reducible repeat (first | apply Kd.R_alloc | apply Kd.R_drewN | apply Kd.R_drew)); exact HO536.out) hb); have n7_ := Aside0.mk (blk_below (g := gb504) (o := .cells #[.int .i64 t492, .slice Ao23 t493.length co23] 59 (0, 0)) (by (with_reducible repeat (first | refine blk_drewN ?_ _ | refine blk_drew ?_ | refine blk_alloc ?_ _)); exact BK504.out) hb); have n8_ := Aside0.mk (blk_below (g := gb505) (o := .cells #[.int .i64 t499, .int .u64 t500, .int .u64 t501, .int .i64 t502] 61 (0, 0)) (by (with_reducible repeat (first | refine blk_drewN ?_ _ | refine blk_drew ?_ | refine blk_alloc ?_ _)); exact BK505.out) hb); have n9_ := Aside0.mk (blk_below (g := gb518) (o := .cells #[.int .i64 t506, .slice Ao32 t507.length co32] 59 (0, 0)) (by (with_reducible repeat (first | refine blk_drewN ?_ _ | refine blk_drew ?_ | refine blk_alloc ?_ _)); exact BK518.out) hb); have n10_ := Aside0.mk (blk_below (g := gb519) (o := .cells #[.int .i64 t513, .int .u64 t514, .int .u64 t515, .int .i64 t516] 61 (0, 0)) (by (with_reducible repeat (first | refine blk_drewN ?_ _ | refine blk_drew ?_ | refine blk_alloc ?_ _)); exact BK519.out) hb); have n11_ := Aside0.mk (blk_below (g := gb531) (o := .cells #[.int .i64 t523, .slice Ao48 t524.length co48] 59 (0, 0)) (by (with_reducible repeat (first | refine blk_drewN ?_ _ | refine blk_drew ?_ | refine blk_alloc ?_ _)); exact BK531.out) hb); have n12_ := Aside0.mk (blk_below (g := gb532) (o := .cells #[.int .i64 t527, .int .u64 t528, .int .u64 t529, .int .i64 t530] 61 (0, 0)) (by (with_reducible repeat (first | refine blk_drewN ?_ _ | refine blk_drew ?_ | refine blk_alloc ?_ _)); exact BK532.out) hb); have n13_ := Aside0.mk (below_step (by repeat (first | (with_reducible first | exact HB.out | apply below_alloc | apply pw_below_drewN | apply below_drew1 | refine below_set ?_ GE504.out | refine below_set ?_ GE505.out | refine below_set ?_ GE518.out | refine below_set ?_ GE519.out | refine below_set ?_ GE531.out | refine below_set ?_ GE532.out) | exact HB.out)) hb); have n14_ := Aside0.mk (hbox); have n15_ := Aside0.mk ((by rw [hg]; exact (below_size (by repeat (first | (with_reducible first | exact HB.out | apply below_alloc | apply pw_below_drewN | apply below_drew1 | refine below_set ?_ GE504.out | refine below_set ?_ GE505.out | refine below_set ?_ GE518.out | refine below_set ?_ GE519.out | refine below_set ?_ GE531.out | refine below_set ?_ GE532.out) | exact HB.out))) : w.heap.size ≤ gb541)); have n16_ := Aside0.mk ((by rw [hg]; exact (below_size (by repeat (first | (with_reducible first | exact HB.out | apply below_alloc | apply pw_below_drewN | apply below_drew1 | refine below_set ?_ GE504.out | refine below_set ?_ GE505.out | refine below_set ?_ GE518.out | refine below_set ?_ GE519.out | refine below_set ?_ GE531.out | refine below_set ?_ GE532.out) | exact HB.out))) : w.heap.size ≤ gb541)); have n17_ := Aside0.mk ((by rw [hg]; exact Nat.ne_of_lt (blk_lt (g := gb504) (o := .cells #[.int .i64 t492, .slice Ao23 t493.length co23] 59 (0, 0)) (by (with_reducible repeat (first | refine blk_drewN ?_ _ | refine blk_drew ?_ | refine blk_alloc ?_ _)); exact BK504.out)) : gb504 ≠ gb541)); have n18_ := Aside0.mk ((by rw [hg]; exact Nat.ne_of_gt (blk_lt (g := gb504) (o := .cells #[.int .i64 t492, .slice Ao23 t493.length co23] 59 (0, 0)) (by (with_reducible repeat (first | refine blk_drewN ?_ _ | refine blk_drew ?_ | refine blk_alloc ?_ _)); exact BK504.out)) : gb541 ≠ gb504)); have n19_ := Aside0.mk ((by rw [hg]; exact Nat.ne_of_lt (blk_lt (g := gb505) (o := .cells #[.int .i64 t499, .int .u64 t500, .int .u64 t501, .int .i64 t502] 61 (0, 0)) (by (with_reducible repeat (first | refine blk_drewN ?_ _ | refine blk_drew ?_ | refine blk_alloc ?_ _)); exact BK505.out)) : gb505 ≠ gb541)); have n20_ := Aside0.mk ((by rw [hg]; exact Nat.ne_of_gt (blk_lt (g := gb505) (o := .cells #[.int .i64 t499, .int .u64 t500, .int .u64 t501, .int .i64 t502] 61 (0, 0)) (by (with_reducible repeat (first | refine blk_drewN ?_ _ | refine blk_drew ?_ | refine blk_alloc ?_ _)); exact BK505.out)) : gb541 ≠ gb505)); have n21_ := Aside0.mk ((by rw [hg]; exact Nat.ne_of_lt (blk_lt (g := gb518) (o := .cells #[.int .i64 t506, .slice Ao32 t507.length co32] 59 (0, 0)) (by (with_reducible repeat (first | refine blk_drewN ?_ _ | refine blk_drew ?_ | refine blk_alloc ?_ _)); exact BK518.out)) : gb518 ≠ gb541)); have n22_ := Aside0.mk ((by rw [hg]; exact Nat.ne_of_gt (blk_lt (g := gb518) (o := .cells #[.int .i64 t506, .slice Ao32 t507.length co32] 59 (0, 0)) (by (with_reducible repeat (first | refine blk_drewN ?_ _ | refine blk_drew ?_ | refine blk_alloc ?_ _)); exact BK518.out)) : gb541 ≠ gb518)); have n23_ := Aside0.mk ((by rw [hg]; exact Nat.ne_of_lt (blk_lt (g := gb519) (o := .cells #[.int .i64 t513, .int .u64 t514, .int .u64 t515, .int .i64 t516] 61 (0, 0)) (by (with_reducible repeat (first | refine blk_drewN ?_ _ | refine blk_drew ?_ | refine blk_alloc ?_ _)); exact BK519.out)) : gb519 ≠ gb541)); have n24_ := Aside0.mk ((by rw [hg]; exact Nat.ne_of_gt (blk_lt (g := gb519) (o := .cells #[.int .i64 t513, .int .u64 t514, .int .u64 t515, .int .i64 t516] 61 (0, 0)) (by (with_reducible repeat (first | refine blk_drewN ?_ _ | refine blk_drew ?_ | refine blk_alloc ?_ _)); exact BK519.out)) : gb541 ≠ gb519)); have n25_ := Aside0.mk ((by rw [hg]; exact Nat.ne_of_lt (blk_lt (g := gb531) (o := .cells #[.int .i64 t523, .slice Ao48 t524.length co48] 59 (0, 0)) (by (with_reducible repeat (first | refine blk_drewN ?_ _ | refine blk_drew ?_ | refine blk_alloc ?_ _)); exact BK531.out)) : gb531 ≠ gb541)); have n26_ := Aside0.mk ((by rw [hg]; exact Nat.ne_of_gt (blk_lt (g := gb531) (o := .cells #[.int .i64 t523, .slice Ao48 t524.length co48] 59 (0, 0)) (by (with_reducible repeat (first | refine blk_drewN ?_ _ | refine blk_drew ?_ | refine blk_alloc ?_ _)); exact BK531.out)) : gb541 ≠ gb531)); have n27_ := Aside0.mk ((by rw [hg]; exact Nat.ne_of_lt (blk_lt (g := gb532) (o := .cells #[.int .i64 t527, .int .u64 t528, .int .u64 t529, .int .i64 t530] 61 (0, 0)) (by (with_reducible repeat (first | refine blk_drewN ?_ _ | refine blk_drew ?_ | refine blk_alloc ?_ _)); exact BK532.out)) : gb532 ≠ gb541)); have n28_ := Aside0.mk ((by rw [hg]; exact Nat.ne_of_gt (blk_lt (g := gb532) (o := .cells #[.int .i64 t527, .int .u64 t528, .int .u64 t529, .int .i64 t530] 61 (0, 0)) (by (with_reducible repeat (first | refine blk_drewN ?_ _ | refine blk_drew ?_ | refine blk_alloc ?_ _)); exact BK532.out)) : gb541 ≠ gb532)); clear HO495; clear HO498; clear HO509; clear HO512; clear HO522; clear HO526; clear HO536; clear BK504; clear BK505; clear BK518; clear BK519; clear BK531; clear BK532; clear HB; have HO495 := n0_; have HO498 := n1_; have HO509 := n2_; have HO512 := n3_; have HO522 := n4_; have HO526 := n5_; have HO536 := n6_; have BK504 := n7_; have BK505 := n8_; have BK518 := n9_; have BK519 := n10_; have BK531 := n11_; have BK532 := n12_; have HB := n13_; have BK541 := n14_; have GW541 := n15_; have GE541 := n16_; have NB504_541 := n17_; have NB541_504 := n18_; have NB505_541 := n19_; have NB541_505 := n20_; have NB518_541 := n21_; have NB541_518 := n22_; have NB519_541 := n23_; have NB541_519 := n24_; have NB531_541 := n25_; have NB541_531 := n26_; have NB532_541 := n27_; have NB541_532 := n28_; clear n0_ n1_ n2_ n3_ n4_ n5_ n6_ n7_ n8_ n9_ n10_ n11_ n12_ n13_ n14_ n15_ n16_ n17_ n18_ n19_ n20_ n21_ n22_ n23_ n24_ n25_ n26_ n27_ n28_; clear hb hbox hg) | ((with_reducible refine gate_dst (N := 12) rfl ?_); (try (refine gate_guard (by rfl) ?_; dsimp only)); refine box_event ?hg (N := 12) ?hd (cs := #[.int .i64 0, .int .u64 0, .int .u64 0, .int .i64 0]) (t := 61) ?hr ?_; (case hd => rfl); (case hg => rfl); (case hr => first | (go_simp; done) | (go_simp; rfl)); intro gb542 hg w56 hbox hb; have n0_ := Aside0.mk (Kd.R_below (by (with_reducible repeat (first | apply Kd.R_alloc | apply Kd.R_drewN | apply Kd.R_drew)); exact HO495.out) hb); have n1_ := Aside0.mk (Kd.R_below (by (with_reducible repeat (first | apply Kd.R_alloc | apply Kd.R_drewN | apply Kd.R_drew)); exact HO498.out) hb); have n2_ := Aside0.mk (Kd.R_below (by (with_reducible repeat (first | apply Kd.R_alloc | apply Kd.R_drewN | apply Kd.R_drew)); exact HO509.out) hb); have n3_ := Aside0.mk (Kd.R_below (by (with_reducible repeat (first | apply Kd.R_alloc | apply Kd.R_drewN | apply Kd.R_drew)); exact HO512.out) hb); have n4_ := Aside0.mk (Kd.R_below (by (with_reducible repeat (first | apply Kd.R_alloc | apply Kd.R_drewN | apply Kd.R_drew)); exact HO522.out) hb); have n5_ := Aside0.mk (Kd.R_below (by (with_reducible repeat (first | apply Kd.R_alloc | apply Kd.R_drewN | apply Kd.R_drew)); exact HO526.out) hb); have n6_ := Aside0.mk (Kd.R_below (by (with_reducible repeat (first | apply Kd.R_alloc | apply Kd.R_drewN | apply Kd.R_drew)); exact HO536.out) hb); have n7_ := Aside0.mk (blk_below (g := gb504) (o := .cells #[.int .i64 t492, .slice Ao23 t493.length co23] 59 (0, 0)) (by (with_reducible repeat (first | refine blk_drewN ?_ _ | refine blk_drew ?_ | refine blk_alloc ?_ _)); exact BK504.out) hb); have n8_ := Aside0.mk (blk_below (g := gb505) (o := .cells #[.int .i64 t499, .int .u64 t500, .int .u64 t501, .int .i64 t502] 61 (0, 0)) (by (with_reducible repeat (first | refine blk_drewN ?_ _ | refine blk_drew ?_ | refine blk_alloc ?_ _)); exact BK505.out) hb); have n9_ := Aside0.mk (blk_below (g := gb518) (o := .cells #[.int .i64 t506, .slice Ao32 t507.length co32] 59 (0, 0)) (by (with_reducible repeat (first | refine blk_drewN ?_ _ | refine blk_drew ?_ | refine blk_alloc ?_ _)); exact BK518.out) hb); have n10_ := Aside0.mk (blk_below (g := gb519) (o := .cells #[.int .i64 t513, .int .u64 t514, .int .u64 t515, .int .i64 t516] 61 (0, 0)) (by (with_reducible repeat (first | refine blk_drewN ?_ _ | refine blk_drew ?_ | refine blk_alloc ?_ _)); exact BK519.out) hb); have n11_ := Aside0.mk (blk_below (g := gb531) (o := .cells #[.int .i64 t523, .slice Ao48 t524.length co48] 59 (0, 0)) (by (with_reducible repeat (first | refine blk_drewN ?_ _ | refine blk_drew ?_ | refine blk_alloc ?_ _)); exact BK531.out) hb); have n12_ := Aside0.mk (blk_below (g := gb532) (o := .cells #[.int .i64 t527, .int .u64 t528, .int .u64 t529, .int .i64 t530] 61 (0, 0)) (by (with_reducible repeat (first | refine blk_drewN ?_ _ | refine blk_drew ?_ | refine blk_alloc ?_ _)); exact BK532.out) hb); have n13_ := Aside0.mk (blk_below (g := gb541) (o := .cells #[.int .i64 0, .slice none 0 0] 59 (0, 0)) (by (with_reducible repeat (first | refine blk_drewN ?_ _ | refine blk_drew ?_ | refine blk_alloc ?_ _)); exact BK541.out) hb); have n14_ := Aside0.mk (below_step (by repeat (first | (with_reducible first | exact HB.out | apply below_alloc | apply pw_below_drewN | apply below_drew1 | refine below_set ?_ GE504.out | refine below_set ?_ GE505.out | refine below_set ?_ GE518.out | refine below_set ?_ GE519.out | refine below_set ?_ GE531.out | refine below_set ?_ GE532.out | refine below_set ?_ GE541.out) | exact HB.out)) hb); have n15_ := Aside0.mk (hbox); have n16_ := Aside0.mk ((by rw [hg]; exact (below_size (by repeat (first | (with_reducible first | exact HB.out | apply below_alloc | apply pw_below_drewN | apply below_drew1 | refine below_set ?_ GE504.out | refine below_set ?_ GE505.out | refine below_set ?_ GE518.out | refine below_set ?_ GE519.out | refine below_set ?_ GE531.out | refine below_set ?_ GE532.out | refine below_set ?_ GE541.out) | exact HB.out))) : w.heap.size ≤ gb542)); have n17_ := Aside0.mk ((by rw [hg]; exact (below_size (by repeat (first | (with_reducible first | exact HB.out | apply below_alloc | apply pw_below_drewN | apply below_drew1 | refine below_set ?_ GE504.out | refine below_set ?_ GE505.out | refine below_set ?_ GE518.out | refine below_set ?_ GE519.out | refine below_set ?_ GE531.out | refine below_set ?_ GE532.out | refine below_set ?_ GE541.out) | exact HB.out))) : w.heap.size ≤ gb542)); have n18_ := Aside0.mk ((by rw [hg]; exact Nat.ne_of_lt (blk_lt (g := gb504) (o := .cells #[.int .i64 t492, .slice Ao23 t493.length co23] 59 (0, 0)) (by (with_reducible repeat (first | refine blk_drewN ?_ _ | refine blk_drew ?_ | refine blk_alloc ?_ _)); exact BK504.out)) : gb504 ≠ gb542)); have n19_ := Aside0.mk ((by rw [hg]; exact Nat.ne_of_gt (blk_lt (g := gb504) (o := .cells #[.int .i64 t492, .slice Ao23 t493.length co23] 59 (0, 0)) (by (with_reducible repeat (first | refine blk_drewN ?_ _ | refine blk_drew ?_ | refine blk_alloc ?_ _)); exact BK504.out)) : gb542 ≠ gb504)); have n20_ := Aside0.mk ((by rw [hg]; exact Nat.ne_of_lt (blk_lt (g := gb505) (o := .cells #[.int .i64 t499, .int .u64 t500, .int .u64 t501, .int .i64 t502] 61 (0, 0)) (by (with_reducible repeat (first | refine blk_drewN ?_ _ | refine blk_drew ?_ | refine blk_alloc ?_ _)); exact BK505.out)) : gb505 ≠ gb542)); have n21_ := Aside0.mk ((by rw [hg]; exact Nat.ne_of_gt (blk_lt (g := gb505) (o := .cells #[.int .i64 t499, .int .u64 t500, .int .u64 t501, .int .i64 t502] 61 (0, 0)) (by (with_reducible repeat (first | refine blk_drewN ?_ _ | refine blk_drew ?_ | refine blk_alloc ?_ _)); exact BK505.out)) : gb542 ≠ gb505)); have n22_ := Aside0.mk ((by rw [hg]; exact Nat.ne_of_lt (blk_lt (g := gb518) (o := .cells #[.int .i64 t506, .slice Ao32 t507.length co32] 59 (0, 0)) (by (with_reducible repeat (first | refine blk_drewN ?_ _ | refine blk_drew ?_ | refine blk_alloc ?_ _)); exact BK518.out)) : gb518 ≠ gb542)); have n23_ := Aside0.mk ((by rw [hg]; exact Nat.ne_of_gt (blk_lt (g := gb518) (o := .cells #[.int .i64 t506, .slice Ao32 t507.length co32] 59 (0, 0)) (by (with_reducible repeat (first | refine blk_drewN ?_ _ | refine blk_drew ?_ | refine blk_alloc ?_ _)); exact BK518.out)) : gb542 ≠ gb518)); have n24_ := Aside0.mk ((by rw [hg]; exact Nat.ne_of_lt (blk_lt (g := gb519) (o := .cells #[.int .i64 t513, .int .u64 t514, .int .u64 t515, .int .i64 t516] 61 (0, 0)) (by (with_reducible repeat (first | refine blk_drewN ?_ _ | refine blk_drew ?_ | refine blk_alloc ?_ _)); exact BK519.out)) : gb519 ≠ gb542)); have n25_ := Aside0.mk ((by rw [hg]; exact Nat.ne_of_gt (blk_lt (g := gb519) (o := .cells #[.int .i64 t513, .int .u64 t514, .int .u64 t515, .int .i64 t516] 61 (0, 0)) (by (with_reducible repeat (first | refine blk_drewN ?_ _ | refine blk_drew ?_ | refine blk_alloc ?_ _)); exact BK519.out)) : gb542 ≠ gb519)); have n26_ := Aside0.mk ((by rw [hg]; exact Nat.ne_of_lt (blk_lt (g := gb531) (o := .cells #[.int .i64 t523, .slice Ao48 t524.length co48] 59 (0, 0)) (by (with_reducible repeat (first | refine blk_drewN ?_ _ | refine blk_drew ?_ | refine blk_alloc ?_ _)); exact BK531.out)) : gb531 ≠ gb542)); have n27_ := Aside0.mk ((by rw [hg]; exact Nat.ne_of_gt (blk_lt (g := gb531) (o := .cells #[.int .i64 t523, .slice Ao48 t524.length co48] 59 (0, 0)) (by (with_reducible repeat (first | refine blk_drewN ?_ _ | refine blk_drew ?_ | refine blk_alloc ?_ _)); exact BK531.out)) : gb542 ≠ gb531)); have n28_ := Aside0.mk ((by rw [hg]; exact Nat.ne_of_lt (blk_lt (g := gb532) (o := .cells #[.int .i64 t527, .int .u64 t528, .int .u64 t529, .int .i64 t530] 61 (0, 0)) (by (with_reducible repeat (first | refine blk_drewN ?_ _ | refine blk_drew ?_ | refine blk_alloc ?_ _)); exact BK532.out)) : gb532 ≠ gb542)); have n29_ := Aside0.mk ((by rw [hg]; exact Nat.ne_of_gt (blk_lt (g := gb532) (o := .cells #[.int .i64 t527, .int .u64 t528, .int .u64 t529, .int .i64 t530] 61 (0, 0)) (by (with_reducible repeat (first | refine blk_drewN ?_ _ | refine blk_drew ?_ | refine blk_alloc ?_ _)); exact BK532.out)) : gb542 ≠ gb532)); have n30_ := Aside0.mk ((by rw [hg]; exact Nat.ne_of_lt (blk_lt (g := gb541) (o := .cells #[.int .i64 0, .slice none 0 0] 59 (0, 0)) (by (with_reducible repeat (first | refine blk_drewN ?_ _ | refine blk_drew ?_ | refine blk_alloc ?_ _)); exact BK541.out)) : gb541 ≠ gb542)); have n31_ := Aside0.mk ((by rw [hg]; exact Nat.ne_of_gt (blk_lt (g := gb541) (o := .cells #[.int .i64 0, .slice none 0 0] 59 (0, 0)) (by (with_reducible repeat (first | refine blk_drewN ?_ _ | refine blk_drew ?_ | refine blk_alloc ?_ _)); exact BK541.out)) : gb542 ≠ gb541)); clear HO495; clear HO498; clear HO509; clear HO512; clear HO522; clear HO526; clear HO536; clear BK504; clear BK505; clear BK518; clear BK519; clear BK531; clear BK532; clear BK541; clear HB; have HO495 := n0_; have HO498 := n1_; have HO509 := n2_; have HO512 := n3_; have HO522 := n4_; have HO526 := n5_; have HO536 := n6_; have BK504 := n7_; have BK505 := n8_; have BK518 := n9_; have BK519 := n10_; have BK531 := n11_; have BK532 := n12_; have BK541 := n13_; have HB := n14_; have BK542 := n15_; have GW542 := n16_; have GE542 := n17_; have NB504_542 := n18_; have NB542_504 := n19_; have NB505_542 := n20_; have NB542_505 := n21_; have NB518_542 := n22_; have NB542_518 := n23_; have NB519_542 := n24_; have NB542_519 := n25_; have NB531_542 := n26_; have NB542_531 := n27_; have NB532_542 := n28_; have NB542_532 := n29_; have NB541_542 := n30_; have NB542_541 := n31_; clear n0_ n1_ n2_ n3_ n4_ n5_ n6_ n7_ n8_ n9_ n10_ n11_ n12_ n13_ n14_ n15_ n16_ n17_ n18_ n19_ n20_ n21_ n22_ n23_ n24_ n25_ n26_ n27_ n28_ n29_ n30_ n31_; clear hb hbox hg; have hnb57 := NB541_504.out; have hnc57 := NB504_541.out; have hnb58 := NB541_505.out; have hnc58 := NB505_541.out; have hnb59 := NB541_518.out; have hnc59 := NB518_541.out; have hnb60 := NB541_519.out; have hnc60 := NB519_541.out; have hnb61 := NB541_531.out; have hnc61 := NB531_541.out; have hnb62 := NB541_532.out; have hnc62 := NB532_541.out; have hnb63 := NB541_542.out; have hnc63 := NB542_541.out; have hcz64_0 : w56.cell? ⟨gb541, 0, none⟩ = some (.int .i64 0) := (blk_cell BK541.out 0).trans rfl; have hcz64_1 : w56.cell? ⟨gb541, 1, none⟩ = some (.slice none 0 0) := (blk_cell BK541.out 1).trans rfl; have hfz64_0 := blk_frozen BK541.out 0; have hfz64_1 := blk_frozen BK541.out 1; obtain ⟨Ao65, co65, eo65⟩ := Kd.R_slice HO536.out; subst eo65; have hnb66 := NB542_504.out; have hnc66 := NB504_542.out; have hnb67 := NB542_505.out; have hnc67 := NB505_542.out; have hnb68 := NB542_518.out; have hnc68 := NB518_542.out; have hnb69 := NB542_519.out; have hnc69 := NB519_542.out; have hnb70 := NB542_531.out; have hnc70 := NB531_542.out; have hnb71 := NB542_532.out; have hnc71 := NB532_542.out; have hcz72_0 : w56.cell? ⟨gb542, 0, none⟩ = some (.int .i64 0) := (blk_cell BK542.out 0).trans rfl; have hcz72_1 : w56.cell? ⟨gb542, 1, none⟩ = some (.int .u64 0) := (blk_cell BK542.out 1).trans rfl; have hcz72_2 : w56.cell? ⟨gb542, 2, none⟩ = some (.int .u64 0) := (blk_cell BK542.out 2).trans rfl; have hcz72_3 : w56.cell? ⟨gb542, 3, none⟩ = some (.int .i64 0) := (blk_cell BK542.out 3).trans rfl; have hfz72_0 := blk_frozen BK542.out 0; have hfz72_1 := blk_frozen BK542.out 1; have hfz72_2 := blk_frozen BK542.out 2; have hfz72_3 := blk_frozen BK542.out 3) | ((with_reducible refine gate_callee (f := 36) rfl ?_); refine goesL_ (some 40) rfl rfl Try.func36 (by kernel_rfl) rfl #[.string (⟨#[23, 17]⟩ : ByteArray), .agg #[.int .i64 0, .slice none 0 0], .int .u64 7] rfl (by (try simp only [List.map_toArray, List.map_cons, List.map_nil]); first | done | rfl | (simp only [List.length_drop, List.length_take]; rfl)) ?_; (refine (vm_Done.calls k (⟨#[23, 17]⟩ : ByteArray) 0 _ _ ([] : List Int) 7 t543 t544 _ ?side1 ?side2 A5.out).mono ?_); (case side1 => exact Kd.C_nil _ _); (case side2 => exact Nat.le_refl _); rintro e w73 ⟨v545, rfl, ho0, hb⟩; refine ⟨_, rfl, ?_⟩; have n0_ := Aside0.mk (Kd.R_elder' (by (with_reducible repeat (first | apply Kd.R_alloc | apply Kd.R_drewN | apply Kd.R_drew)); exact (Kd.R_mono (Kd.R_mono (Kd.R_far (p := ⟨gb542, 3, none⟩) (Kd.R_far (p := ⟨gb542, 2, none⟩) (Kd.R_far (p := ⟨gb542, 1, none⟩) (Kd.R_far (p := ⟨gb542, 0, none⟩) (Kd.R_far (p := ⟨gb541, 1, none⟩) (Kd.R_far (p := ⟨gb541, 0, none⟩) (Kd.R_types (Kd.R_types HO495.out BK541.out (by decide)) BK542.out (by decide)) (fun _ hk => hk.1.2) (.int .i64 t533)) (fun _ hk => hk.1.2) (.slice Ao65 t534.length co65)) (fun _ hk => hk.2) (.int .i64 t537)) (fun _ hk => hk.2) (.int .u64 t538)) (fun _ hk => hk.2) (.int .u64 t539)) (fun _ hk => hk.2) (.int .i64 t540)) (fun _ h_ => h_.1)) (fun _ h_ => h_.1))) (Kd.R_base ho0) hb); have n1_ := Aside0.mk (Kd.R_elder' (by (with_reducible repeat (first | apply Kd.R_alloc | apply Kd.R_drewN | apply Kd.R_drew)); exact (Kd.R_mono (Kd.R_mono (Kd.R_far (p := ⟨gb542, 3, none⟩) (Kd.R_far (p := ⟨gb542, 2, none⟩) (Kd.R_far (p := ⟨gb542, 1, none⟩) (Kd.R_far (p := ⟨gb542, 0, none⟩) (Kd.R_far (p := ⟨gb541, 1, none⟩) (Kd.R_far (p := ⟨gb541, 0, none⟩) (Kd.R_types (Kd.R_types HO498.out BK541.out (by decide)) BK542.out (by decide)) (fun _ hk => hk.1.2) (.int .i64 t533)) (fun _ hk => hk.1.2) (.slice Ao65 t534.length co65)) (fun _ hk => hk.2) (.int .i64 t537)) (fun _ hk => hk.2) (.int .u64 t538)) (fun _ hk => hk.2) (.int .u64 t539)) (fun _ hk => hk.2) (.int .i64 t540)) (fun _ h_ => h_.1)) (fun _ h_ => h_.1))) (Kd.R_base ho0) hb); have n2_ := Aside0.mk (Kd.R_elder' (by (with_reducible repeat (first | apply Kd.R_alloc | apply Kd.R_drewN | apply Kd.R_drew)); exact (Kd.R_mono (Kd.R_mono (Kd.R_far (p := ⟨gb542, 3, none⟩) (Kd.R_far (p := ⟨gb542, 2, none⟩) (Kd.R_far (p := ⟨gb542, 1, none⟩) (Kd.R_far (p := ⟨gb542, 0, none⟩) (Kd.R_far (p := ⟨gb541, 1, none⟩) (Kd.R_far (p := ⟨gb541, 0, none⟩) (Kd.R_types (Kd.R_types HO509.out BK541.out (by decide)) BK542.out (by decide)) (fun _ hk => hk.1.2) (.int .i64 t533)) (fun _ hk => hk.1.2) (.slice Ao65 t534.length co65)) (fun _ hk => hk.2) (.int .i64 t537)) (fun _ hk => hk.2) (.int .u64 t538)) (fun _ hk => hk.2) (.int .u64 t539)) (fun _ hk => hk.2) (.int .i64 t540)) (fun _ h_ => h_.1)) (fun _ h_ => h_.1))) (Kd.R_base ho0) hb); have n3_ := Aside0.mk (Kd.R_elder' (by (with_reducible repeat (first | apply Kd.R_alloc | apply Kd.R_drewN | apply Kd.R_drew)); exact (Kd.R_mono (Kd.R_mono (Kd.R_far (p := ⟨gb542, 3, none⟩) (Kd.R_far (p := ⟨gb542, 2, none⟩) (Kd.R_far (p := ⟨gb542, 1, none⟩) (Kd.R_far (p := ⟨gb542, 0, none⟩) (Kd.R_far (p := ⟨gb541, 1, none⟩) (Kd.R_far (p := ⟨gb541, 0, none⟩) (Kd.R_types (Kd.R_types HO512.out BK541.out (by decide)) BK542.out (by decide)) (fun _ hk => hk.1.2) (.int .i64 t533)) (fun _ hk => hk.1.2) (.slice Ao65 t534.length co65)) (fun _ hk => hk.2) (.int .i64 t537)) (fun _ hk => hk.2) (.int .u64 t538)) (fun _ hk => hk.2) (.int .u64 t539)) (fun _ hk => hk.2) (.int .i64 t540)) (fun _ h_ => h_.1)) (fun _ h_ => h_.1))) (Kd.R_base ho0) hb); have n4_ := Aside0.mk (Kd.R_elder' (by (with_reducible repeat (first | apply Kd.R_alloc | apply Kd.R_drewN | apply Kd.R_drew)); exact (Kd.R_mono (Kd.R_mono (Kd.R_far (p := ⟨gb542, 3, none⟩) (Kd.R_far (p := ⟨gb542, 2, none⟩) (Kd.R_far (p := ⟨gb542, 1, none⟩) (Kd.R_far (p := ⟨gb542, 0, none⟩) (Kd.R_far (p := ⟨gb541, 1, none⟩) (Kd.R_far (p := ⟨gb541, 0, none⟩) (Kd.R_types (Kd.R_types HO522.out BK541.out (by decide)) BK542.out (by decide)) (fun _ hk => hk.1.2) (.int .i64 t533)) (fun _ hk => hk.1.2) (.slice Ao65 t534.length co65)) (fun _ hk => hk.2) (.int .i64 t537)) (fun _ hk => hk.2) (.int .u64 t538)) (fun _ hk => hk.2) (.int .u64 t539)) (fun _ hk => hk.2) (.int .i64 t540)) (fun _ h_ => h_.1)) (fun _ h_ => h_.1))) (Kd.R_base ho0) hb); have n5_ := Aside0.mk (Kd.R_elder' (by (with_reducible repeat (first | apply Kd.R_alloc | apply Kd.R_drewN | apply Kd.R_drew)); exact (Kd.R_mono (Kd.R_mono (Kd.R_far (p := ⟨gb542, 3, none⟩) (Kd.R_far (p := ⟨gb542, 2, none⟩) (Kd.R_far (p := ⟨gb542, 1, none⟩) (Kd.R_far (p := ⟨gb542, 0, none⟩) (Kd.R_far (p := ⟨gb541, 1, none⟩) (Kd.R_far (p := ⟨gb541, 0, none⟩) (Kd.R_types (Kd.R_types HO526.out BK541.out (by decide)) BK542.out (by decide)) (fun _ hk => hk.1.2) (.int .i64 t533)) (fun _ hk => hk.1.2) (.slice Ao65 t534.length co65)) (fun _ hk => hk.2) (.int .i64 t537)) (fun _ hk => hk.2) (.int .u64 t538)) (fun _ hk => hk.2) (.int .u64 t539)) (fun _ hk => hk.2) (.int .i64 t540)) (fun _ h_ => h_.1)) (fun _ h_ => h_.1))) (Kd.R_base ho0) hb); have n6_ := Aside0.mk (Kd.R_elder' (by (with_reducible repeat (first | apply Kd.R_alloc | apply Kd.R_drewN | apply Kd.R_drew)); exact (Kd.R_mono (Kd.R_mono (Kd.R_far (p := ⟨gb542, 3, none⟩) (Kd.R_far (p := ⟨gb542, 2, none⟩) (Kd.R_far (p := ⟨gb542, 1, none⟩) (Kd.R_far (p := ⟨gb542, 0, none⟩) (Kd.R_far (p := ⟨gb541, 1, none⟩) (Kd.R_far (p := ⟨gb541, 0, none⟩) (Kd.R_types (Kd.R_types HO536.out BK541.out (by decide)) BK542.out (by decide)) (fun _ hk => hk.1.2) (.int .i64 t533)) (fun _ hk => hk.1.2) (.slice Ao65 t534.length co65)) (fun _ hk => hk.2) (.int .i64 t537)) (fun _ hk => hk.2) (.int .u64 t538)) (fun _ hk => hk.2) (.int .u64 t539)) (fun _ hk => hk.2) (.int .i64 t540)) (fun _ h_ => h_.1)) (fun _ h_ => h_.1))) (Kd.R_base ho0) hb); have n7_ := Aside0.mk (Kd.R_lower (Kd.R_new' (Kd.R_new' (Kd.R_new' (Kd.R_new' (Kd.R_new' (Kd.R_new' (Kd.R_new' ho0 (Kd.R_lt (by (with_reducible repeat (first | apply Kd.R_alloc | apply Kd.R_drewN | apply Kd.R_drew)); exact (Kd.R_mono (Kd.R_mono (Kd.R_far (p := ⟨gb542, 3, none⟩) (Kd.R_far (p := ⟨gb542, 2, none⟩) (Kd.R_far (p := ⟨gb542, 1, none⟩) (Kd.R_far (p := ⟨gb542, 0, none⟩) (Kd.R_far (p := ⟨gb541, 1, none⟩) (Kd.R_far (p := ⟨gb541, 0, none⟩) (Kd.R_types (Kd.R_types HO495.out BK541.out (by decide)) BK542.out (by decide)) (fun _ hk => hk.1.2) (.int .i64 t533)) (fun _ hk => hk.1.2) (.slice Ao65 t534.length co65)) (fun _ hk => hk.2) (.int .i64 t537)) (fun _ hk => hk.2) (.int .u64 t538)) (fun _ hk => hk.2) (.int .u64 t539)) (fun _ hk => hk.2) (.int .i64 t540)) (fun _ h_ => h_.1)) (fun _ h_ => h_.1))))) (Kd.R_lt (by (with_reducible repeat (first | apply Kd.R_alloc | apply Kd.R_drewN | apply Kd.R_drew)); exact (Kd.R_mono (Kd.R_mono (Kd.R_far (p := ⟨gb542, 3, none⟩) (Kd.R_far (p := ⟨gb542, 2, none⟩) (Kd.R_far (p := ⟨gb542, 1, none⟩) (Kd.R_far (p := ⟨gb542, 0, none⟩) (Kd.R_far (p := ⟨gb541, 1, none⟩) (Kd.R_far (p := ⟨gb541, 0, none⟩) (Kd.R_types (Kd.R_types HO498.out BK541.out (by decide)) BK542.out (by decide)) (fun _ hk => hk.1.2) (.int .i64 t533)) (fun _ hk => hk.1.2) (.slice Ao65 t534.length co65)) (fun _ hk => hk.2) (.int .i64 t537)) (fun _ hk => hk.2) (.int .u64 t538)) (fun _ hk => hk.2) (.int .u64 t539)) (fun _ hk => hk.2) (.int .i64 t540)) (fun _ h_ => h_.1)) (fun _ h_ => h_.1))))) (Kd.R_lt (by (with_reducible repeat (first | apply Kd.R_alloc | apply Kd.R_drewN | apply Kd.R_drew)); exact (Kd.R_mono (Kd.R_mono (Kd.R_far (p := ⟨gb542, 3, none⟩) (Kd.R_far (p := ⟨gb542, 2, none⟩) (Kd.R_far (p := ⟨gb542, 1, none⟩) (Kd.R_far (p := ⟨gb542, 0, none⟩) (Kd.R_far (p := ⟨gb541, 1, none⟩) (Kd.R_far (p := ⟨gb541, 0, none⟩) (Kd.R_types (Kd.R_types HO509.out BK541.out (by decide)) BK542.out (by decide)) (fun _ hk => hk.1.2) (.int .i64 t533)) (fun _ hk => hk.1.2) (.slice Ao65 t534.length co65)) (fun _ hk => hk.2) (.int .i64 t537)) (fun _ hk => hk.2) (.int .u64 t538)) (fun _ hk => hk.2) (.int .u64 t539)) (fun _ hk => hk.2) (.int .i64 t540)) (fun _ h_ => h_.1)) (fun _ h_ => h_.1))))) (Kd.R_lt (by (with_reducible repeat (first | apply Kd.R_alloc | apply Kd.R_drewN | apply Kd.R_drew)); exact (Kd.R_mono (Kd.R_mono (Kd.R_far (p := ⟨gb542, 3, none⟩) (Kd.R_far (p := ⟨gb542, 2, none⟩) (Kd.R_far (p := ⟨gb542, 1, none⟩) (Kd.R_far (p := ⟨gb542, 0, none⟩) (Kd.R_far (p := ⟨gb541, 1, none⟩) (Kd.R_far (p := ⟨gb541, 0, none⟩) (Kd.R_types (Kd.R_types HO512.out BK541.out (by decide)) BK542.out (by decide)) (fun _ hk => hk.1.2) (.int .i64 t533)) (fun _ hk => hk.1.2) (.slice Ao65 t534.length co65)) (fun _ hk => hk.2) (.int .i64 t537)) (fun _ hk => hk.2) (.int .u64 t538)) (fun _ hk => hk.2) (.int .u64 t539)) (fun _ hk => hk.2) (.int .i64 t540)) (fun _ h_ => h_.1)) (fun _ h_ => h_.1))))) (Kd.R_lt (by (with_reducible repeat (first | apply Kd.R_alloc | apply Kd.R_drewN | apply Kd.R_drew)); exact (Kd.R_mono (Kd.R_mono (Kd.R_far (p := ⟨gb542, 3, none⟩) (Kd.R_far (p := ⟨gb542, 2, none⟩) (Kd.R_far (p := ⟨gb542, 1, none⟩) (Kd.R_far (p := ⟨gb542, 0, none⟩) (Kd.R_far (p := ⟨gb541, 1, none⟩) (Kd.R_far (p := ⟨gb541, 0, none⟩) (Kd.R_types (Kd.R_types HO522.out BK541.out (by decide)) BK542.out (by decide)) (fun _ hk => hk.1.2) (.int .i64 t533)) (fun _ hk => hk.1.2) (.slice Ao65 t534.length co65)) (fun _ hk => hk.2) (.int .i64 t537)) (fun _ hk => hk.2) (.int .u64 t538)) (fun _ hk => hk.2) (.int .u64 t539)) (fun _ hk => hk.2) (.int .i64 t540)) (fun _ h_ => h_.1)) (fun _ h_ => h_.1))))) (Kd.R_lt (by (with_reducible repeat (first | apply Kd.R_alloc | apply Kd.R_drewN | apply Kd.R_drew)); exact (Kd.R_mono (Kd.R_mono (Kd.R_far (p := ⟨gb542, 3, none⟩) (Kd.R_far (p := ⟨gb542, 2, none⟩) (Kd.R_far (p := ⟨gb542, 1, none⟩) (Kd.R_far (p := ⟨gb542, 0, none⟩) (Kd.R_far (p := ⟨gb541, 1, none⟩) (Kd.R_far (p := ⟨gb541, 0, none⟩) (Kd.R_types (Kd.R_types HO526.out BK541.out (by decide)) BK542.out (by decide)) (fun _ hk => hk.1.2) (.int .i64 t533)) (fun _ hk => hk.1.2) (.slice Ao65 t534.length co65)) (fun _ hk => hk.2) (.int .i64 t537)) (fun _ hk => hk.2) (.int .u64 t538)) (fun _ hk => hk.2) (.int .u64 t539)) (fun _ hk => hk.2) (.int .i64 t540)) (fun _ h_ => h_.1)) (fun _ h_ => h_.1))))) (Kd.R_lt (by (with_reducible repeat (first | apply Kd.R_alloc | apply Kd.R_drewN | apply Kd.R_drew)); exact (Kd.R_mono (Kd.R_mono (Kd.R_far (p := ⟨gb542, 3, none⟩) (Kd.R_far (p := ⟨gb542, 2, none⟩) (Kd.R_far (p := ⟨gb542, 1, none⟩) (Kd.R_far (p := ⟨gb542, 0, none⟩) (Kd.R_far (p := ⟨gb541, 1, none⟩) (Kd.R_far (p := ⟨gb541, 0, none⟩) (Kd.R_types (Kd.R_types HO536.out BK541.out (by decide)) BK542.out (by decide)) (fun _ hk => hk.1.2) (.int .i64 t533)) (fun _ hk => hk.1.2) (.slice Ao65 t534.length co65)) (fun _ hk => hk.2) (.int .i64 t537)) (fun _ hk => hk.2) (.int .u64 t538)) (fun _ hk => hk.2) (.int .u64 t539)) (fun _ hk => hk.2) (.int .i64 t540)) (fun _ h_ => h_.1)) (fun _ h_ => h_.1))))) (below_size (by repeat (first | (with_reducible first | exact HB.out | apply below_alloc | apply pw_below_drewN | apply below_drew1 | refine below_set ?_ GE504.out | refine below_set ?_ GE505.out | refine below_set ?_ GE518.out | refine below_set ?_ GE519.out | refine below_set ?_ GE531.out | refine below_set ?_ GE532.out | refine below_set ?_ GE541.out | refine below_set ?_ GE542.out) | exact HB.out)))); have n8_ := Aside0.mk (blk_below (g := gb504) (o := .cells #[.int .i64 t492, .slice Ao23 t493.length co23] 59 (0, 0)) (by (with_reducible repeat (first | refine blk_drewN ?_ _ | refine blk_drew ?_ | refine blk_alloc ?_ _)); refine blk_far ?_ NB504_542.out _; (with_reducible repeat (first | refine blk_drewN ?_ _ | refine blk_drew ?_ | refine blk_alloc ?_ _)); refine blk_far ?_ NB504_542.out _; (with_reducible repeat (first | refine blk_drewN ?_ _ | refine blk_drew ?_ | refine blk_alloc ?_ _)); refine blk_far ?_ NB504_542.out _; (with_reducible repeat (first | refine blk_drewN ?_ _ | refine blk_drew ?_ | refine blk_alloc ?_ _)); refine blk_far ?_ NB504_542.out _; (with_reducible repeat (first | refine blk_drewN ?_ _ | refine blk_drew ?_ | refine blk_alloc ?_ _)); refine blk_far ?_ NB504_541.out _; (with_reducible repeat (first | refine blk_drewN ?_ _ | refine blk_drew ?_ | refine blk_alloc ?_ _)); refine blk_far ?_ NB504_541.out _; (with_reducible repeat (first | refine blk_drewN ?_ _ | refine blk_drew ?_ | refine blk_alloc ?_ _)); exact BK504.out) hb); have n9_ := Aside0.mk (blk_below (g := gb505) (o := .cells #[.int .i64 t499, .int .u64 t500, .int .u64 t501, .int .i64 t502] 61 (0, 0)) (by (with_reducible repeat (first | refine blk_drewN ?_ _ | refine blk_drew ?_ | refine blk_alloc ?_ _)); refine blk_far ?_ NB505_542.out _; (with_reducible repeat (first | refine blk_drewN ?_ _ | refine blk_drew ?_ | refine blk_alloc ?_ _)); refine blk_far ?_ NB505_542.out _; (with_reducible repeat (first | refine blk_drewN ?_ _ | refine blk_drew ?_ | refine blk_alloc ?_ _)); refine blk_far ?_ NB505_542.out _; (with_reducible repeat (first | refine blk_drewN ?_ _ | refine blk_drew ?_ | refine blk_alloc ?_ _)); refine blk_far ?_ NB505_542.out _; (with_reducible repeat (first | refine blk_drewN ?_ _ | refine blk_drew ?_ | refine blk_alloc ?_ _)); refine blk_far ?_ NB505_541.out _; (with_reducible repeat (first | refine blk_drewN ?_ _ | refine blk_drew ?_ | refine blk_alloc ?_ _)); refine blk_far ?_ NB505_541.out _; (with_reducible repeat (first | refine blk_drewN ?_ _ | refine blk_drew ?_ | refine blk_alloc ?_ _)); exact BK505.out) hb); have n10_ := Aside0.mk (blk_below (g := gb518) (o := .cells #[.int .i64 t506, .slice Ao32 t507.length co32] 59 (0, 0)) (by (with_reducible repeat (first | refine blk_drewN ?_ _ | refine blk_drew ?_ | refine blk_alloc ?_ _)); refine blk_far ?_ NB518_542.out _; (with_reducible repeat (first | refine blk_drewN ?_ _ | refine blk_drew ?_ | refine blk_alloc ?_ _)); refine blk_far ?_ NB518_542.out _; (with_reducible repeat (first | refine blk_drewN ?_ _ | refine blk_drew ?_ | refine blk_alloc ?_ _)); refine blk_far ?_ NB518_542.out _; (with_reducible repeat (first | refine blk_drewN ?_ _ | refine blk_drew ?_ | refine blk_alloc ?_ _)); refine blk_far ?_ NB518_542.out _; (with_reducible repeat (first | refine blk_drewN ?_ _ | refine blk_drew ?_ | refine blk_alloc ?_ _)); refine blk_far ?_ NB518_541.out _; (with_reducible repeat (first | refine blk_drewN ?_ _ | refine blk_drew ?_ | refine blk_alloc ?_ _)); refine blk_far ?_ NB518_541.out _; (with_reducible repeat (first | refine blk_drewN ?_ _ | refine blk_drew ?_ | refine blk_alloc ?_ _)); exact BK518.out) hb); have n11_ := Aside0.mk (blk_below (g := gb519) (o := .cells #[.int .i64 t513, .int .u64 t514, .int .u64 t515, .int .i64 t516] 61 (0, 0)) (by (with_reducible repeat (first | refine blk_drewN ?_ _ | refine blk_drew ?_ | refine blk_alloc ?_ _)); refine blk_far ?_ NB519_542.out _; (with_reducible repeat (first | refine blk_drewN ?_ _ | refine blk_drew ?_ | refine blk_alloc ?_ _)); refine blk_far ?_ NB519_542.out _; (with_reducible repeat (first | refine blk_drewN ?_ _ | refine blk_drew ?_ | refine blk_alloc ?_ _)); refine blk_far ?_ NB519_542.out _; (with_reducible repeat (first | refine blk_drewN ?_ _ | refine blk_drew ?_ | refine blk_alloc ?_ _)); refine blk_far ?_ NB519_542.out _; (with_reducible repeat (first | refine blk_drewN ?_ _ | refine blk_drew ?_ | refine blk_alloc ?_ _)); refine blk_far ?_ NB519_541.out _; (with_reducible repeat (first | refine blk_drewN ?_ _ | refine blk_drew ?_ | refine blk_alloc ?_ _)); refine blk_far ?_ NB519_541.out _; (with_reducible repeat (first | refine blk_drewN ?_ _ | refine blk_drew ?_ | refine blk_alloc ?_ _)); exact BK519.out) hb); have n12_ := Aside0.mk (blk_below (g := gb531) (o := .cells #[.int .i64 t523, .slice Ao48 t524.length co48] 59 (0, 0)) (by (with_reducible repeat (first | refine blk_drewN ?_ _ | refine blk_drew ?_ | refine blk_alloc ?_ _)); refine blk_far ?_ NB531_542.out _; (with_reducible repeat (first | refine blk_drewN ?_ _ | refine blk_drew ?_ | refine blk_alloc ?_ _)); refine blk_far ?_ NB531_542.out _; (with_reducible repeat (first | refine blk_drewN ?_ _ | refine blk_drew ?_ | refine blk_alloc ?_ _)); refine blk_far ?_ NB531_542.out _; (with_reducible repeat (first | refine blk_drewN ?_ _ | refine blk_drew ?_ | refine blk_alloc ?_ _)); refine blk_far ?_ NB531_542.out _; (with_reducible repeat (first | refine blk_drewN ?_ _ | refine blk_drew ?_ | refine blk_alloc ?_ _)); refine blk_far ?_ NB531_541.out _; (with_reducible repeat (first | refine blk_drewN ?_ _ | refine blk_drew ?_ | refine blk_alloc ?_ _)); refine blk_far ?_ NB531_541.out _; (with_reducible repeat (first | refine blk_drewN ?_ _ | refine blk_drew ?_ | refine blk_alloc ?_ _)); exact BK531.out) hb); have n13_ := Aside0.mk (blk_below (g := gb532) (o := .cells #[.int .i64 t527, .int .u64 t528, .int .u64 t529, .int .i64 t530] 61 (0, 0)) (by (with_reducible repeat (first | refine blk_drewN ?_ _ | refine blk_drew ?_ | refine blk_alloc ?_ _)); refine blk_far ?_ NB532_542.out _; (with_reducible repeat (first | refine blk_drewN ?_ _ | refine blk_drew ?_ | refine blk_alloc ?_ _)); refine blk_far ?_ NB532_542.out _; (with_reducible repeat (first | refine blk_drewN ?_ _ | refine blk_drew ?_ | refine blk_alloc ?_ _)); refine blk_far ?_ NB532_542.out _; (with_reducible repeat (first | refine blk_drewN ?_ _ | refine blk_drew ?_ | refine blk_alloc ?_ _)); refine blk_far ?_ NB532_542.out _; (with_reducible repeat (first | refine blk_drewN ?_ _ | refine blk_drew ?_ | refine blk_alloc ?_ _)); refine blk_far ?_ NB532_541.out _; (with_reducible repeat (first | refine blk_drewN ?_ _ | refine blk_drew ?_ | refine blk_alloc ?_ _)); refine blk_far ?_ NB532_541.out _; (with_reducible repeat (first | refine blk_drewN ?_ _ | refine blk_drew ?_ | refine blk_alloc ?_ _)); exact BK532.out) hb); have n14_ := Aside0.mk (blk_below (g := gb541) (o := .cells #[.int .i64 t533, .slice Ao65 t534.length co65] 59 (0, 0)) (by (with_reducible repeat (first | refine blk_drewN ?_ _ | refine blk_drew ?_ | refine blk_alloc ?_ _)); refine blk_far ?_ NB541_542.out _; (with_reducible repeat (first | refine blk_drewN ?_ _ | refine blk_drew ?_ | refine blk_alloc ?_ _)); refine blk_far ?_ NB541_542.out _; (with_reducible repeat (first | refine blk_drewN ?_ _ | refine blk_drew ?_ | refine blk_alloc ?_ _)); refine blk_far ?_ NB541_542.out _; (with_reducible repeat (first | refine blk_drewN ?_ _ | refine blk_drew ?_ | refine blk_alloc ?_ _)); refine blk_far ?_ NB541_542.out _; (with_reducible repeat (first | refine blk_drewN ?_ _ | refine blk_drew ?_ | refine blk_alloc ?_ _)); refine blk_put (cs := #[.int .i64 t533, .slice none 0 0]) ?_ 1 _ rfl; (with_reducible repeat (first | refine blk_drewN ?_ _ | refine blk_drew ?_ | refine blk_alloc ?_ _)); refine blk_put (cs := #[.int .i64 0, .slice none 0 0]) ?_ 0 _ rfl; (with_reducible repeat (first | refine blk_drewN ?_ _ | refine blk_drew ?_ | refine blk_alloc ?_ _)); exact BK541.out) hb); have n15_ := Aside0.mk (blk_below (g := gb542) (o := .cells #[.int .i64 t537, .int .u64 t538, .int .u64 t539, .int .i64 t540] 61 (0, 0)) (by (with_reducible repeat (first | refine blk_drewN ?_ _ | refine blk_drew ?_ | refine blk_alloc ?_ _)); refine blk_put (cs := #[.int .i64 t537, .int .u64 t538, .int .u64 t539, .int .i64 0]) ?_ 3 _ rfl; (with_reducible repeat (first | refine blk_drewN ?_ _ | refine blk_drew ?_ | refine blk_alloc ?_ _)); refine blk_put (cs := #[.int .i64 t537, .int .u64 t538, .int .u64 0, .int .i64 0]) ?_ 2 _ rfl; (with_reducible repeat (first | refine blk_drewN ?_ _ | refine blk_drew ?_ | refine blk_alloc ?_ _)); refine blk_put (cs := #[.int .i64 t537, .int .u64 0, .int .u64 0, .int .i64 0]) ?_ 1 _ rfl; (with_reducible repeat (first | refine blk_drewN ?_ _ | refine blk_drew ?_ | refine blk_alloc ?_ _)); refine blk_put (cs := #[.int .i64 0, .int .u64 0, .int .u64 0, .int .i64 0]) ?_ 0 _ rfl; (with_reducible repeat (first | refine blk_drewN ?_ _ | refine blk_drew ?_ | refine blk_alloc ?_ _)); refine blk_far ?_ NB542_541.out _; (with_reducible repeat (first | refine blk_drewN ?_ _ | refine blk_drew ?_ | refine blk_alloc ?_ _)); refine blk_far ?_ NB542_541.out _; (with_reducible repeat (first | refine blk_drewN ?_ _ | refine blk_drew ?_ | refine blk_alloc ?_ _)); exact BK542.out) hb); have n16_ := Aside0.mk (below_step (by repeat (first | (with_reducible first | exact HB.out | apply below_alloc | apply pw_below_drewN | apply below_drew1 | refine below_set ?_ GE504.out | refine below_set ?_ GE505.out | refine below_set ?_ GE518.out | refine below_set ?_ GE519.out | refine below_set ?_ GE531.out | refine below_set ?_ GE532.out | refine below_set ?_ GE541.out | refine below_set ?_ GE542.out) | exact HB.out)) hb); clear HO495; clear HO498; clear HO509; clear HO512; clear HO522; clear HO526; clear HO536; clear BK504; clear BK505; clear BK518; clear BK519; clear BK531; clear BK532; clear BK541; clear BK542; clear HB; have HO495 := n0_; have HO498 := n1_; have HO509 := n2_; have HO512 := n3_; have HO522 := n4_; have HO526 := n5_; have HO536 := n6_; have HO546 := n7_; have BK504 := n8_; have BK505 := n9_; have BK518 := n10_; have BK519 := n11_; have BK531 := n12_; have BK532 := n13_; have BK541 := n14_; have BK542 := n15_; have HB := n16_; clear n0_ n1_ n2_ n3_ n4_ n5_ n6_ n7_ n8_ n9_ n10_ n11_ n12_ n13_ n14_ n15_ n16_; (try clear hb); (try clear hb2); (try clear hk); (try clear hi); (try clear ho0)) | ((with_reducible refine gate_dst (N := 13) rfl ?_); (try (refine gate_guard (by rfl) ?_; dsimp only)); refine box_event ?hg (N := 13) ?hd (cs := #[.int .i64 0, .slice none 0 0]) (t := 59) ?hr ?_; (case hd => rfl); (case hg => rfl); (case hr => first | (go_simp; done) | (go_simp; rfl)); intro gb547 hg w74 hbox hb; have n0_ := Aside0.mk (Kd.R_below (by (with_reducible repeat (first | apply Kd.R_alloc | apply Kd.R_drewN | apply Kd.R_drew)); exact HO495.out) hb); have n1_ := Aside0.mk (Kd.R_below (by (with_reducible repeat (first | apply Kd.R_alloc | apply Kd.R_drewN | apply Kd.R_drew)); exact HO498.out) hb); have n2_ := Aside0.mk (Kd.R_below (by (with_reducible repeat (first | apply Kd.R_alloc | apply Kd.R_drewN | apply Kd.R_drew)); exact HO509.out) hb); have n3_ := Aside0.mk (Kd.R_below (by (with_reducible repeat (first | apply Kd.R_alloc | apply Kd.R_drewN | apply Kd.R_drew)); exact HO512.out) hb); have n4_ := Aside0.mk (Kd.R_below (by (with_reducible repeat (first | apply Kd.R_alloc | apply Kd.R_drewN | apply Kd.R_drew)); exact HO522.out) hb); have n5_ := Aside0.mk (Kd.R_below (by (with_reducible repeat (first | apply Kd.R_alloc | apply Kd.R_drewN | apply Kd.R_drew)); exact HO526.out) hb); have n6_ := Aside0.mk (Kd.R_below (by (with_reducible repeat (first | apply Kd.R_alloc | apply Kd.R_drewN | apply Kd.R_drew)); exact HO536.out) hb); have n7_ := Aside0.mk (Kd.R_below (by (with_reducible repeat (first | apply Kd.R_alloc | apply Kd.R_drewN | apply Kd.R_drew)); exact HO546.out) hb); have n8_ := Aside0.mk (blk_below (g := gb504) (o := .cells #[.int .i64 t492, .slice Ao23 t493.length co23] 59 (0, 0)) (by (with_reducible repeat (first | refine blk_drewN ?_ _ | refine blk_drew ?_ | refine blk_alloc ?_ _)); exact BK504.out) hb); have n9_ := Aside0.mk (blk_below (g := gb505) (o := .cells #[.int .i64 t499, .int .u64 t500, .int .u64 t501, .int .i64 t502] 61 (0, 0)) (by (with_reducible repeat (first | refine blk_drewN ?_ _ | refine blk_drew ?_ | refine blk_alloc ?_ _)); exact BK505.out) hb); have n10_ := Aside0.mk (blk_below (g := gb518) (o := .cells #[.int .i64 t506, .slice Ao32 t507.length co32] 59 (0, 0)) (by (with_reducible repeat (first | refine blk_drewN ?_ _ | refine blk_drew ?_ | refine blk_alloc ?_ _)); exact BK518.out) hb); have n11_ := Aside0.mk (blk_below (g := gb519) (o := .cells #[.int .i64 t513, .int .u64 t514, .int .u64 t515, .int .i64 t516] 61 (0, 0)) (by (with_reducible repeat (first | refine blk_drewN ?_ _ | refine blk_drew ?_ | refine blk_alloc ?_ _)); exact BK519.out) hb); have n12_ := Aside0.mk (blk_below (g := gb531) (o := .cells #[.int .i64 t523, .slice Ao48 t524.length co48] 59 (0, 0)) (by (with_reducible repeat (first | refine blk_drewN ?_ _ | refine blk_drew ?_ | refine blk_alloc ?_ _)); exact BK531.out) hb); have n13_ := Aside0.mk (blk_below (g := gb532) (o := .cells #[.int .i64 t527, .int .u64 t528, .int .u64 t529, .int .i64 t530] 61 (0, 0)) (by (with_reducible repeat (first | refine blk_drewN ?_ _ | refine blk_drew ?_ | refine blk_alloc ?_ _)); exact BK532.out) hb); have n14_ := Aside0.mk (blk_below (g := gb541) (o := .cells #[.int .i64 t533, .slice Ao65 t534.length co65] 59 (0, 0)) (by (with_reducible repeat (first | refine blk_drewN ?_ _ | refine blk_drew ?_ | refine blk_alloc ?_ _)); exact BK541.out) hb); have n15_ := Aside0.mk (blk_below (g := gb542) (o := .cells #[.int .i64 t537, .int .u64 t538, .int .u64 t539, .int .i64 t540] 61 (0, 0)) (by (with_reducible repeat (first | refine blk_drewN ?_ _ | refine blk_drew ?_ | refine blk_alloc ?_ _)); exact BK542.out) hb); have n16_ := Aside0.mk (below_step (by repeat (first | (with_reducible first | exact HB.out | apply below_alloc | apply pw_below_drewN | apply below_drew1 | refine below_set ?_ GE504.out | refine below_set ?_ GE505.out | refine below_set ?_ GE518.out | refine below_set ?_ GE519.out | refine below_set ?_ GE531.out | refine below_set ?_ GE532.out | refine below_set ?_ GE541.out | refine below_set ?_ GE542.out) | exact HB.out)) hb); have n17_ := Aside0.mk (hbox); have n18_ := Aside0.mk ((by rw [hg]; exact (below_size (by repeat (first | (with_reducible first | exact HB.out | apply below_alloc | apply pw_below_drewN | apply below_drew1 | refine below_set ?_ GE504.out | refine below_set ?_ GE505.out | refine below_set ?_ GE518.out | refine below_set ?_ GE519.out | refine below_set ?_ GE531.out | refine below_set ?_ GE532.out | refine below_set ?_ GE541.out | refine below_set ?_ GE542.out) | exact HB.out))) : w.heap.size ≤ gb547)); have n19_ := Aside0.mk ((by rw [hg]; exact (below_size (by repeat (first | (with_reducible first | exact HB.out | apply below_alloc | apply pw_below_drewN | apply below_drew1 | refine below_set ?_ GE504.out | refine below_set ?_ GE505.out | refine below_set ?_ GE518.out | refine below_set ?_ GE519.out | refine below_set ?_ GE531.out | refine below_set ?_ GE532.out | refine below_set ?_ GE541.out | refine below_set ?_ GE542.out) | exact HB.out))) : w.heap.size ≤ gb547)); have n20_ := Aside0.mk ((by rw [hg]; exact Nat.ne_of_lt (blk_lt (g := gb504) (o := .cells #[.int .i64 t492, .slice Ao23 t493.length co23] 59 (0, 0)) (by (with_reducible repeat (first | refine blk_drewN ?_ _ | refine blk_drew ?_ | refine blk_alloc ?_ _)); exact BK504.out)) : gb504 ≠ gb547)); have n21_ := Aside0.mk ((by rw [hg]; exact Nat.ne_of_gt (blk_lt (g := gb504) (o := .cells #[.int .i64 t492, .slice Ao23 t493.length co23] 59 (0, 0)) (by (with_reducible repeat (first | refine blk_drewN ?_ _ | refine blk_drew ?_ | refine blk_alloc ?_ _)); exact BK504.out)) : gb547 ≠ gb504)); have n22_ := Aside0.mk ((by rw [hg]; exact Nat.ne_of_lt (blk_lt (g := gb505) (o := .cells #[.int .i64 t499, .int .u64 t500, .int .u64 t501, .int .i64 t502] 61 (0, 0)) (by (with_reducible repeat (first | refine blk_drewN ?_ _ | refine blk_drew ?_ | refine blk_alloc ?_ _)); exact BK505.out)) : gb505 ≠ gb547)); have n23_ := Aside0.mk ((by rw [hg]; exact Nat.ne_of_gt (blk_lt (g := gb505) (o := .cells #[.int .i64 t499, .int .u64 t500, .int .u64 t501, .int .i64 t502] 61 (0, 0)) (by (with_reducible repeat (first | refine blk_drewN ?_ _ | refine blk_drew ?_ | refine blk_alloc ?_ _)); exact BK505.out)) : gb547 ≠ gb505)); have n24_ := Aside0.mk ((by rw [hg]; exact Nat.ne_of_lt (blk_lt (g := gb518) (o := .cells #[.int .i64 t506, .slice Ao32 t507.length co32] 59 (0, 0)) (by (with_reducible repeat (first | refine blk_drewN ?_ _ | refine blk_drew ?_ | refine blk_alloc ?_ _)); exact BK518.out)) : gb518 ≠ gb547)); have n25_ := Aside0.mk ((by rw [hg]; exact Nat.ne_of_gt (blk_lt (g := gb518) (o := .cells #[.int .i64 t506, .slice Ao32 t507.length co32] 59 (0, 0)) (by (with_reducible repeat (first | refine blk_drewN ?_ _ | refine blk_drew ?_ | refine blk_alloc ?_ _)); exact BK518.out)) : gb547 ≠ gb518)); have n26_ := Aside0.mk ((by rw [hg]; exact Nat.ne_of_lt (blk_lt (g := gb519) (o := .cells #[.int .i64 t513, .int .u64 t514, .int .u64 t515, .int .i64 t516] 61 (0, 0)) (by (with_reducible repeat (first | refine blk_drewN ?_ _ | refine blk_drew ?_ | refine blk_alloc ?_ _)); exact BK519.out)) : gb519 ≠ gb547)); have n27_ := Aside0.mk ((by rw [hg]; exact Nat.ne_of_gt (blk_lt (g := gb519) (o := .cells #[.int .i64 t513, .int .u64 t514, .int .u64 t515, .int .i64 t516] 61 (0, 0)) (by (with_reducible repeat (first | refine blk_drewN ?_ _ | refine blk_drew ?_ | refine blk_alloc ?_ _)); exact BK519.out)) : gb547 ≠ gb519)); have n28_ := Aside0.mk ((by rw [hg]; exact Nat.ne_of_lt (blk_lt (g := gb531) (o := .cells #[.int .i64 t523, .slice Ao48 t524.length co48] 59 (0, 0)) (by (with_reducible repeat (first | refine blk_drewN ?_ _ | refine blk_drew ?_ | refine blk_alloc ?_ _)); exact BK531.out)) : gb531 ≠ gb547)); have n29_ := Aside0.mk ((by rw [hg]; exact Nat.ne_of_gt (blk_lt (g := gb531) (o := .cells #[.int .i64 t523, .slice Ao48 t524.length co48] 59 (0, 0)) (by (with_reducible repeat (first | refine blk_drewN ?_ _ | refine blk_drew ?_ | refine blk_alloc ?_ _)); exact BK531.out)) : gb547 ≠ gb531)); have n30_ := Aside0.mk ((by rw [hg]; exact Nat.ne_of_lt (blk_lt (g := gb532) (o := .cells #[.int .i64 t527, .int .u64 t528, .int .u64 t529, .int .i64 t530] 61 (0, 0)) (by (with_reducible repeat (first | refine blk_drewN ?_ _ | refine blk_drew ?_ | refine blk_alloc ?_ _)); exact BK532.out)) : gb532 ≠ gb547)); have n31_ := Aside0.mk ((by rw [hg]; exact Nat.ne_of_gt (blk_lt (g := gb532) (o := .cells #[.int .i64 t527, .int .u64 t528, .int .u64 t529, .int .i64 t530] 61 (0, 0)) (by (with_reducible repeat (first | refine blk_drewN ?_ _ | refine blk_drew ?_ | refine blk_alloc ?_ _)); exact BK532.out)) : gb547 ≠ gb532)); have n32_ := Aside0.mk ((by rw [hg]; exact Nat.ne_of_lt (blk_lt (g := gb541) (o := .cells #[.int .i64 t533, .slice Ao65 t534.length co65] 59 (0, 0)) (by (with_reducible repeat (first | refine blk_drewN ?_ _ | refine blk_drew ?_ | refine blk_alloc ?_ _)); exact BK541.out)) : gb541 ≠ gb547)); have n33_ := Aside0.mk ((by rw [hg]; exact Nat.ne_of_gt (blk_lt (g := gb541) (o := .cells #[.int .i64 t533, .slice Ao65 t534.length co65] 59 (0, 0)) (by (with_reducible repeat (first | refine blk_drewN ?_ _ | refine blk_drew ?_ | refine blk_alloc ?_ _)); exact BK541.out)) : gb547 ≠ gb541)); have n34_ := Aside0.mk ((by rw [hg]; exact Nat.ne_of_lt (blk_lt (g := gb542) (o := .cells #[.int .i64 t537, .int .u64 t538, .int .u64 t539, .int .i64 t540] 61 (0, 0)) (by (with_reducible repeat (first | refine blk_drewN ?_ _ | refine blk_drew ?_ | refine blk_alloc ?_ _)); exact BK542.out)) : gb542 ≠ gb547)); have n35_ := Aside0.mk ((by rw [hg]; exact Nat.ne_of_gt (blk_lt (g := gb542) (o := .cells #[.int .i64 t537, .int .u64 t538, .int .u64 t539, .int .i64 t540] 61 (0, 0)) (by (with_reducible repeat (first | refine blk_drewN ?_ _ | refine blk_drew ?_ | refine blk_alloc ?_ _)); exact BK542.out)) : gb547 ≠ gb542)); clear HO495; clear HO498; clear HO509; clear HO512; clear HO522; clear HO526; clear HO536; clear HO546; clear BK504; clear BK505; clear BK518; clear BK519; clear BK531; clear BK532; clear BK541; clear BK542; clear HB; have HO495 := n0_; have HO498 := n1_; have HO509 := n2_; have HO512 := n3_; have HO522 := n4_; have HO526 := n5_; have HO536 := n6_; have HO546 := n7_; have BK504 := n8_; have BK505 := n9_; have BK518 := n10_; have BK519 := n11_; have BK531 := n12_; have BK532 := n13_; have BK541 := n14_; have BK542 := n15_; have HB := n16_; have BK547 := n17_; have GW547 := n18_; have GE547 := n19_; have NB504_547 := n20_; have NB547_504 := n21_; have NB505_547 := n22_; have NB547_505 := n23_; have NB518_547 := n24_; have NB547_518 := n25_; have NB519_547 := n26_; have NB547_519 := n27_; have NB531_547 := n28_; have NB547_531 := n29_; have NB532_547 := n30_; have NB547_532 := n31_; have NB541_547 := n32_; have NB547_541 := n33_; have NB542_547 := n34_; have NB547_542 := n35_; clear n0_ n1_ n2_ n3_ n4_ n5_ n6_ n7_ n8_ n9_ n10_ n11_ n12_ n13_ n14_ n15_ n16_ n17_ n18_ n19_ n20_ n21_ n22_ n23_ n24_ n25_ n26_ n27_ n28_ n29_ n30_ n31_ n32_ n33_ n34_ n35_; clear hb hbox hg; have hnb75 := NB547_504.out; have hnc75 := NB504_547.out; have hnb76 := NB547_505.out; have hnc76 := NB505_547.out; have hnb77 := NB547_518.out; have hnc77 := NB518_547.out; have hnb78 := NB547_519.out; have hnc78 := NB519_547.out; have hnb79 := NB547_531.out; have hnc79 := NB531_547.out; have hnb80 := NB547_532.out; have hnc80 := NB532_547.out; have hnb81 := NB547_541.out; have hnc81 := NB541_547.out; have hnb82 := NB547_542.out; have hnc82 := NB542_547.out; have hcz83_0 : w74.cell? ⟨gb547, 0, none⟩ = some (.int .i64 0) := (blk_cell BK547.out 0).trans rfl; have hcz83_1 : w74.cell? ⟨gb547, 1, none⟩ = some (.slice none 0 0) := (blk_cell BK547.out 1).trans rfl; have hfz83_0 := blk_frozen BK547.out 0; have hfz83_1 := blk_frozen BK547.out 1; obtain ⟨Ao84, co84, eo84⟩ := Kd.R_slice HO546.out; subst eo84; have hcz85_0 : w74.cell? ⟨gb504, 0, none⟩ = some (.int .i64 t492) := (blk_cell BK504.out 0).trans rfl; have hcz85_1 : w74.cell? ⟨gb504, 1, none⟩ = some (.slice Ao23 t493.length co23) := (blk_cell BK504.out 1).trans rfl; have hfz85_0 := blk_frozen BK504.out 0; have hfz85_1 := blk_frozen BK504.out 1) | ((with_reducible refine gate_dst (N := 43) rfl ?_); (try (refine gate_guard (by rfl) ?_; dsimp only)); refine Kd.R_lit (Kd.int .u64) _ 34 ?hg (N := 43) ?hd (xs := ([5] : List Int)) (inner := [.int .u64 5]) (ok := fun _ => True) (okp := fun _ => True) ?hr ?hp (fun _ hk => hk) trivial (Below.refl _ _) (Nat.le_refl _) (by simp) ?_; (case hd => rfl); (case hg => rfl); (case hr => first | (go_simp; done) | (go_simp; rfl)); (case hp => exact (Reps.one (show Kd.M (Kd.int .u64) _ _ _ 5 [.int .u64 5] from rfl) (Reps.none _ _))); intro v549 w86 ho87 hb hg_ hnew_; clear hg_ hnew_; (first | rw [← Ny548.out] at ho87 | (simp only [Int.reduceToNat] at ho87; rw [← Ny548.out] at ho87)); have n0_ := Aside0.mk (Kd.R_elder' (by (with_reducible repeat (first | apply Kd.R_alloc | apply Kd.R_drewN | apply Kd.R_drew)); exact (Kd.R_mono (Kd.R_far (p := ⟨gb547, 1, none⟩) (Kd.R_far (p := ⟨gb547, 0, none⟩) (Kd.R_types HO495.out BK547.out (by decide)) (fun _ hk => hk.2) (.int .i64 t543)) (fun _ hk => hk.2) (.slice Ao84 t544.length co84)) (fun _ h_ => h_.1))) (Kd.R_base ho87) hb); have n1_ := Aside0.mk (Kd.R_elder' (by (with_reducible repeat (first | apply Kd.R_alloc | apply Kd.R_drewN | apply Kd.R_drew)); exact (Kd.R_mono (Kd.R_far (p := ⟨gb547, 1, none⟩) (Kd.R_far (p := ⟨gb547, 0, none⟩) (Kd.R_types HO498.out BK547.out (by decide)) (fun _ hk => hk.2) (.int .i64 t543)) (fun _ hk => hk.2) (.slice Ao84 t544.length co84)) (fun _ h_ => h_.1))) (Kd.R_base ho87) hb); have n2_ := Aside0.mk (Kd.R_elder' (by (with_reducible repeat (first | apply Kd.R_alloc | apply Kd.R_drewN | apply Kd.R_drew)); exact (Kd.R_mono (Kd.R_far (p := ⟨gb547, 1, none⟩) (Kd.R_far (p := ⟨gb547, 0, none⟩) (Kd.R_types HO509.out BK547.out (by decide)) (fun _ hk => hk.2) (.int .i64 t543)) (fun _ hk => hk.2) (.slice Ao84 t544.length co84)) (fun _ h_ => h_.1))) (Kd.R_base ho87) hb); have n3_ := Aside0.mk (Kd.R_elder' (by (with_reducible repeat (first | apply Kd.R_alloc | apply Kd.R_drewN | apply Kd.R_drew)); exact (Kd.R_mono (Kd.R_far (p := ⟨gb547, 1, none⟩) (Kd.R_far (p := ⟨gb547, 0, none⟩) (Kd.R_types HO512.out BK547.out (by decide)) (fun _ hk => hk.2) (.int .i64 t543)) (fun _ hk => hk.2) (.slice Ao84 t544.length co84)) (fun _ h_ => h_.1))) (Kd.R_base ho87) hb); have n4_ := Aside0.mk (Kd.R_elder' (by (with_reducible repeat (first | apply Kd.R_alloc | apply Kd.R_drewN | apply Kd.R_drew)); exact (Kd.R_mono (Kd.R_far (p := ⟨gb547, 1, none⟩) (Kd.R_far (p := ⟨gb547, 0, none⟩) (Kd.R_types HO522.out BK547.out (by decide)) (fun _ hk => hk.2) (.int .i64 t543)) (fun _ hk => hk.2) (.slice Ao84 t544.length co84)) (fun _ h_ => h_.1))) (Kd.R_base ho87) hb); have n5_ := Aside0.mk (Kd.R_elder' (by (with_reducible repeat (first | apply Kd.R_alloc | apply Kd.R_drewN | apply Kd.R_drew)); exact (Kd.R_mono (Kd.R_far (p := ⟨gb547, 1, none⟩) (Kd.R_far (p := ⟨gb547, 0, none⟩) (Kd.R_types HO526.out BK547.out (by decide)) (fun _ hk => hk.2) (.int .i64 t543)) (fun _ hk => hk.2) (.slice Ao84 t544.length co84)) (fun _ h_ => h_.1))) (Kd.R_base ho87) hb); have n6_ := Aside0.mk (Kd.R_elder' (by (with_reducible repeat (first | apply Kd.R_alloc | apply Kd.R_drewN | apply Kd.R_drew)); exact (Kd.R_mono (Kd.R_far (p := ⟨gb547, 1, none⟩) (Kd.R_far (p := ⟨gb547, 0, none⟩) (Kd.R_types HO536.out BK547.out (by decide)) (fun _ hk => hk.2) (.int .i64 t543)) (fun _ hk => hk.2) (.slice Ao84 t544.length co84)) (fun _ h_ => h_.1))) (Kd.R_base ho87) hb); have n7_ := Aside0.mk (Kd.R_elder' (by (with_reducible repeat (first | apply Kd.R_alloc | apply Kd.R_drewN | apply Kd.R_drew)); exact (Kd.R_mono (Kd.R_far (p := ⟨gb547, 1, none⟩) (Kd.R_far (p := ⟨gb547, 0, none⟩) (Kd.R_types HO546.out BK547.out (by decide)) (fun _ hk => hk.2) (.int .i64 t543)) (fun _ hk => hk.2) (.slice Ao84 t544.length co84)) (fun _ h_ => h_.1))) (Kd.R_base ho87) hb); have n8_ := Aside0.mk (Kd.R_lower (Kd.R_new' (Kd.R_new' (Kd.R_new' (Kd.R_new' (Kd.R_new' (Kd.R_new' (Kd.R_new' (Kd.R_new' ho87 (Kd.R_lt (by (with_reducible repeat (first | apply Kd.R_alloc | apply Kd.R_drewN | apply Kd.R_drew)); exact (Kd.R_mono (Kd.R_far (p := ⟨gb547, 1, none⟩) (Kd.R_far (p := ⟨gb547, 0, none⟩) (Kd.R_types HO495.out BK547.out (by decide)) (fun _ hk => hk.2) (.int .i64 t543)) (fun _ hk => hk.2) (.slice Ao84 t544.length co84)) (fun _ h_ => h_.1))))) (Kd.R_lt (by (with_reducible repeat (first | apply Kd.R_alloc | apply Kd.R_drewN | apply Kd.R_drew)); exact (Kd.R_mono (Kd.R_far (p := ⟨gb547, 1, none⟩) (Kd.R_far (p := ⟨gb547, 0, none⟩) (Kd.R_types HO498.out BK547.out (by decide)) (fun _ hk => hk.2) (.int .i64 t543)) (fun _ hk => hk.2) (.slice Ao84 t544.length co84)) (fun _ h_ => h_.1))))) (Kd.R_lt (by (with_reducible repeat (first | apply Kd.R_alloc | apply Kd.R_drewN | apply Kd.R_drew)); exact (Kd.R_mono (Kd.R_far (p := ⟨gb547, 1, none⟩) (Kd.R_far (p := ⟨gb547, 0, none⟩) (Kd.R_types HO509.out BK547.out (by decide)) (fun _ hk => hk.2) (.int .i64 t543)) (fun _ hk => hk.2) (.slice Ao84 t544.length co84)) (fun _ h_ => h_.1))))) (Kd.R_lt (by (with_reducible repeat (first | apply Kd.R_alloc | apply Kd.R_drewN | apply Kd.R_drew)); exact (Kd.R_mono (Kd.R_far (p := ⟨gb547, 1, none⟩) (Kd.R_far (p := ⟨gb547, 0, none⟩) (Kd.R_types HO512.out BK547.out (by decide)) (fun _ hk => hk.2) (.int .i64 t543)) (fun _ hk => hk.2) (.slice Ao84 t544.length co84)) (fun _ h_ => h_.1))))) (Kd.R_lt (by (with_reducible repeat (first | apply Kd.R_alloc | apply Kd.R_drewN | apply Kd.R_drew)); exact (Kd.R_mono (Kd.R_far (p := ⟨gb547, 1, none⟩) (Kd.R_far (p := ⟨gb547, 0, none⟩) (Kd.R_types HO522.out BK547.out (by decide)) (fun _ hk => hk.2) (.int .i64 t543)) (fun _ hk => hk.2) (.slice Ao84 t544.length co84)) (fun _ h_ => h_.1))))) (Kd.R_lt (by (with_reducible repeat (first | apply Kd.R_alloc | apply Kd.R_drewN | apply Kd.R_drew)); exact (Kd.R_mono (Kd.R_far (p := ⟨gb547, 1, none⟩) (Kd.R_far (p := ⟨gb547, 0, none⟩) (Kd.R_types HO526.out BK547.out (by decide)) (fun _ hk => hk.2) (.int .i64 t543)) (fun _ hk => hk.2) (.slice Ao84 t544.length co84)) (fun _ h_ => h_.1))))) (Kd.R_lt (by (with_reducible repeat (first | apply Kd.R_alloc | apply Kd.R_drewN | apply Kd.R_drew)); exact (Kd.R_mono (Kd.R_far (p := ⟨gb547, 1, none⟩) (Kd.R_far (p := ⟨gb547, 0, none⟩) (Kd.R_types HO536.out BK547.out (by decide)) (fun _ hk => hk.2) (.int .i64 t543)) (fun _ hk => hk.2) (.slice Ao84 t544.length co84)) (fun _ h_ => h_.1))))) (Kd.R_lt (by (with_reducible repeat (first | apply Kd.R_alloc | apply Kd.R_drewN | apply Kd.R_drew)); exact (Kd.R_mono (Kd.R_far (p := ⟨gb547, 1, none⟩) (Kd.R_far (p := ⟨gb547, 0, none⟩) (Kd.R_types HO546.out BK547.out (by decide)) (fun _ hk => hk.2) (.int .i64 t543)) (fun _ hk => hk.2) (.slice Ao84 t544.length co84)) (fun _ h_ => h_.1))))) (below_size (by repeat (first | (with_reducible first | exact HB.out | apply below_alloc | apply pw_below_drewN | apply below_drew1 | refine below_set ?_ GE504.out | refine below_set ?_ GE505.out | refine below_set ?_ GE518.out | refine below_set ?_ GE519.out | refine below_set ?_ GE531.out | refine below_set ?_ GE532.out | refine below_set ?_ GE541.out | refine below_set ?_ GE542.out | refine below_set ?_ GE547.out) | exact HB.out)))); have n9_ := Aside0.mk (blk_below (g := gb504) (o := .cells #[.int .i64 t492, .slice Ao23 t493.length co23] 59 (0, 0)) (by (with_reducible repeat (first | refine blk_drewN ?_ _ | refine blk_drew ?_ | refine blk_alloc ?_ _)); refine blk_far ?_ NB504_547.out _; (with_reducible repeat (first | refine blk_drewN ?_ _ | refine blk_drew ?_ | refine blk_alloc ?_ _)); refine blk_far ?_ NB504_547.out _; (with_reducible repeat (first | refine blk_drewN ?_ _ | refine blk_drew ?_ | refine blk_alloc ?_ _)); exact BK504.out) hb); have n10_ := Aside0.mk (blk_below (g := gb505) (o := .cells #[.int .i64 t499, .int .u64 t500, .int .u64 t501, .int .i64 t502] 61 (0, 0)) (by (with_reducible repeat (first | refine blk_drewN ?_ _ | refine blk_drew ?_ | refine blk_alloc ?_ _)); refine blk_far ?_ NB505_547.out _; (with_reducible repeat (first | refine blk_drewN ?_ _ | refine blk_drew ?_ | refine blk_alloc ?_ _)); refine blk_far ?_ NB505_547.out _; (with_reducible repeat (first | refine blk_drewN ?_ _ | refine blk_drew ?_ | refine blk_alloc ?_ _)); exact BK505.out) hb); have n11_ := Aside0.mk (blk_below (g := gb518) (o := .cells #[.int .i64 t506, .slice Ao32 t507.length co32] 59 (0, 0)) (by (with_reducible repeat (first | refine blk_drewN ?_ _ | refine blk_drew ?_ | refine blk_alloc ?_ _)); refine blk_far ?_ NB518_547.out _; (with_reducible repeat (first | refine blk_drewN ?_ _ | refine blk_drew ?_ | refine blk_alloc ?_ _)); refine blk_far ?_ NB518_547.out _; (with_reducible repeat (first | refine blk_drewN ?_ _ | refine blk_drew ?_ | refine blk_alloc ?_ _)); exact BK518.out) hb); have n12_ := Aside0.mk (blk_below (g := gb519) (o := .cells #[.int .i64 t513, .int .u64 t514, .int .u64 t515, .int .i64 t516] 61 (0, 0)) (by (with_reducible repeat (first | refine blk_drewN ?_ _ | refine blk_drew ?_ | refine blk_alloc ?_ _)); refine blk_far ?_ NB519_547.out _; (with_reducible repeat (first | refine blk_drewN ?_ _ | refine blk_drew ?_ | refine blk_alloc ?_ _)); refine blk_far ?_ NB519_547.out _; (with_reducible repeat (first | refine blk_drewN ?_ _ | refine blk_drew ?_ | refine blk_alloc ?_ _)); exact BK519.out) hb); have n13_ := Aside0.mk (blk_below (g := gb531) (o := .cells #[.int .i64 t523, .slice Ao48 t524.length co48] 59 (0, 0)) (by (with_reducible repeat (first | refine blk_drewN ?_ _ | refine blk_drew ?_ | refine blk_alloc ?_ _)); refine blk_far ?_ NB531_547.out _; (with_reducible repeat (first | refine blk_drewN ?_ _ | refine blk_drew ?_ | refine blk_alloc ?_ _)); refine blk_far ?_ NB531_547.out _; (with_reducible repeat (first | refine blk_drewN ?_ _ | refine blk_drew ?_ | refine blk_alloc ?_ _)); exact BK531.out) hb); have n14_ := Aside0.mk (blk_below (g := gb532) (o := .cells #[.int .i64 t527, .int .u64 t528, .int .u64 t529, .int .i64 t530] 61 (0, 0)) (by (with_reducible repeat (first | refine blk_drewN ?_ _ | refine blk_drew ?_ | refine blk_alloc ?_ _)); refine blk_far ?_ NB532_547.out _; (with_reducible repeat (first | refine blk_drewN ?_ _ | refine blk_drew ?_ | refine blk_alloc ?_ _)); refine blk_far ?_ NB532_547.out _; (with_reducible repeat (first | refine blk_drewN ?_ _ | refine blk_drew ?_ | refine blk_alloc ?_ _)); exact BK532.out) hb); have n15_ := Aside0.mk (blk_below (g := gb541) (o := .cells #[.int .i64 t533, .slice Ao65 t534.length co65] 59 (0, 0)) (by (with_reducible repeat (first | refine blk_drewN ?_ _ | refine blk_drew ?_ | refine blk_alloc ?_ _)); refine blk_far ?_ NB541_547.out _; (with_reducible repeat (first | refine blk_drewN ?_ _ | refine blk_drew ?_ | refine blk_alloc ?_ _)); refine blk_far ?_ NB541_547.out _; (with_reducible repeat (first | refine blk_drewN ?_ _ | refine blk_drew ?_ | refine blk_alloc ?_ _)); exact BK541.out) hb); have n16_ := Aside0.mk (blk_below (g := gb542) (o := .cells #[.int .i64 t537, .int .u64 t538, .int .u64 t539, .int .i64 t540] 61 (0, 0)) (by (with_reducible repeat (first | refine blk_drewN ?_ _ | refine blk_drew ?_ | refine blk_alloc ?_ _)); refine blk_far ?_ NB542_547.out _; (with_reducible repeat (first | refine blk_drewN ?_ _ | refine blk_drew ?_ | refine blk_alloc ?_ _)); refine blk_far ?_ NB542_547.out _; (with_reducible repeat (first | refine blk_drewN ?_ _ | refine blk_drew ?_ | refine blk_alloc ?_ _)); exact BK542.out) hb); have n17_ := Aside0.mk (blk_below (g := gb547) (o := .cells #[.int .i64 t543, .slice Ao84 t544.length co84] 59 (0, 0)) (by (with_reducible repeat (first | refine blk_drewN ?_ _ | refine blk_drew ?_ | refine blk_alloc ?_ _)); refine blk_put (cs := #[.int .i64 t543, .slice none 0 0]) ?_ 1 _ rfl; (with_reducible repeat (first | refine blk_drewN ?_ _ | refine blk_drew ?_ | refine blk_alloc ?_ _)); refine blk_put (cs := #[.int .i64 0, .slice none 0 0]) ?_ 0 _ rfl; (with_reducible repeat (first | refine blk_drewN ?_ _ | refine blk_drew ?_ | refine blk_alloc ?_ _)); exact BK547.out) hb); have n18_ := Aside0.mk (below_step (by repeat (first | (with_reducible first | exact HB.out | apply below_alloc | apply pw_below_drewN | apply below_drew1 | refine below_set ?_ GE504.out | refine below_set ?_ GE505.out | refine below_set ?_ GE518.out | refine below_set ?_ GE519.out | refine below_set ?_ GE531.out | refine below_set ?_ GE532.out | refine below_set ?_ GE541.out | refine below_set ?_ GE542.out | refine below_set ?_ GE547.out) | exact HB.out)) hb); clear HO495; clear HO498; clear HO509; clear HO512; clear HO522; clear HO526; clear HO536; clear HO546; clear BK504; clear BK505; clear BK518; clear BK519; clear BK531; clear BK532; clear BK541; clear BK542; clear BK547; clear HB; have HO495 := n0_; have HO498 := n1_; have HO509 := n2_; have HO512 := n3_; have HO522 := n4_; have HO526 := n5_; have HO536 := n6_; have HO546 := n7_; have HO550 := n8_; have BK504 := n9_; have BK505 := n10_; have BK518 := n11_; have BK519 := n12_; have BK531 := n13_; have BK532 := n14_; have BK541 := n15_; have BK542 := n16_; have BK547 := n17_; have HB := n18_; clear n0_ n1_ n2_ n3_ n4_ n5_ n6_ n7_ n8_ n9_ n10_ n11_ n12_ n13_ n14_ n15_ n16_ n17_ n18_; clear hb ho87; obtain ⟨Ao88, co88, eo88⟩ := Kd.R_slice HO550.out; subst eo88) | ((with_reducible refine gate_callee (f := 39) rfl ?_); refine goesL_ (some 44) rfl rfl Try.func39 (by kernel_rfl) rfl #[.slice Ao23 t493.length co23, .slice Ao88 y548.length co88] rfl (by (try simp only [List.map_toArray, List.map_cons, List.map_nil]); first | done | rfl | (simp only [List.length_drop, List.length_take]; rfl)) ?_; (with_reducible refine (janusref01_Words.calls k _ _ t493 _ _ y548 true _ ?side1 ?side2 ?side3 ?side4 A6.out).mono ?_); (case side1 => repeat (first | exact (Kd.R_reads' HO495.out).2.2 | (with_reducible refine Kd.C_alloc ?_ _) | (with_reducible refine Kd.C_drewN ?_ _) | (with_reducible refine Kd.C_drew ?_))); (case side2 => exact (Kd.R_reads' HO495.out).2.1); (case side3 => repeat (first | exact (Kd.R_reads' HO550.out).2.2 | (with_reducible refine Kd.C_alloc ?_ _) | (with_reducible refine Kd.C_drewN ?_ _) | (with_reducible refine Kd.C_drew ?_))); (case side4 => exact (Kd.R_reads' HO550.out).2.1); rintro e w' ⟨rfl, ⟨nd, rfl⟩⟩; refine ⟨_, rfl, ?_⟩; have hcz89_0 : w86.cell? ⟨gb504, 0, none⟩ = some (.int .i64 t492) := (blk_cell BK504.out 0).trans rfl; have hcz89_1 : w86.cell? ⟨gb504, 1, none⟩ = some (.slice Ao23 t493.length co23) := (blk_cell BK504.out 1).trans rfl; have hfz89_0 := blk_frozen BK504.out 0; have hfz89_1 := blk_frozen BK504.out 1; have hcz90_0 : w86.cell? ⟨gb505, 0, none⟩ = some (.int .i64 t499) := (blk_cell BK505.out 0).trans rfl; have hcz90_1 : w86.cell? ⟨gb505, 1, none⟩ = some (.int .u64 t500) := (blk_cell BK505.out 1).trans rfl; have hcz90_2 : w86.cell? ⟨gb505, 2, none⟩ = some (.int .u64 t501) := (blk_cell BK505.out 2).trans rfl; have hcz90_3 : w86.cell? ⟨gb505, 3, none⟩ = some (.int .i64 t502) := (blk_cell BK505.out 3).trans rfl; have hfz90_0 := blk_frozen BK505.out 0; have hfz90_1 := blk_frozen BK505.out 1; have hfz90_2 := blk_frozen BK505.out 2; have hfz90_3 := blk_frozen BK505.out 3; have hcz91_0 : w86.cell? ⟨gb518, 0, none⟩ = some (.int .i64 t506) := (blk_cell BK518.out 0).trans rfl; have hcz91_1 : w86.cell? ⟨gb518, 1, none⟩ = some (.slice Ao32 t507.length co32) := (blk_cell BK518.out 1).trans rfl; have hfz91_0 := blk_frozen BK518.out 0; have hfz91_1 := blk_frozen BK518.out 1) | ((with_reducible refine gate_dst (N := 67) rfl ?_); (try (refine gate_guard (by rfl) ?_; dsimp only)); refine Kd.R_lit (Kd.int .u64) _ 34 ?hg (N := 67) ?hd (xs := ([0] : List Int)) (inner := [.int .u64 0]) (ok := fun _ => True) (okp := fun _ => True) ?hr ?hp (fun _ hk => hk) trivial (Below.refl _ _) (Nat.le_refl _) (by simp) ?_; (case hd => rfl); (case hg => rfl); (case hr => first | (go_simp; done) | (go_simp; rfl)); (case hp => exact (Reps.one (show Kd.M (Kd.int .u64) _ _ _ 0 [.int .u64 0] from rfl) (Reps.none _ _))); intro v553 w92 ho93 hb hg_ hnew_; clear hg_ hnew_; (first | rw [← Ny552.out] at ho93 | (simp only [Int.reduceToNat] at ho93; rw [← Ny552.out] at ho93)); have n0_ := Aside0.mk (Kd.R_elder' (by (with_reducible repeat (first | apply Kd.R_alloc | apply Kd.R_drewN | apply Kd.R_drew)); exact HO495.out) (Kd.R_base ho93) hb); have n1_ := Aside0.mk (Kd.R_elder' (by (with_reducible repeat (first | apply Kd.R_alloc | apply Kd.R_drewN | apply Kd.R_drew)); exact HO498.out) (Kd.R_base ho93) hb); have n2_ := Aside0.mk (Kd.R_elder' (by (with_reducible repeat (first | apply Kd.R_alloc | apply Kd.R_drewN | apply Kd.R_drew)); exact HO509.out) (Kd.R_base ho93) hb); have n3_ := Aside0.mk (Kd.R_elder' (by (with_reducible repeat (first | apply Kd.R_alloc | apply Kd.R_drewN | apply Kd.R_drew)); exact HO512.out) (Kd.R_base ho93) hb); have n4_ := Aside0.mk (Kd.R_elder' (by (with_reducible repeat (first | apply Kd.R_alloc | apply Kd.R_drewN | apply Kd.R_drew)); exact HO522.out) (Kd.R_base ho93) hb); have n5_ := Aside0.mk (Kd.R_elder' (by (with_reducible repeat (first | apply Kd.R_alloc | apply Kd.R_drewN | apply Kd.R_drew)); exact HO526.out) (Kd.R_base ho93) hb); have n6_ := Aside0.mk (Kd.R_elder' (by (with_reducible repeat (first | apply Kd.R_alloc | apply Kd.R_drewN | apply Kd.R_drew)); exact HO536.out) (Kd.R_base ho93) hb); have n7_ := Aside0.mk (Kd.R_elder' (by (with_reducible repeat (first | apply Kd.R_alloc | apply Kd.R_drewN | apply Kd.R_drew)); exact HO546.out) (Kd.R_base ho93) hb); have n8_ := Aside0.mk (Kd.R_elder' (by (with_reducible repeat (first | apply Kd.R_alloc | apply Kd.R_drewN | apply Kd.R_drew)); exact HO550.out) (Kd.R_base ho93) hb); have n9_ := Aside0.mk (Kd.R_lower (Kd.R_new' (Kd.R_new' (Kd.R_new' (Kd.R_new' (Kd.R_new' (Kd.R_new' (Kd.R_new' (Kd.R_new' (Kd.R_new' ho93 (Kd.R_lt (by (with_reducible repeat (first | apply Kd.R_alloc | apply Kd.R_drewN | apply Kd.R_drew)); exact HO495.out))) (Kd.R_lt (by (with_reducible repeat (first | apply Kd.R_alloc | apply Kd.R_drewN | apply Kd.R_drew)); exact HO498.out))) (Kd.R_lt (by (with_reducible repeat (first | apply Kd.R_alloc | apply Kd.R_drewN | apply Kd.R_drew)); exact HO509.out))) (Kd.R_lt (by (with_reducible repeat (first | apply Kd.R_alloc | apply Kd.R_drewN | apply Kd.R_drew)); exact HO512.out))) (Kd.R_lt (by (with_reducible repeat (first | apply Kd.R_alloc | apply Kd.R_drewN | apply Kd.R_drew)); exact HO522.out))) (Kd.R_lt (by (with_reducible repeat (first | apply Kd.R_alloc | apply Kd.R_drewN | apply Kd.R_drew)); exact HO526.out))) (Kd.R_lt (by (with_reducible repeat (first | apply Kd.R_alloc | apply Kd.R_drewN | apply Kd.R_drew)); exact HO536.out))) (Kd.R_lt (by (with_reducible repeat (first | apply Kd.R_alloc | apply Kd.R_drewN | apply Kd.R_drew)); exact HO546.out))) (Kd.R_lt (by (with_reducible repeat (first | apply Kd.R_alloc | apply Kd.R_drewN | apply Kd.R_drew)); exact HO550.out))) (below_size (by repeat (first | (with_reducible first | exact HB.out | apply below_alloc | apply pw_below_drewN | apply below_drew1 | refine below_set ?_ GE504.out | refine below_set ?_ GE505.out | refine below_set ?_ GE518.out | refine below_set ?_ GE519.out | refine below_set ?_ GE531.out | refine below_set ?_ GE532.out | refine below_set ?_ GE541.out | refine below_set ?_ GE542.out | refine below_set ?_ GE547.out) | exact HB.out)))); have n10_ := Aside0.mk (blk_below (g := gb504) (o := .cells #[.int .i64 t492, .slice Ao23 t493.length co23] 59 (0, 0)) (by (with_reducible repeat (first | refine blk_drewN ?_ _ | refine blk_drew ?_ | refine blk_alloc ?_ _)); exact BK504.out) hb); have n11_ := Aside0.mk (blk_below (g := gb505) (o := .cells #[.int .i64 t499, .int .u64 t500, .int .u64 t501, .int .i64 t502] 61 (0, 0)) (by (with_reducible repeat (first | refine blk_drewN ?_ _ | refine blk_drew ?_ | refine blk_alloc ?_ _)); exact BK505.out) hb); have n12_ := Aside0.mk (blk_below (g := gb518) (o := .cells #[.int .i64 t506, .slice Ao32 t507.length co32] 59 (0, 0)) (by (with_reducible repeat (first | refine blk_drewN ?_ _ | refine blk_drew ?_ | refine blk_alloc ?_ _)); exact BK518.out) hb); have n13_ := Aside0.mk (blk_below (g := gb519) (o := .cells #[.int .i64 t513, .int .u64 t514, .int .u64 t515, .int .i64 t516] 61 (0, 0)) (by (with_reducible repeat (first | refine blk_drewN ?_ _ | refine blk_drew ?_ | refine blk_alloc ?_ _)); exact BK519.out) hb); have n14_ := Aside0.mk (blk_below (g := gb531) (o := .cells #[.int .i64 t523, .slice Ao48 t524.length co48] 59 (0, 0)) (by (with_reducible repeat (first | refine blk_drewN ?_ _ | refine blk_drew ?_ | refine blk_alloc ?_ _)); exact BK531.out) hb); have n15_ := Aside0.mk (blk_below (g := gb532) (o := .cells #[.int .i64 t527, .int .u64 t528, .int .u64 t529, .int .i64 t530] 61 (0, 0)) (by (with_reducible repeat (first | refine blk_drewN ?_ _ | refine blk_drew ?_ | refine blk_alloc ?_ _)); exact BK532.out) hb); have n16_ := Aside0.mk (blk_below (g := gb541) (o := .cells #[.int .i64 t533, .slice Ao65 t534.length co65] 59 (0, 0)) (by (with_reducible repeat (first | refine blk_drewN ?_ _ | refine blk_drew ?_ | refine blk_alloc ?_ _)); exact BK541.out) hb); have n17_ := Aside0.mk (blk_below (g := gb542) (o := .cells #[.int .i64 t537, .int .u64 t538, .int .u64 t539, .int .i64 t540] 61 (0, 0)) (by (with_reducible repeat (first | refine blk_drewN ?_ _ | refine blk_drew ?_ | refine blk_alloc ?_ _)); exact BK542.out) hb); have n18_ := Aside0.mk (blk_below (g := gb547) (o := .cells #[.int .i64 t543, .slice Ao84 t544.length co84] 59 (0, 0)) (by (with_reducible repeat (first | refine blk_drewN ?_ _ | refine blk_drew ?_ | refine blk_alloc ?_ _)); exact BK547.out) hb); have n19_ := Aside0.mk (below_step (by repeat (first | (with_reducible first | exact HB.out | apply below_alloc | apply pw_below_drewN | apply below_drew1 | refine below_set ?_ GE504.out | refine below_set ?_ GE505.out | refine below_set ?_ GE518.out | refine below_set ?_ GE519.out | refine below_set ?_ GE531.out | refine below_set ?_ GE532.out | refine below_set ?_ GE541.out | refine below_set ?_ GE542.out | refine below_set ?_ GE547.out) | exact HB.out)) hb); clear HO495; clear HO498; clear HO509; clear HO512; clear HO522; clear HO526; clear HO536; clear HO546; clear HO550; clear BK504; clear BK505; clear BK518; clear BK519; clear BK531; clear BK532; clear BK541; clear BK542; clear BK547; clear HB; have HO495 := n0_; have HO498 := n1_; have HO509 := n2_; have HO512 := n3_; have HO522 := n4_; have HO526 := n5_; have HO536 := n6_; have HO546 := n7_; have HO550 := n8_; have HO554 := n9_; have BK504 := n10_; have BK505 := n11_; have BK518 := n12_; have BK519 := n13_; have BK531 := n14_; have BK532 := n15_; have BK541 := n16_; have BK542 := n17_; have BK547 := n18_; have HB := n19_; clear n0_ n1_ n2_ n3_ n4_ n5_ n6_ n7_ n8_ n9_ n10_ n11_ n12_ n13_ n14_ n15_ n16_ n17_ n18_ n19_; clear hb ho93; obtain ⟨Ao94, co94, eo94⟩ := Kd.R_slice HO554.out; subst eo94) | (go_at_call 39; (with_reducible refine (janusref01_Words.calls k _ _ t507 _ _ y552 true _ ?side1 ?side2 ?side3 ?side4 A12.out).mono ?_); (case side1 => repeat (first | exact (Kd.R_reads' HO509.out).2.2 | (with_reducible refine Kd.C_alloc ?_ _) | (with_reducible refine Kd.C_drewN ?_ _) | (with_reducible refine Kd.C_drew ?_))); (case side2 => exact (Kd.R_reads' HO509.out).2.1); (case side3 => repeat (first | exact (Kd.R_reads' HO554.out).2.2 | (with_reducible refine Kd.C_alloc ?_ _) | (with_reducible refine Kd.C_drewN ?_ _) | (with_reducible refine Kd.C_drew ?_))); (case side4 => exact (Kd.R_reads' HO554.out).2.1); rintro e w' ⟨rfl, ⟨nd, rfl⟩⟩; have hcz95_0 : w92.cell? ⟨gb532, 0, none⟩ = some (.int .i64 t527) := (blk_cell BK532.out 0).trans rfl; have hcz95_1 : w92.cell? ⟨gb532, 1, none⟩ = some (.int .u64 t528) := (blk_cell BK532.out 1).trans rfl; have hcz95_2 : w92.cell? ⟨gb532, 2, none⟩ = some (.int .u64 t529) := (blk_cell BK532.out 2).trans rfl; have hcz95_3 : w92.cell? ⟨gb532, 3, none⟩ = some (.int .i64 t530) := (blk_cell BK532.out 3).trans rfl; have hfz95_0 := blk_frozen BK532.out 0; have hfz95_1 := blk_frozen BK532.out 1; have hfz95_2 := blk_frozen BK532.out 2; have hfz95_3 := blk_frozen BK532.out 3; have hcz96_0 : w92.cell? ⟨gb542, 0, none⟩ = some (.int .i64 t537) := (blk_cell BK542.out 0).trans rfl; have hcz96_1 : w92.cell? ⟨gb542, 1, none⟩ = some (.int .u64 t538) := (blk_cell BK542.out 1).trans rfl; have hcz96_2 : w92.cell? ⟨gb542, 2, none⟩ = some (.int .u64 t539) := (blk_cell BK542.out 2).trans rfl; have hcz96_3 : w92.cell? ⟨gb542, 3, none⟩ = some (.int .i64 t540) := (blk_cell BK542.out 3).trans rfl; have hfz96_0 := blk_frozen BK542.out 0; have hfz96_1 := blk_frozen BK542.out 1; have hfz96_2 := blk_frozen BK542.out 2; have hfz96_3 := blk_frozen BK542.out 3; have hcz97_0 : w92.cell? ⟨gb547, 0, none⟩ = some (.int .i64 t543) := (blk_cell BK547.out 0).trans rfl; have hcz97_1 : w92.cell? ⟨gb547, 1, none⟩ = some (.slice Ao84 t544.length co84) := (blk_cell BK547.out 1).trans rfl; have hfz97_0 := blk_frozen BK547.out 0; have hfz97_1 := blk_frozen BK547.out 1) | ((with_reducible refine gate_dst (N := 88) rfl ?_); (try (refine gate_guard (by rfl) ?_; dsimp only)); refine Kd.R_lit (Kd.int .u64) _ 34 ?hg (N := 88) ?hd (xs := ([7] : List Int)) (inner := [.int .u64 7]) (ok := fun _ => True) (okp := fun _ => True) ?hr ?hp (fun _ hk => hk) trivial (Below.refl _ _) (Nat.le_refl _) (by simp) ?_; (case hd => rfl); (case hg => rfl); (case hr => first | (go_simp; done) | (go_simp; rfl)); (case hp => exact (Reps.one (show Kd.M (Kd.int .u64) _ _ _ 7 [.int .u64 7] from rfl) (Reps.none _ _))); intro v557 w98 ho99 hb hg_ hnew_; clear hg_ hnew_; (first | rw [← Ny556.out] at ho99 | (simp only [Int.reduceToNat] at ho99; rw [← Ny556.out] at ho99)); have n0_ := Aside0.mk (Kd.R_elder' (by (with_reducible repeat (first | apply Kd.R_alloc | apply Kd.R_drewN | apply Kd.R_drew)); exact HO495.out) (Kd.R_base ho99) hb); have n1_ := Aside0.mk (Kd.R_elder' (by (with_reducible repeat (first | apply Kd.R_alloc | apply Kd.R_drewN | apply Kd.R_drew)); exact HO498.out) (Kd.R_base ho99) hb); have n2_ := Aside0.mk (Kd.R_elder' (by (with_reducible repeat (first | apply Kd.R_alloc | apply Kd.R_drewN | apply Kd.R_drew)); exact HO509.out) (Kd.R_base ho99) hb); have n3_ := Aside0.mk (Kd.R_elder' (by (with_reducible repeat (first | apply Kd.R_alloc | apply Kd.R_drewN | apply Kd.R_drew)); exact HO512.out) (Kd.R_base ho99) hb); have n4_ := Aside0.mk (Kd.R_elder' (by (with_reducible repeat (first | apply Kd.R_alloc | apply Kd.R_drewN | apply Kd.R_drew)); exact HO522.out) (Kd.R_base ho99) hb); have n5_ := Aside0.mk (Kd.R_elder' (by (with_reducible repeat (first | apply Kd.R_alloc | apply Kd.R_drewN | apply Kd.R_drew)); exact HO526.out) (Kd.R_base ho99) hb); have n6_ := Aside0.mk (Kd.R_elder' (by (with_reducible repeat (first | apply Kd.R_alloc | apply Kd.R_drewN | apply Kd.R_drew)); exact HO536.out) (Kd.R_base ho99) hb); have n7_ := Aside0.mk (Kd.R_elder' (by (with_reducible repeat (first | apply Kd.R_alloc | apply Kd.R_drewN | apply Kd.R_drew)); exact HO546.out) (Kd.R_base ho99) hb); have n8_ := Aside0.mk (Kd.R_elder' (by (with_reducible repeat (first | apply Kd.R_alloc | apply Kd.R_drewN | apply Kd.R_drew)); exact HO550.out) (Kd.R_base ho99) hb); have n9_ := Aside0.mk (Kd.R_elder' (by (with_reducible repeat (first | apply Kd.R_alloc | apply Kd.R_drewN | apply Kd.R_drew)); exact HO554.out) (Kd.R_base ho99) hb); have n10_ := Aside0.mk (Kd.R_lower (Kd.R_new' (Kd.R_new' (Kd.R_new' (Kd.R_new' (Kd.R_new' (Kd.R_new' (Kd.R_new' (Kd.R_new' (Kd.R_new' (Kd.R_new' ho99 (Kd.R_lt (by (with_reducible repeat (first | apply Kd.R_alloc | apply Kd.R_drewN | apply Kd.R_drew)); exact HO495.out))) (Kd.R_lt (by (with_reducible repeat (first | apply Kd.R_alloc | apply Kd.R_drewN | apply Kd.R_drew)); exact HO498.out))) (Kd.R_lt (by (with_reducible repeat (first | apply Kd.R_alloc | apply Kd.R_drewN | apply Kd.R_drew)); exact HO509.out))) (Kd.R_lt (by (with_reducible repeat (first | apply Kd.R_alloc | apply Kd.R_drewN | apply Kd.R_drew)); exact HO512.out))) (Kd.R_lt (by (with_reducible repeat (first | apply Kd.R_alloc | apply Kd.R_drewN | apply Kd.R_drew)); exact HO522.out))) (Kd.R_lt (by (with_reducible repeat (first | apply Kd.R_alloc | apply Kd.R_drewN | apply Kd.R_drew)); exact HO526.out))) (Kd.R_lt (by (with_reducible repeat (first | apply Kd.R_alloc | apply Kd.R_drewN | apply Kd.R_drew)); exact HO536.out))) (Kd.R_lt (by (with_reducible repeat (first | apply Kd.R_alloc | apply Kd.R_drewN | apply Kd.R_drew)); exact HO546.out))) (Kd.R_lt (by (with_reducible repeat (first | apply Kd.R_alloc | apply Kd.R_drewN | apply Kd.R_drew)); exact HO550.out))) (Kd.R_lt (by (with_reducible repeat (first | apply Kd.R_alloc | apply Kd.R_drewN | apply Kd.R_drew)); exact HO554.out))) (below_size (by repeat (first | (with_reducible first | exact HB.out | apply below_alloc | apply pw_below_drewN | apply below_drew1 | refine below_set ?_ GE504.out | refine below_set ?_ GE505.out | refine below_set ?_ GE518.out | refine below_set ?_ GE519.out | refine below_set ?_ GE531.out | refine below_set ?_ GE532.out | refine below_set ?_ GE541.out | refine below_set ?_ GE542.out | refine below_set ?_ GE547.out) | exact HB.out)))); have n11_ := Aside0.mk (blk_below (g := gb504) (o := .cells #[.int .i64 t492, .slice Ao23 t493.length co23] 59 (0, 0)) (by (with_reducible repeat (first | refine blk_drewN ?_ _ | refine blk_drew ?_ | refine blk_alloc ?_ _)); exact BK504.out) hb); have n12_ := Aside0.mk (blk_below (g := gb505) (o := .cells #[.int .i64 t499, .int .u64 t500, .int .u64 t501, .int .i64 t502] 61 (0, 0)) (by (with_reducible repeat (first | refine blk_drewN ?_ _ | refine blk_drew ?_ | refine blk_alloc ?_ _)); exact BK505.out) hb); have n13_ := Aside0.mk (blk_below (g := gb518) (o := .cells #[.int .i64 t506, .slice Ao32 t507.length co32] 59 (0, 0)) (by (with_reducible repeat (first | refine blk_drewN ?_ _ | refine blk_drew ?_ | refine blk_alloc ?_ _)); exact BK518.out) hb); have n14_ := Aside0.mk (blk_below (g := gb519) (o := .cells #[.int .i64 t513, .int .u64 t514, .int .u64 t515, .int .i64 t516] 61 (0, 0)) (by (with_reducible repeat (first | refine blk_drewN ?_ _ | refine blk_drew ?_ | refine blk_alloc ?_ _)); exact BK519.out) hb); have n15_ := Aside0.mk (blk_below (g := gb531) (o := .cells #[.int .i64 t523, .slice Ao48 t524.length co48] 59 (0, 0)) (by (with_reducible repeat (first | refine blk_drewN ?_ _ | refine blk_drew ?_ | refine blk_alloc ?_ _)); exact BK531.out) hb); have n16_ := Aside0.mk (blk_below (g := gb532) (o := .cells #[.int .i64 t527, .int .u64 t528, .int .u64 t529, .int .i64 t530] 61 (0, 0)) (by (with_reducible repeat (first | refine blk_drewN ?_ _ | refine blk_drew ?_ | refine blk_alloc ?_ _)); exact BK532.out) hb); have n17_ := Aside0.mk (blk_below (g := gb541) (o := .cells #[.int .i64 t533, .slice Ao65 t534.length co65] 59 (0, 0)) (by (with_reducible repeat (first | refine blk_drewN ?_ _ | refine blk_drew ?_ | refine blk_alloc ?_ _)); exact BK541.out) hb); have n18_ := Aside0.mk (blk_below (g := gb542) (o := .cells #[.int .i64 t537, .int .u64 t538, .int .u64 t539, .int .i64 t540] 61 (0, 0)) (by (with_reducible repeat (first | refine blk_drewN ?_ _ | refine blk_drew ?_ | refine blk_alloc ?_ _)); exact BK542.out) hb); have n19_ := Aside0.mk (blk_below (g := gb547) (o := .cells #[.int .i64 t543, .slice Ao84 t544.length co84] 59 (0, 0)) (by (with_reducible repeat (first | refine blk_drewN ?_ _ | refine blk_drew ?_ | refine blk_alloc ?_ _)); exact BK547.out) hb); have n20_ := Aside0.mk (below_step (by repeat (first | (with_reducible first | exact HB.out | apply below_alloc | apply pw_below_drewN | apply below_drew1 | refine below_set ?_ GE504.out | refine below_set ?_ GE505.out | refine below_set ?_ GE518.out | refine below_set ?_ GE519.out | refine below_set ?_ GE531.out | refine below_set ?_ GE532.out | refine below_set ?_ GE541.out | refine below_set ?_ GE542.out | refine below_set ?_ GE547.out) | exact HB.out)) hb); clear HO495; clear HO498; clear HO509; clear HO512; clear HO522; clear HO526; clear HO536; clear HO546; clear HO550; clear HO554; clear BK504; clear BK505; clear BK518; clear BK519; clear BK531; clear BK532; clear BK541; clear BK542; clear BK547; clear HB; have HO495 := n0_; have HO498 := n1_; have HO509 := n2_; have HO512 := n3_; have HO522 := n4_; have HO526 := n5_; have HO536 := n6_; have HO546 := n7_; have HO550 := n8_; have HO554 := n9_; have HO558 := n10_; have BK504 := n11_; have BK505 := n12_; have BK518 := n13_; have BK519 := n14_; have BK531 := n15_; have BK532 := n16_; have BK541 := n17_; have BK542 := n18_; have BK547 := n19_; have HB := n20_; clear n0_ n1_ n2_ n3_ n4_ n5_ n6_ n7_ n8_ n9_ n10_ n11_ n12_ n13_ n14_ n15_ n16_ n17_ n18_ n19_ n20_; clear hb ho99; obtain ⟨Ao100, co100, eo100⟩ := Kd.R_slice HO558.out; subst eo100) | (go_at_call 39; (with_reducible refine (janusref01_Words.calls k _ _ t544 _ _ y556 t559 _ ?side1 ?side2 ?side3 ?side4 A17.out).mono ?_); (case side1 => repeat (first | exact (Kd.R_reads' HO546.out).2.2 | (with_reducible refine Kd.C_alloc ?_ _) | (with_reducible refine Kd.C_drewN ?_ _) | (with_reducible refine Kd.C_drew ?_))); (case side2 => exact (Kd.R_reads' HO546.out).2.1); (case side3 => repeat (first | exact (Kd.R_reads' HO558.out).2.2 | (with_reducible refine Kd.C_alloc ?_ _) | (with_reducible refine Kd.C_drewN ?_ _) | (with_reducible refine Kd.C_drew ?_))); (case side4 => exact (Kd.R_reads' HO558.out).2.1); rintro e w' ⟨rfl, ⟨nd, rfl⟩⟩))
          go_ret
          exact ⟨by first | rfl | (simp [errW_none, errW_some] <;> rfl) | (simp [*, errW_none, errW_some] <;> rfl), by repeat (first | (with_reducible first | exact HB.out | apply below_alloc | apply pw_below_drewN | apply below_drew1 | refine below_set ?_ GE504.out | refine below_set ?_ GE505.out | refine below_set ?_ GE518.out | refine below_set ?_ GE519.out | refine below_set ?_ GE531.out | refine below_set ?_ GE532.out | refine below_set ?_ GE541.out | refine below_set ?_ GE542.out | refine below_set ?_ GE547.out) | exact HB.out)⟩
         ·rw [if_neg c16] at H
          exact absurd H (by simp)
        ·rw [if_neg c15] at H
         exact absurd H (by simp)
       ·rw [if_neg c14] at H
        exact absurd H (by simp)
      ·replace c13 := Bool.eq_false_iff.mpr c13
       subst c13
       have H1 : (none) = some r := by rw [if_neg (show ¬ (false = true) by decide)] at H; exact H
       clear H
       have H := H1
       clear H1
       exact absurd H (by simp)
     ·rw [if_neg c11] at H
      exact absurd H (by simp)
    ·rw [if_neg c10] at H
     exact absurd H (by simp)
   ·rw [if_neg c9] at H
    exact absurd H (by simp)
  ·rw [if_neg c8] at H
   exact absurd H (by simp)
 ·replace c7 := Bool.eq_false_iff.mpr c7
  subst c7
  have H1 : (none) = some r := by rw [if_neg (show ¬ (false = true) by decide)] at H; exact H
  clear H
  have H := H1
  clear H1
  exact absurd H (by simp)
end Go.Proofs.Ytjbpljcfogekhaa.Q
namespace Go.Proofs.Ytjbpljcfogekhaa.Core
open Go.RowKit Ytjbpljcfogekhaa.Q YtjbpljcfogekhaaW.PrintWords YtjbpljcfogekhaaW.PrintLast YtjbpljcfogekhaaW.PrintMore
theorem awake07 : Ev (fun k => januslaw07_awake.f k) true := Ev.of januslaw07_awake.mono (k := 40) (by decide +kernel)
end Go.Proofs.Ytjbpljcfogekhaa.Core
namespace Go.Proofs.Ytjbpljcfogekhaa.Core
open Go.RowKit Ytjbpljcfogekhaa.Q YtjbpljcfogekhaaW.PrintWords YtjbpljcfogekhaaW.PrintLast YtjbpljcfogekhaaW.PrintMore
theorem dec_at (s : ByteArray) : ∀ (d : Nat) (p : Int) (l : List S36), dec s d p = some l →
  (∀ x, l[0]? = some x → x.f2 = p) ∧ ∀ (i : Nat) (x : S36), l[i]? = some x → oneS s x.f2 = (x.f0, x.f1, x.f2, x.f3, 0) ∧ ∀ y, l[i + 1]? = some y → y.f2 = x.f2 + x.f3
 | 0, p, l, h => by
  simp only [dec, Option.some.injEq] at h
  subst h
  exact ⟨fun x hx => by simp at hx, fun i x hx => by simp at hx⟩
 | d + 1, p, l, h => by
  rw [dec] at h
  split at h
  ·split at h
   ·rename_i h1 h2
    obtain ⟨m, hm, h3⟩ := Option.bind_eq_some_iff.1 h
    simp only [Option.some.injEq] at h3
    subst h3
    obtain ⟨i1, i2⟩ := dec_at s d _ m hm
    have ok := oneS_ok h2
    have ep : (mkIns (oneS s p)).f2 = p := ok.2.2.2.2.2.2.2.1
    refine ⟨fun x hx => ?_, fun i x hx => ?_⟩
    ·simp only [List.getElem?_cons_zero, Option.some.injEq] at hx
     subst hx; exact ep
    ·cases i with
     | zero =>
      simp only [List.getElem?_cons_zero, Option.some.injEq] at hx
      subst hx
      refine ⟨?_, fun y hy => ?_⟩
      ·rw [ep]
       show oneS s p = ((oneS s p).1, (oneS s p).2.1, p, (oneS s p).2.2.2.1, 0)
       have e1 : (oneS s p).2.2.1 = p := ep
       rw [← h2]
       conv => rhs; rw [show ((oneS s p).1, (oneS s p).2.1, p, (oneS s p).2.2.2.1, (oneS s p).2.2.2.2) = ((oneS s p).1, (oneS s p).2.1, (oneS s p).2.2.1, (oneS s p).2.2.2.1, (oneS s p).2.2.2.2) from by rw [e1]]
      ·simp only [List.getElem?_cons_succ, Nat.zero_add] at hy
       rw [i1 y hy, ep]; rfl
     | succ i =>
      simp only [List.getElem?_cons_succ] at hx
      refine ⟨(i2 i x hx).1, fun y hy => ?_⟩
      simp only [List.getElem?_cons_succ] at hy
      exact (i2 i x hx).2 y hy
   ·cases h
  ·simp only [Option.some.injEq] at h
   subst h
   exact ⟨fun x hx => by simp at hx, fun i x hx => by simp at hx⟩
/-- where a step of an instruction may lead -/
structure Next (s : ByteArray) (l : List S36) (i : Nat) (x : S36) (pc : Int) : Prop where
 out : ∃ j y, j ∈ succs l i x ∧ l[j]? = some y ∧ y.f2 = pc
theorem succ_in {s : ByteArray} {l : List S36} {ds : List Int} (R : Ready s l ds) {i : Nat} {x : S36} {d : Int} (hr : Reach l i d) (hx : l[i]? = some x) {j : Nat} (hj : j ∈ succs l i x) :
  Reach l j (d - tk x + pt x) ∧ ∃ y, l[j]? = some y := by
 have h1 : tk x ≤ d := by
  by_cases h : tk x ≤ d
  ·exact h
  ·exact absurd (Bad.stack hr hx (.inl (by omega))) R.good
 have h2 : d - tk x + pt x ≤ 32 := by
  by_cases h : d - tk x + pt x ≤ 32
  ·exact h
  ·exact absurd (Bad.stack hr hx (.inr (by omega))) R.good
 have hR := Reach.step hr hx h1 h2 hj
 refine ⟨hR, ?_⟩
 have := (List.getElem?_eq_some_iff.1 (R.found.all _ _ hR)).1
 rw [R.found.len] at this
 exact ⟨_, List.getElem?_eq_getElem this⟩
theorem next_fall {s : ByteArray} {l : List S36} {ds : List Int} (R : Ready s l ds) {i : Nat} {x : S36} {d : Int} (hr : Reach l i d) (hx : l[i]? = some x) (h : x.f0 ≠ 21) (hs : s.size ≤ 1048576) :
  Next s l i x (wrap64 (x.f2 + x.f3)) := by
 have hj : i + 1 ∈ succs l i x := by unfold succs; rw [if_neg h]; simp
 obtain ⟨y, hy⟩ := (succ_in R hr hx hj).2
 have e := ((dec_at s _ _ _ R.dec).2 i x hx).2 y hy
 have hrx := decAll_range R.dec x (List.mem_of_getElem? hx)
 refine ⟨i + 1, y, hj, hy, ?_⟩
 rw [e, wrap_in (by omega) (by omega)]
theorem next_jump {s : ByteArray} {l : List S36} {ds : List Int} (R : Ready s l ds) {i : Nat} {x : S36} (hx : l[i]? = some x) (h : x.f0 = 21 ∨ x.f0 = 22) (hs : s.size ≤ 1048576) :
  Next s l i x (wrap64 x.f1) := by
 have hjm : jmp x = true := by unfold jmp; rcases h with h | h <;> simp [h]
 obtain ⟨k, hk⟩ := okS_jmp R.ok hx hjm
 have hj : k ∈ succs l i x := by unfold succs; rw [if_pos hjm, hk]; simp
 obtain ⟨y, hy, ey⟩ := findS_some hk
 have hry := decAll_range R.dec y (List.mem_of_getElem? hy)
 refine ⟨k, y, hj, hy, ?_⟩
 rw [wrap_in (by omega) (by omega), ey]
/-- A STEP of a program that may be run. -/
theorem safe_step {s : ByteArray} {l : List S36} {ds : List Int} (R : Ready s l ds) {i : Nat} {x : S36} {st : List Int} (hr : Reach l i (st.length : Int)) (hx : l[i]? = some x) (hs : s.size ≤ 1048576) :
  (x.f0 = 23 ∧ (stepS s x.f2 st).2.2.1 = 3) ∨ ((x.f0 = 9 ∨ x.f0 = 10) ∧ (stepS s x.f2 st).2.2.1 = 4) ∨
  (Next s l i x (stepS s x.f2 st).1 ∧ (((stepS s x.f2 st).2.2.1 = 0 ∧ ((stepS s x.f2 st).2.1.length : Int) = st.length - tk x + pt x) ∨
   ((stepS s x.f2 st).2.2.1 = 1 ∧ x.f0 = 19 ∧ ((stepS s x.f2 st).2.1.length : Int) + 1 = st.length - tk x + pt x) ∨
   ((stepS s x.f2 st).2.2.1 = 2 ∧ x.f0 = 20 ∧ ((stepS s x.f2 st).2.1.length : Int) = st.length - tk x + pt x))) := by
 have e1 := ((dec_at s _ _ _ R.dec).2 i x hx).1
 have hrx := decAll_range R.dec x (List.mem_of_getElem? hx)
 have h1 : tk x ≤ st.length := by
  by_cases h : tk x ≤ st.length
  ·exact h
  ·exact absurd (Bad.stack hr hx (.inl (by omega))) R.good
 have h2 : st.length - tk x + pt x ≤ 32 := by
  by_cases h : st.length - tk x + pt x ≤ 32
  ·exact h
  ·exact absurd (Bad.stack hr hx (.inr (by omega))) R.good
 have ht0 := okS_tk R.ok hx
 unfold stepS
 rw [e1]
 simp only
 rw [if_neg (by simp)]
 by_cases h23 : x.f0 = 23
 ·left; rw [if_pos h23]; exact ⟨h23, rfl⟩
 right
 rw [if_neg h23]
 have etk : (movesS x.f0 x.f1).1 = tk x := rfl
 have ept : (movesS x.f0 x.f1).2 = pt x := rfl
 rw [etk, ept, if_neg (by omega)]
 have hm := moves_op (op := x.f0) (arg := x.f1) (by omega) (by omega)
 have hfall := fun h => next_fall R hr hx h hs
 have hjump := fun h => next_jump R hx h hs
 generalize hbs : st.take (st.length - (tk x).toNat) = bs
 generalize hxs : st.drop (st.length - (tk x).toNat) = xs
 have lb : bs.length = st.length - (tk x).toNat := by rw [← hbs, List.length_take]; omega
 have lx : xs.length = (tk x).toNat := by rw [← hxs, List.length_drop]; omega
 have tp : (movesS x.f0 x.f1) = (tk x, pt x) := rfl
 rw [tp] at hm
 simp only [Prod.mk.injEq] at hm
 rcases xs with _ | ⟨x0, _ | ⟨x1, t⟩⟩
 ·simp only [List.length_nil] at lx
  simp only [doS]
  by_cases h21 : x.f0 = 21
  ·rw [if_pos h21]
   exact .inr ⟨hjump (.inl h21), .inl ⟨rfl, by simp only; omega⟩⟩
  ·rw [if_neg h21]
   exact .inr ⟨hfall h21, .inl ⟨rfl, by simp only [List.length_append, List.length_cons, List.length_nil]; omega⟩⟩
 ·simp only [List.length_cons, List.length_nil] at lx
  simp only [doS]
  by_cases g2 : x.f0 = 2
  ·rw [if_pos g2]; exact .inr ⟨hfall (by omega), .inl ⟨rfl, by simp only [List.length_append, List.length_cons, List.length_nil]; omega⟩⟩
  rw [if_neg g2]
  by_cases g3 : x.f0 = 3
  ·rw [if_pos g3]; exact .inr ⟨hfall (by omega), .inl ⟨rfl, by simp only; omega⟩⟩
  rw [if_neg g3]
  by_cases g18 : x.f0 = 18
  ·rw [if_pos g18]; exact .inr ⟨hfall (by omega), .inl ⟨rfl, by simp only [List.length_append, List.length_cons, List.length_nil]; omega⟩⟩
  rw [if_neg g18]
  by_cases g19 : x.f0 = 19
  ·rw [if_pos g19]; exact .inr ⟨hfall (by omega), .inr (.inl ⟨rfl, g19, by simp only; omega⟩)⟩
  rw [if_neg g19]
  have g22 : x.f0 = 22 := by omega
  refine .inr ⟨?_, .inl ⟨rfl, by simp only; omega⟩⟩
  by_cases hz : x0 = 0
  ·simp only [if_pos hz]; exact hjump (.inr g22)
  ·simp only [if_neg hz]; exact hfall (by omega)
 ·simp only [List.length_cons] at lx
  simp only [doS]
  by_cases g4 : x.f0 = 4
  ·rw [if_pos g4]; exact .inr ⟨hfall (by omega), .inl ⟨rfl, by simp only [List.length_append, List.length_cons, List.length_nil]; omega⟩⟩
  rw [if_neg g4]
  by_cases g5 : x.f0 = 5
  ·rw [if_pos g5]; exact .inr ⟨hfall (by omega), .inl ⟨rfl, by simp only [List.length_append, List.length_cons, List.length_nil]; omega⟩⟩
  rw [if_neg g5]
  by_cases g20 : x.f0 = 20
  ·rw [if_pos g20]; exact .inr ⟨hfall (by omega), .inr (.inr ⟨rfl, g20, by simp only; omega⟩)⟩
  rw [if_neg g20]
  by_cases hb : binOk x.f0 x1 = true
  ·rw [if_pos hb]; exact .inr ⟨hfall (by omega), .inl ⟨rfl, by simp only [List.length_append, List.length_cons, List.length_nil]; omega⟩⟩
  ·rw [if_neg hb]
   refine .inl ⟨?_, rfl⟩
   unfold binOk at hb
   by_cases g9 : x.f0 = 9
   ·exact .inl g9
   ·rw [if_neg g9] at hb
    by_cases g10 : x.f0 = 10
    ·exact .inr g10
    ·rw [if_neg g10] at hb; exact absurd rfl hb
/-- a round of VmSafe: one step by vm.Run -/
theorem safe_run {s : ByteArray} {l : List S36} {ds : List Int} (R : Ready s l ds) {i : Nat} {x : S36} {st mem : List Int} (hr : Reach l i (st.length : Int)) (hx : l[i]? = some x) (hs : s.size ≤ 1048576)
  (hst : ∀ x ∈ st, InW x) (hm : ∀ x ∈ mem, InW x) :
  (∃ a v sy, runS s 1 x.f2 st mem 0 = (x.f2, st, mem, 4, a, v, sy, 0) ∧ (x.f0 = 9 ∨ x.f0 = 10 ∨ x.f0 = 19 ∨ x.f0 = 20)) ∨
  (∃ a v sy, runS s 1 x.f2 st mem 0 = (x.f2, st, mem, 3, a, v, sy, 0) ∧ x.f0 = 23) ∨
  (∃ pc' st' mem', runS s 1 x.f2 st mem 0 = (pc', st', mem', 0, 0, 0, 0, 1) ∧ Next s l i x pc' ∧ (st'.length : Int) = st.length - tk x + pt x ∧ (∀ x ∈ st', InW x) ∧ (∀ x ∈ mem', InW x) ∧ mem'.length = mem.length) := by
 have hin := stepS_in (s := s) (pc := x.f2) hst
 rcases safe_step R hr hx hs with ⟨h1, h2⟩ | ⟨h1, h2⟩ | ⟨hn, h⟩
 ·right; left
  refine ⟨(stepS s x.f2 st).2.2.2.1, (stepS s x.f2 st).2.2.2.2.1, (stepS s x.f2 st).2.2.2.2.2, ?_, h1⟩
  rw [runS, if_pos (.inl h2), h2]
 ·left
  refine ⟨(stepS s x.f2 st).2.2.2.1, (stepS s x.f2 st).2.2.2.2.1, (stepS s x.f2 st).2.2.2.2.2, ?_, by omega⟩
  rw [runS, if_pos (.inr h2), h2]
 ·have hn34 : ¬ ((stepS s x.f2 st).2.2.1 = 3 ∨ (stepS s x.f2 st).2.2.1 = 4) := by omega
  obtain ⟨_, w1, w2, w3⟩ := hin.resolve_left hn34
  rcases h with ⟨h0, hl⟩ | ⟨h0, g, hl⟩ | ⟨h0, g, hl⟩
  ·right; right
   refine ⟨(stepS s x.f2 st).1, (stepS s x.f2 st).2.1, mem, ?_, hn, hl, w1, hm, rfl⟩
   rw [runS, if_neg hn34, if_pos h0, runS]; rfl
  ·by_cases hge : (stepS s x.f2 st).2.2.2.1 ≥ (mem.length : Int)
   ·left
    refine ⟨0, 0, 0, ?_, by omega⟩
    rw [runS, if_neg hn34, if_neg (by omega), if_pos hge]
   ·right; right
    refine ⟨(stepS s x.f2 st).1, (stepS s x.f2 st).2.1 ++ [rd mem (stepS s x.f2 st).2.2.2.1], mem, ?_, hn, by simp; omega, ?_, hm, rfl⟩
    ·rw [runS, if_neg hn34, if_neg (by omega), if_neg hge, if_pos h0, runS]; rfl
    ·intro x hx
     rcases List.mem_append.1 hx with h | h
     ·exact w1 x h
     ·rw [List.mem_singleton.1 h]; exact rd_in hm
  ·by_cases hge : (stepS s x.f2 st).2.2.2.1 ≥ (mem.length : Int)
   ·left
    refine ⟨0, 0, 0, ?_, by omega⟩
    rw [runS, if_neg hn34, if_neg (by omega), if_pos hge]
   ·right; right
    refine ⟨(stepS s x.f2 st).1, (stepS s x.f2 st).2.1, mem.set (stepS s x.f2 st).2.2.2.1.toNat (stepS s x.f2 st).2.2.2.2.1, ?_, hn, hl, w1, ?_, by simp⟩
    ·rw [runS, if_neg hn34, if_neg (by omega), if_neg hge, if_neg (by omega), runS]; rfl
    ·intro x hx
     rcases List.mem_or_eq_of_mem_set hx with h | rfl
     ·exact hm x h
     ·exact w3
/-- what vm.Done leaves at a system call -/
theorem done_ev {s : ByteArray} {l : List S36} {ds : List Int} (R : Ready s l ds) {i : Nat} {x : S36} {st : List Int} (hr : Reach l i (st.length : Int)) (hx : l[i]? = some x) (hs : s.size ≤ 1048576)
  (h23 : x.f0 = 23) (a : Int) :
  Ev (fun k => vm_Done.f k s x.f2 st a) (x.f2 + x.f3, st.take (st.length - (tk x).toNat) ++ [a]) ∧ pt x = 1 ∧ 0 ≤ tk x ∧ tk x ≤ st.length := by
 have e1 := ((dec_at s _ _ _ R.dec).2 i x hx).1
 have hrx := decAll_range R.dec x (List.mem_of_getElem? hx)
 have ok := oneS_ok (s := s) (pc := x.f2) (by rw [e1])
 rw [e1] at ok
 simp only [h23] at ok
 have hopw : opw 23 = 1 := by decide
 have h1 : tk x ≤ st.length := by
  by_cases h : tk x ≤ st.length
  ·exact h
  ·exact absurd (Bad.stack hr hx (.inl (by omega))) R.good
 have hl32 := (Reach_range R.ok hr).2
 have ht0 := okS_tk R.ok hx
 have harg : x.f1 < 256 := by have := ok.2.2.2.2.2.2.1; rw [hopw] at this; simpa using this
 have ha0 : 0 ≤ x.f1 := ok.2.2.2.2.2.1
 have hf3 : x.f3 = 2 := by have := ok.2.2.2.2.2.2.2.2.1; rw [hopw] at this; omega
 have hmv : movesS x.f0 x.f1 = if 0 ≤ argsS x.f1 then (argsS x.f1, 1) else (-1, -1) := by
  rw [h23]; unfold movesS
  rw [if_neg (by omega), if_neg (by omega), if_neg (by omega), if_neg (by omega), if_neg (by omega), if_neg (by omega), if_neg (by omega), if_neg (by omega), if_neg (by omega), if_neg (by omega), if_neg (by omega), if_pos rfl, if_pos harg]
 have htk : tk x = argsS x.f1 ∧ pt x = 1 := by
  unfold tk pt at *
  rw [hmv] at ht0 ⊢
  split at ht0
  ·rename_i h; exact ⟨by rw [if_pos h], by rw [if_pos h]⟩
  ·simp at ht0
 refine ⟨?_, htk.2, ht0, h1⟩
 simp only [vm_Done.f]
 have hcall : Ev (fun k => vm_call.f k s x.f2 st) (argsS x.f1, true) := by
  simp only [vm_call.f]
  have ho := One_ev s (by omega) x.f2
  rw [e1] at ho
  refine Ev.bind ho (Ev.pos rfl (Ev.pos h23 ?_))
  simp only
  rw [wrap_small ha0 harg]
  refine Ev.bind (Args_ev x.f1) (Ev.pos (by omega) ?_)
  rw [decide_eq_true (by omega)]
  exact Ev.now _
 refine Ev.bind hcall (Ev.pos rfl ?_)
 simp only
 have hw : wrap64 ((st.length : Int) - argsS x.f1) = st.length - argsS x.f1 := wrap_in (by omega) (by omega)
 rw [hw, ← htk.1]
 refine Ev.pos (by omega) (Ev.pos (by omega) ?_)
 have etake : ((st.length : Int) - tk x).toNat = st.length - (tk x).toNat := by omega
 rw [etake]
 refine Ev.fn (a := st.take (st.length - (tk x).toNat)) ?_ ?_
 ·unfold slices_Clone_uint64_uint64.f
  rw [if_pos (by rw [List.length_take]; omega)]
 ·refine Ev.fn (a := [a]) rfl (Ev.pos ?_ ?_)
  ·simp only [List.length_take, List.length_cons, List.length_nil]; omega
  ·rw [wrap_in (by omega) (by omega), hf3]
   exact Ev.now _
end Go.Proofs.Ytjbpljcfogekhaa.Core
namespace Go.Proofs.Ytjbpljcfogekhaa.Core
open Go.RowKit Ytjbpljcfogekhaa.Q YtjbpljcfogekhaaW.PrintWords YtjbpljcfogekhaaW.PrintLast YtjbpljcfogekhaaW.PrintMore
theorem depths_none {s : ByteArray} (h : readS s = none) : depthsS s = ([], 8) := by unfold depthsS; rw [h]; rfl
theorem depths_right {s : ByteArray} {l : List S36} (hda : decAll s = some l) (hsz : ¬ (s.size < 1 ∨ 192 < s.size)) (hok : okS l = true) {q : Option (List Int)} (hq : Right l q) : depthsS s = depRes q := by
 have hlp := decAll_pos hda (by omega)
 have hln := decAll_length hda
 obtain ⟨r, hr, hR⟩ := look_right hok hlp 400 (by omega)
 have e := hR.one hq
 subst e
 unfold depthsS readS
 rw [hda]
 simp only
 rw [if_neg hsz, if_pos hok, hr]
 cases r <;> rfl
theorem findI_neg {l : List S36} {a : Int} : findI l a < 0 ↔ (findS l a).isSome = false := by
 unfold findI
 cases findS l a with
 | none => simp
 | some i => simp
theorem findI_some {l : List S36} {a : Int} (h : (findS l a).isSome = true) : findI l a = ((findS l a).getD 0 : Nat) := by
 unfold findI
 cases e : findS l a with
 | none => rw [e] at h; cases h
 | some i => rfl
end Go.Proofs.Ytjbpljcfogekhaa.Core
namespace Go.Proofs.Ytjbpljcfogekhaa.Q
open Go.RowKit Ytjbpljcfogekhaa.Core YtjbpljcfogekhaaW.PrintWords YtjbpljcfogekhaaW.PrintLast YtjbpljcfogekhaaW.PrintMore
theorem rdec_calls (s : ByteArray) (hs : s.size ≤ 4398046511104) (W : World) : Calls Try.prog 19 #[.string s] W fun e w' => ∃ v : Value, e = .returned (.tuple #[v, .int .i64 (decRes [] (decAll s)).2]) ∧ Kd.R k36 36 w' W.heap.size (fun _ => True) v (decRes [] (decAll s)).1 ∧ Below W.heap.size W w' := by
 obtain ⟨k, hk⟩ := (RDecode_evL s hs).rounds
 exact janusref05_Decode.calls k s _ _ W hk
theorem rmv_calls (x : S36) (h : 0 ≤ x.f1) (W : World) : Calls Try.prog 24 #[.agg #[.int .i64 x.f0, .int .u64 x.f1, .int .i64 x.f2, .int .i64 x.f3]] W fun e w' => e = .returned (.tuple #[.int .i64 (tk x), .int .i64 (pt x)]) ∧ Below W.heap.size W w' := by
 obtain ⟨k, hk⟩ := (RMoves_ev x.f0 x.f1 x.f2 x.f3 h).rounds
 exact janusref05_Moves.calls k x.f0 x.f1 x.f2 x.f3 (tk x) (pt x) W hk
theorem find_calls {l : List S36} (hp : Placed l) (hl : l.length ≤ 4398046511104) (a : Int) (A : Option Addr) (c : Nat) (W : World) (hr : Kd.C k36 W A l.length l) (hc : l.length ≤ c) :
  Calls Try.prog 44 #[.slice A l.length c, .int .u64 a] W fun e w' => e = .returned (.int .i64 (findI l a)) ∧ Below W.heap.size W w' := by
 obtain ⟨k, hk⟩ := (RFind_ev hp a hl).rounds
 refine (janusref06_find.calls k A c l a _ W hr hc hk).mono ?_
 rintro e w' ⟨he, nd, rfl⟩
 exact ⟨he, pw_below_drewN (Below.refl _ _) _⟩
def RefPost (w : World) (s : ByteArray) (e : Ending) (w' : World) : Prop := ∃ v : Value, e = .returned (.tuple #[v, .int .i64 (depthsS s).2]) ∧ Kd.R (Kd.int .i64) 3 w' w.heap.size (fun _ => True) v (depthsS s).1 ∧ Below w.heap.size w w'
theorem RefPost.no {w w' : World} {s : ByteArray} (h : depthsS s = ([], 8)) (hb : Below w.heap.size w w') : RefPost w s (.returned (.tuple #[.slice none 0 0, .int .i64 8])) w' := by
 refine ⟨_, by rw [h], ?_, hb⟩
 rw [h]
 exact Kd.R_nil _ _ _ _ _
/-- The instructions and the depths. -/
structure RS (w : World) (l : List S36) (v4 v6 : Value) (ds : List Int) (wc : World) : Prop where
 rl : Kd.R k36 36 wc w.heap.size (fun _ => True) v4 l
 rd : Kd.R (Kd.int .i64) 3 wc w.heap.size (fun _ => True) v6 ds
 bel : Below w.heap.size w wc
theorem RS.below {w : World} {l : List S36} {v4 v6 : Value} {ds : List Int} {wc wd : World} (r : RS w l v4 v6 ds wc) (hb : Below wc.heap.size wc wd) : RS w l v4 v6 ds wd :=
 ⟨Kd.R_below r.rl hb, Kd.R_below r.rd hb, below_step r.bel hb⟩
theorem RS.alloc {w : World} {l : List S36} {v4 v6 : Value} {ds : List Int} {wc : World} (r : RS w l v4 v6 ds wc) (o : Obj) : RS w l v4 v6 ds (wc.alloc o) := r.below (below_alloc (Below.refl _ _) o)
theorem k36_typed {W : World} {base : Nat} {ok : Nat → Prop} {v : Value} {l : List S36} (h : Kd.R k36 36 W base ok v l) {k : Nat} (hk : v.ownBlock = some k) : ∃ cells, W.heap[k]? = some (.cells cells 36 (0, 0)) := by
 obtain ⟨_, inner, ho, _⟩ := h
 exact own_typed ho k hk
theorem i64_typed {W : World} {base : Nat} {ok : Nat → Prop} {v : Value} {l : List Int} (h : Kd.R (Kd.int .i64) 3 W base ok v l) {k : Nat} (hk : v.ownBlock = some k) : ∃ cells, W.heap[k]? = some (.cells cells 3 (0, 0)) := by
 obtain ⟨_, inner, ho, _⟩ := h
 exact own_typed ho k hk
theorem rows_ne {W : World} {b1 b2 : Nat} {ok1 ok2 : Nat → Prop} {v u : Value} {l : List S36} {xs : List Int} (h : Kd.R k36 36 W b1 ok1 v l) (h' : Kd.R (Kd.int .i64) 3 W b2 ok2 u xs) (k : Nat) (hk : u.ownBlock = some k) : some k ≠ v.ownBlock := fun e => by
 obtain ⟨c1, h1⟩ := k36_typed h e.symm
 obtain ⟨c2, h2⟩ := i64_typed h' hk
 rw [h1] at h2
 injection h2 with h2
 injection h2 with _ h2 _
 exact absurd h2 (by decide)
theorem RS.app {w : World} {l : List S36} {v4 v6 : Value} {ds : List Int} {wc w1 : World} {v1 : Value} {p : Int} (r : RS w l v4 v6 ds wc) (h1 : Kd.R (Kd.int .i64) 3 w1 w.heap.size (fun _ => True) v1 (ds ++ [p])) (h2 : Below w.heap.size w w1) (h3 : wc.grownBy w1 v6.ownBlock) : RS w l v4 v1 (ds ++ [p]) w1 :=
 ⟨Kd.R_grown2 r.rl rfl h3 (fun k hk => rows_ne r.rl r.rd k hk), h1, h2⟩
theorem RS.set {w : World} {l : List S36} {v4 : Value} {ds : List Int} {wc : World} {g n c : Nat} (r : RS w l v4 (.slice (some ⟨g, 0, none⟩) n c) ds wc) (k : Nat) (d : Int) : RS w l v4 (.slice (some ⟨g, 0, none⟩) n c) (ds.set k d) (wc.setCell ⟨g, k, none⟩ (.int .i64 d)) := by
 obtain ⟨cells, hc⟩ := i64_typed r.rd (k := g) rfl
 have hb := (Kd.R_bound r.rd).1 g rfl
 have hp := Kd.R_putn r.rd (k : Int) d
 have e : ((k : Int)).toNat = k := by simp
 rw [e] at hp
 refine ⟨Kd.R_set r.rl hc (fun q hq => ?_) k _, hp, below_set r.bel hb.2.1⟩
 have : q = 36 := by simpa [k36, Kd.iso, Kd.pair, Kd.int, Kd.scalar] using hq
 subst this
 decide
/-- .. and the list of where one leads. -/
structure RT (w : World) (l : List S36) (v4 : Value) (g6 n6 c6 : Nat) (ds tl : List Int) (v15 : Value) (wc : World) : Prop where
 rs : RS w l v4 (.slice (some ⟨g6, 0, none⟩) n6 c6) ds wc
 rt : Kd.R (Kd.int .i64) 3 wc w.heap.size (fun _ => True) v15 tl
 ne : ∀ k, v15.ownBlock = some k → k ≠ g6
theorem RT.below {w : World} {l : List S36} {v4 v15 : Value} {g6 n6 c6 : Nat} {ds tl : List Int} {wc wd : World} (r : RT w l v4 g6 n6 c6 ds tl v15 wc) (hb : Below wc.heap.size wc wd) : RT w l v4 g6 n6 c6 ds tl v15 wd :=
 ⟨r.rs.below hb, Kd.R_below r.rt hb, r.ne⟩
theorem RT.app {w : World} {l : List S36} {v4 v15 : Value} {g6 n6 c6 : Nat} {ds tl : List Int} {W w1 : World} {v1 : Value} {p : Int} (r : RT w l v4 g6 n6 c6 ds tl v15 W)
  (h1 : Kd.R (Kd.int .i64) 3 w1 w.heap.size (fun _ => True) v1 (tl ++ [p])) (h2 : Below w.heap.size w w1) (h3 : W.grownBy w1 v15.ownBlock) (h4 : v1.ownBlock = v15.ownBlock ∨ ∃ b, v1.ownBlock = some b ∧ W.heap.size ≤ b) : RT w l v4 g6 n6 c6 ds (tl ++ [p]) v1 w1 := by
 have hg := ((Kd.R_bound r.rs.rd).1 g6 rfl).2.2.1
 refine ⟨⟨Kd.R_grown2 r.rs.rl rfl h3 (fun k hk => rows_ne r.rs.rl r.rt k hk), Kd.R_grown2 r.rs.rd rfl h3 (fun k hk e => ?_), h2⟩, h1, fun k hk => ?_⟩
 ·have := r.ne k hk
  simp [Value.ownBlock] at e
  omega
 ·rcases h4 with h4 | ⟨b, hb, hle⟩
  ·exact r.ne k (by rw [← h4]; exact hk)
  ·rw [hb] at hk
   cases hk
   omega
theorem RT.set {w : World} {l : List S36} {v4 v15 : Value} {g6 n6 c6 : Nat} {ds tl : List Int} {W : World} (r : RT w l v4 g6 n6 c6 ds tl v15 W) (k : Nat) (d : Int) : RT w l v4 g6 n6 c6 (ds.set k d) tl v15 (W.setCell ⟨g6, k, none⟩ (.int .i64 d)) :=
 ⟨r.rs.set k d, Kd.R_mono (Kd.R_far (p := ⟨g6, k, none⟩) (Kd.R_mono (ok' := fun k => k ≠ g6) (Kd.R_tight rfl r.rt) (fun k hk => r.ne k hk.symm)) (fun _ hk => hk) _) (fun _ _ => trivial), r.ne⟩
/-- Over all instructions once. -/
def PSw (w : World) (l : List S36) (v4 : Value) (g6 c6 : Nat) (V : Option (List Int × Bool)) (k : Nat) (v11 v12 : Value) (wc : World) : Prop :=
 ∃ (i : Nat) (ds : List Int) (m : Bool), v12 = .int .i64 i ∧ i + k = l.length ∧ v11 = .bool m ∧ RS w l v4 (.slice (some ⟨g6, 0, none⟩) l.length c6) ds wc ∧ LookInv l [] ds ∧ sweepR l k i ds m = V
/-- Over where one instruction leads. -/
def PVi (w : World) (l : List S36) (v4 : Value) (g6 c6 : Nat) (i : Nat) (e0 dd : Int) (tl : List Int) (v15 : Value) (V : Option (List Int × Bool)) (k : Nat) (v11 v16 : Value) (wc : World) : Prop :=
 ∃ (j : Nat) (ds : List Int) (m : Bool), v16 = .int .i64 j ∧ j + k = tl.length ∧ v11 = .bool m ∧ RT w l v4 g6 l.length c6 ds tl v15 wc ∧ ds.length = l.length ∧ rd ds (i : Int) = e0 ∧ visitR dd (tl.drop j) ds m = V
set_option maxHeartbeats 4000000 in
set_option maxRecDepth 100000 in
theorem rdepths_calls (s : ByteArray) (hs : s.size ≤ 4398046511104) (w : World) : Calls Try.prog 30 #[.string s] w (RefPost w s) := by
 have hu36 := Try.underlying36
 replace hs := Aside0.mk hs
 obtain ⟨⟨l, er⟩, hdr⟩ : ∃ r, decRes [] (decAll s) = r := ⟨_, rfl⟩
 replace hdr := Aside0.mk hdr
 go_enter Try.func30, Try.ntmps30
 go_upto_region 1 with fail
 go_cut [4, 5] from 18 (fun v4 v5 wx => v5 = .int .i64 er ∧ RS w l v4 (.slice none 0 0) [] wx)
 case first =>
  as_aux_lemma =>
   go_wp2_with (first
    | (go_at_call 19; (with_reducible refine (rdec_calls s hs.out _).mono ?_); rintro e w5 ⟨v, rfl, hR, hB⟩; rw [hdr.out] at hR ⊢))
   go_meet
   case rel => exact ⟨rfl, hR, Kd.R_nil _ _ _ _ _, hB⟩
 case rest =>
  as_aux_lemma =>
   obtain ⟨rfl, D⟩ := hcut
   replace D := Aside0.mk D
   go_upto_region 2 with fail
   go_cut [34] from 18 (fun v30 wx => v30 = .bool (decide (er ≠ 0 ∨ s.size < 1 ∨ 192 < s.size)) ∧ wc = wx)
   case first =>
    as_aux_lemma =>
     by_cases h1 : er = 0
     ·have d1 : (er != 0) = false := by simpa using h1
      by_cases h2 : (s.size : Int) < 1
      ·have d2 : decide ((s.size : Int) < 1) = true := decide_eq_true h2
       have h3 := Aside0.mk (show decide (er ≠ 0 ∨ s.size < 1 ∨ 192 < s.size) = true from decide_eq_true (.inr (.inl (by omega))))
       clear h1 h2
       go_wp2
       go_meet
       case rel => exact ⟨by rw [h3.out], rfl⟩
      ·have d2 : decide ((s.size : Int) < 1) = false := decide_eq_false h2
       by_cases h4 : 192 < (s.size : Int)
       ·have d4 : decide (192 < (s.size : Int)) = true := decide_eq_true h4
        have h3 := Aside0.mk (show decide (er ≠ 0 ∨ s.size < 1 ∨ 192 < s.size) = true from decide_eq_true (.inr (.inr (by omega))))
        clear h1 h2 h4
        go_wp2
        go_meet
        case rel => exact ⟨by rw [h3.out], rfl⟩
       ·have d4 : decide (192 < (s.size : Int)) = false := decide_eq_false h4
        have h3 := Aside0.mk (show decide (er ≠ 0 ∨ s.size < 1 ∨ 192 < s.size) = false from decide_eq_false (by omega))
        clear h1 h2 h4
        go_wp2
        go_meet
        case rel => exact ⟨by rw [h3.out], rfl⟩
     ·have d1 : (er != 0) = true := by simpa using h1
      have h3 := Aside0.mk (show decide (er ≠ 0 ∨ s.size < 1 ∨ 192 < s.size) = true from decide_eq_true (.inl h1))
      clear h1
      go_wp2
      go_meet
      case rel => exact ⟨by rw [h3.out], rfl⟩
   case rest =>
    as_aux_lemma =>
     obtain ⟨rfl, rfl⟩ := hcut
     by_cases hbad : er ≠ 0 ∨ s.size < 1 ∨ 192 < s.size
     ·rw [decide_eq_true hbad]
      have hr : depthsS s = ([], 8) := depths_none (by
       have := hdr.out
       unfold readS
       cases h : decAll s with
       | none => rfl
       | some l' =>
        rw [h] at this
        simp only [decRes, Prod.mk.injEq] at this
        have h0 : er = 0 := this.2.symm
        simp only
        rw [if_pos (by omega)])
      replace hr := Aside0.mk hr
      clear hbad
      go_wp2
      go_ret2
      exact RefPost.no hr.out D.out.bel
     ·rw [decide_eq_false hbad]
      have hda : decAll s = some l := by
       have := hdr.out
       cases h : decAll s with
       | none => rw [h] at this; simp only [decRes, Prod.mk.injEq] at this; omega
       | some l' => rw [h] at this; simp only [decRes, Prod.mk.injEq, List.nil_append] at this; rw [this.1]
      have hln := decAll_length hda
      have hlp := decAll_pos hda (by omega)
      have hl192 : l.length ≤ 192 := by omega
      have hsz : ¬ (s.size < 1 ∨ 192 < s.size) := by omega
      replace hsz := Aside0.mk hsz
      have hrng := Aside0.mk (decAll_range hda)
      have hplc := Aside0.mk (show Placed l from fun x hx => by have := decAll_range hda x hx; omega)
      replace hda := Aside0.mk hda
      clear hbad hln
      obtain ⟨A4, c4, rfl⟩ := Kd.R_slice D.out.rl
      have hc4 := Aside0.mk (Kd.R_reads' D.out.rl).2.1
      go_upto_block 0 with fail
      go_cut [6] from 18 (fun v6 wx => okS l = true ∧ RS w l (.slice A4 l.length c4) v6 (List.replicate l.length (-1)) wx)
      case first =>
       as_aux_lemma =>
        go_wp2
        go_loopg [6, 7] l.length (fun k v6 v7 wx => ∃ j : Nat, v7 = .int .i64 j ∧ j + k = l.length ∧ (∀ y ∈ l.take j, okx l y = true) ∧ RS w l (.slice A4 l.length c4) v6 (List.replicate j (-1)) wx)
        case atStart => exact ⟨0, rfl, by omega, by simp, D.out⟩
        case round =>
         as_aux_lemma =>
          clear D
          obtain ⟨j, rfl, hjk, hok, r⟩ := hrel
          cases gk with
          | zero =>
           have ej : j = l.length := by omega
           subst ej
           have hlt : ¬ (l.length : Int) < (l.length : Int) := by omega
           rw [List.take_length] at hok
           have hok' := Aside0.mk (show okS l = true by rw [okS_all, List.all_eq_true]; exact hok)
           clear hjk hok
           go_wp2
           go_meet
           case rel => exact ⟨hok'.out, r⟩
          | succ gk =>
           have hjl : j < l.length := by omega
           have hlt : (j : Int) < (l.length : Int) := by omega
           have hj2 : (j : Int) ≤ 192 := by omega
           obtain ⟨x, hx⟩ : ∃ x, l[j]? = some x := ⟨_, List.getElem?_eq_getElem hjl⟩
           have hxm := Aside0.mk (List.mem_of_getElem? hx)
           have hok2 := Aside0.mk (show okx l x = true → ∀ y ∈ l.take (j + 1), okx l y = true by
            intro h y hy
            rw [List.take_succ_eq_append_getElem hjl] at hy
            rcases List.mem_append.1 hy with hy | hy
            ·exact hok y hy
            ·rw [List.getElem?_eq_getElem hjl] at hx
             rw [List.mem_singleton.1 hy, Option.some.inj hx]
             exact h)
           have hf1 := Aside0.mk (hrng.out x hxm.out)
           have hl9 := Aside0.mk (show (List.replicate j (-1 : Int)).length < 1000000 by rw [List.length_replicate]; omega)
           have hb1 := Aside0.mk r.bel.size
           replace hjk := Aside0.mk hjk
           replace hx := Aside0.mk hx
           replace r := Aside0.mk r
           clear hok
           go_upto_region 8 with fail
           go_cut [6] from 35 to 80 (fun v6 wx => RS w l (.slice A4 l.length c4) v6 (List.replicate (j + 1) (-1)) wx)
           case first =>
            as_aux_lemma =>
             go_wp2_with (first
              | (at_builtin; refine app_i64 rfl (.tmp 41) (.tmp 42) rfl _ _ (-1) rfl rfl rfl r.out.rd r.out.bel (Nat.le_refl _) hb1.out hl9.out ?_; intro v1 w1 j1 j2 j3 j4))
             go_meet
             case rel => exact (by rw [List.replicate_succ']; exact r.out.app j1 j2 j3)
           case rest =>
            as_aux_lemma =>
             clear r hb1 hl9
             obtain ⟨ad, e4, q0, q1, q2, q3⟩ := at_T36 (Kd.R_reads' hcut.rl).2.2 (j : Int) (by omega) (by omega)
             subst e4
             rw [rdT_of hx.out] at q0 q1 q2 q3
             simp only [Int.toNat_natCast] at q0 q1 q2 q3
             have r := Aside0.mk hcut
             clear hcut
             go_upto_region 9 with fail
             go_cut [8, 9] from 35 to 80 (fun v8 v9 wx => v8 = .int .i64 (tk x) ∧ v9 = .int .i64 (pt x) ∧ RS w l (.slice (some ad) l.length c4) u6 (List.replicate (j + 1) (-1)) wx)
             case first =>
              as_aux_lemma =>
               go_wp2_with (first
                | (go_at_call 24; (with_reducible refine (rmv_calls x hf1.out.2.2.2.2.1 _).mono ?_); rintro e w5 ⟨rfl, hB⟩))
               go_meet
               case rel => exact ⟨rfl, rfl, r.out.below hB⟩
             case rest =>
              as_aux_lemma =>
               clear q0 q1 q2 q3 r
               obtain ⟨rfl, rfl, r⟩ := hcut
               obtain ⟨ad', e4, q0, q1, q2, q3⟩ := at_T36 (Kd.R_reads' r.rl).2.2 (j : Int) (by omega) (by omega)
               cases e4
               rw [rdT_of hx.out] at q0 q1 q2 q3
               simp only [Int.toNat_natCast] at q0 q1 q2 q3
               replace r := Aside0.mk r
               go_upto_region 10 with fail
               go_cut [10] from 35 to 80 (fun v10 wx => v10 = .bool (jmp x) ∧ wc = wx)
               case first =>
                as_aux_lemma =>
                 by_cases h1 : x.f0 = 21
                 ·have h2 := Aside0.mk (show jmp x = true by unfold jmp; simp [h1])
                  have d1 : (x.f0 == 21) = true := by simpa using h1
                  clear h1
                  go_wp2
                  go_meet
                  case rel => exact ⟨by rw [h2.out], rfl⟩
                 ·have d1 : (x.f0 == 21) = false := by simpa using h1
                  by_cases h3 : x.f0 = 22
                  ·have h2 := Aside0.mk (show jmp x = true by unfold jmp; simp [h3])
                   have d3 : (x.f0 == 22) = true := by simpa using h3
                   clear h1 h3
                   go_wp2
                   go_meet
                   case rel => exact ⟨by rw [h2.out], rfl⟩
                  ·have h2 := Aside0.mk (show jmp x = false by unfold jmp; simp [h1, h3])
                   have d3 : (x.f0 == 22) = false := by simpa using h3
                   clear h1 h3
                   go_wp2
                   go_meet
                   case rel => exact ⟨by rw [h2.out], rfl⟩
               case rest =>
                as_aux_lemma =>
                 obtain ⟨rfl, rfl⟩ := hcut
                 go_upto_region 11 with fail
                 go_cut [10, 80] from 66 to 80 (fun _ v80 wx => v80 = .bool (!okx l x) ∧ RS w l (.slice (some ad) l.length c4) u6 (List.replicate (j + 1) (-1)) wx)
                 case first =>
                  as_aux_lemma =>
                   have hfc := Aside0.mk (fun (W : World) (hB : Below _ _ W) => find_calls hplc.out (by omega) x.f1 (some ad) c4 W (Kd.C_below (Kd.R_reads' r.out.rl).2.2 hB) hc4.out)
                   by_cases ht : tk x < 0
                   ·have he := Aside0.mk (show (!okx l x) = true by unfold okx; rw [decide_eq_false (by omega)]; rfl)
                    have d1 : decide (tk x < 0) = true := decide_eq_true ht
                    clear ht
                    go_wp2
                    go_meet
                    case rel => exact ⟨by rw [he.out], r.out⟩
                   ·have d1 : decide (tk x < 0) = false := decide_eq_false ht
                    have hox := Aside0.mk (show okx l x = (!jmp x || (findS l x.f1).isSome) by unfold okx; rw [decide_eq_true (by omega)]; simp)
                    clear ht
                    cases hj : jmp x with
                    | false =>
                     have he := Aside0.mk (show (!okx l x) = false by rw [hox.out, hj]; rfl)
                     replace hj := Aside0.mk hj
                     go_wp2
                     go_meet
                     case rel => exact ⟨by rw [he.out], r.out⟩
                    | true =>
                     cases hs1 : (findS l x.f1).isSome with
                     | false =>
                      have he := Aside0.mk (show (!okx l x) = true by rw [hox.out, hj, hs1]; rfl)
                      have d3 : decide (findI l x.f1 < 0) = true := decide_eq_true (findI_neg.2 hs1)
                      replace hj := Aside0.mk hj
                      replace hs1 := Aside0.mk hs1
                      go_wp2_with (first
                       | (go_at_call 44; (with_reducible refine (hfc.out _ (Below.refl _ _)).mono ?_); rintro e w5 ⟨rfl, hB⟩))
                      go_meet
                      case rel => exact ⟨by rw [he.out], r.out.below hB⟩
                     | true =>
                      have he := Aside0.mk (show (!okx l x) = false by rw [hox.out, hj, hs1]; rfl)
                      have d3 : decide (findI l x.f1 < 0) = false := decide_eq_false (fun h => by rw [findI_neg.1 h] at hs1; cases hs1)
                      replace hj := Aside0.mk hj
                      replace hs1 := Aside0.mk hs1
                      go_wp2_with (first
                       | (go_at_call 44; (with_reducible refine (hfc.out _ (Below.refl _ _)).mono ?_); rintro e w5 ⟨rfl, hB⟩))
                      go_meet
                      case rel => exact ⟨by rw [he.out], r.out.below hB⟩
                 case rest =>
                  as_aux_lemma =>
                   clear q0 q1 q2 q3 r
                   obtain ⟨rfl, r⟩ := hcut
                   replace r := Aside0.mk r
                   cases hb : okx l x with
                   | false =>
                    have hr := Aside0.mk (depths_none (readS_bad hda.out hsz.out hxm.out hb))
                    replace hb := Aside0.mk hb
                    go_wp2
                    go_ret2
                    exact RefPost.no hr.out r.out.bel
                   | true =>
                    replace hb := Aside0.mk hb
                    go_wp2
                    go_roundg gk
                    case measure => omega
                    case rel => exact ⟨j + 1, by go_num, by have := hjk.out; omega, hok2.out hb.out, r.out⟩
      case rest =>
       as_aux_lemma =>
        obtain ⟨hok, r⟩ := hcut
        obtain ⟨g6, c6, rfl, hg6, hc6, -⟩ := R_own0 r.rd (by rw [List.length_replicate]; exact hlp)
        rw [List.length_replicate] at r hc6
        obtain ⟨y0, f0⟩ := R_cell r.rd (i := 0) (by rw [List.length_replicate]; exact hlp)
        have r0 := Aside0.mk (r.set 0 0)
        have hlp' : (0 : Int) < (l.length : Int) := by omega
        replace hok := Aside0.mk hok
        clear r D
        rw [List.length_replicate]
        go_upto_block 2 with fail
        have inv0 := Aside0.mk (show LookInv l [] (Core.start l) from ⟨(start_inv hlp).len, (start_inv hlp).sound, (start_inv hlp).neg, (start_inv hlp).zero, by simp⟩)
        have neg0 := Aside0.mk (show negs (Core.start l) < l.length + 2 from by
         have : negs (Core.start l) ≤ (Core.start l).length := List.countP_le_length
         have e : (Core.start l).length = l.length := by simp [Core.start]
         omega)
        replace r0 := Aside0.mk (show RS w l (.slice A4 l.length c4) (.slice (some ⟨g6, 0, none⟩) l.length c6) (Core.start l) _ from r0.out)
        generalize (World.setCell _ ⟨g6, 0, none⟩ (.int .i64 0)) = W1 at *
        clear y0 f0
        go_cut [] from 83 (fun wx => ∃ ds, RS w l (.slice A4 l.length c4) (.slice (some ⟨g6, 0, none⟩) l.length c6) ds wx ∧ Right l (some ds))
        case first =>
         as_aux_lemma =>
          go_wp2
          go_loopg [11] (l.length + 2) (fun k v11 wx => ∃ (ds : List Int) (m : Bool), v11 = .bool m ∧ RS w l (.slice A4 l.length c4) (.slice (some ⟨g6, 0, none⟩) l.length c6) ds wx ∧ LookInv l [] ds ∧ (m = false → ∀ j, Closed l ds j) ∧ (m = true → negs ds < k))
          case atStart => exact ⟨Core.start l, true, rfl, r0.out, inv0.out, by simp, fun _ => neg0.out⟩
          case round =>
           as_aux_lemma =>
            clear r0 inv0 neg0
            obtain ⟨ds, m, rfl, r, inv, hcl, hng⟩ := hrel
            cases m with
            | false =>
             have hR := Aside0.mk (show Right l (some ds) from by
              have hc := hcl rfl
              have F : Core.Found l ds := ⟨inv.len, inv.sound, inv.neg, closed_all inv.zero (fun i d x h h0 hx => hc i d x h h0 hx) hok.out⟩
              exact .yes F (F.not_bad (fun i d x h h0 hx => (hc i d x h h0 hx).1) (fun i d h => (Reach_range hok.out h).1)))
             replace r := Aside0.mk r
             clear hcl hng
             go_wp2
             go_meet
             case rel => exact ⟨ds, r.out, hR.out⟩
            | true =>
             cases gk with
             | zero => exact absurd (hng rfl) (by omega)
             | succ gk1 =>
              have hspec := sweepR_spec hok.out l.length 0 ds false (by omega) inv
              obtain ⟨V, hV⟩ : ∃ V, sweepR l l.length 0 ds false = V := ⟨_, rfl⟩
              rw [hV] at hspec
              have hnone := Aside0.mk (show V = none → depthsS s = ([], 8) from fun e => by
               rcases hspec with ⟨_, hB⟩ | ⟨ds', m', e', _⟩
               ·rw [depths_right hda.out hsz.out hok.out (.no hB)]; rfl
               ·rw [e] at e'; cases e')
              have hend := Aside0.mk (show ∀ ds' m', V = some (ds', m') → LookInv l [] ds' ∧ (m' = false → ∀ j, Closed l ds' j) ∧ (m' = true → negs ds' < gk1) from fun ds' m' hVe => by
               have hng' := hng rfl
               rcases hspec with ⟨e, _⟩ | ⟨ds2, m2, e, h1, h2, h3, h4⟩
               ·rw [hVe] at e; cases e
               ·rw [hVe] at e
                cases e
                refine ⟨h1, fun e => ?_, fun e => ?_⟩
                ·obtain ⟨_, e1, h⟩ := h2 e
                 subst e1
                 exact fun j => h j (Nat.zero_le _)
                ·rcases h4 e with h | h
                 ·cases h
                 ·omega)
              replace hV := Aside0.mk hV
              replace r := Aside0.mk r
              replace inv := Aside0.mk inv
              clear hcl hng hspec
              go_upto_block 4 with fail
              go_wp2
              go_loopg [11, 12] l.length (PSw w l (.slice A4 l.length c4) g6 c6 V)
              case atStart => exact ⟨0, ds, false, rfl, by omega, rfl, r.out, inv.out, hV.out⟩
              case round =>
               as_aux_lemma =>
                clear r inv hV
                obtain ⟨i, ds, m, rfl, hik, rfl, r, inv, hsw⟩ := hrel
                cases gk with
                | zero =>
                 have ei : i = l.length := by omega
                 subst ei
                 rw [sweepR] at hsw
                 have hlt : ¬ (l.length : Int) < (l.length : Int) := by omega
                 obtain ⟨i1, i2, i3⟩ := hend.out ds m hsw.symm
                 replace r := Aside0.mk r
                 replace i1 := Aside0.mk i1
                 replace i2 := Aside0.mk i2
                 replace i3 := Aside0.mk i3
                 clear hsw hik inv
                 go_wp2
                 go_roundg gk1
                 case measure => omega
                 case rel => exact ⟨ds, m, rfl, r.out, i1.out, i2.out, i3.out⟩
                | succ gk2 =>
                 have hil : i < l.length := by omega
                 have hlt : (i : Int) < (l.length : Int) := by omega
                 have hi2 : (i : Int) ≤ 192 := by omega
                 have hid : i < ds.length := by rw [inv.len]; exact hil
                 obtain ⟨x, hx⟩ : ∃ x, l[i]? = some x := ⟨_, List.getElem?_eq_getElem hil⟩
                 rw [sweepR, rdT_of hx] at hsw
                 obtain ⟨y0, -⟩ := R_cell r.rd hid
                 have hg0 := rd_get hid
                 obtain ⟨e0, he0⟩ : ∃ e0, rd ds (i : Int) = e0 := ⟨_, rfl⟩
                 rw [he0] at y0 hsw hg0
                 replace he0 := Aside0.mk he0
                 have he0' := he0
                 replace hg0 := Aside0.mk hg0
                 replace hx := Aside0.mk hx
                 replace hik := Aside0.mk hik
                 replace r := Aside0.mk r
                 replace inv := Aside0.mk inv
                 go_upto_region 20 with fail
                 by_cases hneg : e0 < 0
                 ·rw [if_pos hneg] at hsw
                  replace hsw := Aside0.mk hsw
                  go_wp2
                  go_roundg gk2
                  case measure => omega
                  case rel => exact ⟨i + 1, ds, m, by go_num, by have := hik.out; omega, rfl, r.out, inv.out, hsw.out⟩
                 ·rw [if_neg hneg] at hsw
                  replace hsw := Aside0.mk hsw
                  go_upto_region 21 with fail
                  have hxm := Aside0.mk (List.mem_of_getElem? hx.out)
                  have hf1 := Aside0.mk (hrng.out x hxm.out)
                  have hR0 := Aside0.mk (inv.out.sound i e0 hg0.out (by omega))
                  have he32 : e0 ≤ 32 := (Reach_range hok.out hR0.out).2
                  have t1 := tk_le (x := x)
                  have t2 := okS_tk hok.out hx.out
                  have t3 := pt_le (x := x)
                  have t4 := pt_ge (x := x)
                  obtain ⟨ad, e4, q0, q1, q2, q3⟩ := at_T36 (Kd.R_reads' r.out.rl).2.2 (i : Int) (by omega) (by omega)
                  subst e4
                  rw [rdT_of hx.out] at q0 q1 q2 q3
                  simp only [Int.toNat_natCast] at q0 q1 q2 q3
                  go_cut [13, 14] from 84 to 208 (fun v13 v14 wx => v13 = .int .i64 (tk x) ∧ v14 = .int .i64 (pt x) ∧ RS w l (.slice (some ad) l.length c4) (.slice (some ⟨g6, 0, none⟩) l.length c6) ds wx)
                  case first =>
                   as_aux_lemma =>
                    go_wp2_with (first
                     | (go_at_call 24; (with_reducible refine (rmv_calls x hf1.out.2.2.2.2.1 _).mono ?_); rintro e w5 ⟨rfl, hB⟩))
                    go_meet
                    case rel => exact ⟨rfl, rfl, r.out.below hB⟩
                  case rest =>
                   as_aux_lemma =>
                    clear q0 q1 q2 q3 r y0
                    obtain ⟨rfl, rfl, r⟩ := hcut
                    have hid' : i < ds.length := by rw [inv.out.len]; exact hil
                    obtain ⟨y0, -⟩ := R_cell r.rd hid'
                    rw [he0.out] at y0
                    replace r := Aside0.mk r
                    go_upto_region 22 with fail
                    go_cut [119] from 84 to 208 (fun v119 wx => v119 = .bool (decide (e0 < tk x ∨ 32 < e0 - tk x + pt x)) ∧ wc = wx)
                    case first =>
                     as_aux_lemma =>
                      by_cases h1 : e0 < tk x
                      ·have h2 := Aside0.mk (show decide (e0 < tk x ∨ 32 < e0 - tk x + pt x) = true from decide_eq_true (.inl h1))
                       have d1 : decide (e0 < tk x) = true := by simpa using h1
                       go_wp2
                       go_meet
                       case rel => exact ⟨by rw [h2.out], rfl⟩
                      ·by_cases h3 : 32 < e0 - tk x + pt x
                       ·have h2 := Aside0.mk (show decide (e0 < tk x ∨ 32 < e0 - tk x + pt x) = true from decide_eq_true (.inr h3))
                        have d1 : decide (e0 < tk x) = false := by simpa using h1
                        have d3 : decide (32 < e0 - tk x + pt x) = true := by simpa using h3
                        go_wp2
                        go_meet
                        case rel => exact ⟨by rw [h2.out], rfl⟩
                       ·have h2 := Aside0.mk (show decide (e0 < tk x ∨ 32 < e0 - tk x + pt x) = false from decide_eq_false (by omega))
                        have d1 : decide (e0 < tk x) = false := by simpa using h1
                        have d3 : decide (32 < e0 - tk x + pt x) = false := by simpa using h3
                        go_wp2
                        go_meet
                        case rel => exact ⟨by rw [h2.out], rfl⟩
                    case rest =>
                     as_aux_lemma =>
                      obtain ⟨rfl, rfl⟩ := hcut
                      clear y0
                      by_cases hbad : e0 < tk x ∨ 32 < e0 - tk x + pt x
                      ·rw [decide_eq_true hbad]
                       have hr' := Aside0.mk (hnone.out (by have h := hsw.out; rw [if_pos hbad] at h; exact h.symm))
                       clear hbad
                       go_wp2
                       go_ret2
                       exact RefPost.no hr'.out r.out.bel
                      ·rw [decide_eq_false hbad]
                       have hsw2 := hsw.out
                       rw [if_neg hbad] at hsw2
                       have hb1 : tk x ≤ e0 := by omega
                       have hb2 : e0 - tk x + pt x ≤ 32 := by omega
                       have hdd0 : 0 ≤ e0 - tk x + pt x := by
                        have := pt_nonneg t2
                        omega
                       have hst := Aside0.mk (show ∀ j ∈ succs l i x, Core.Reach l j (e0 - tk x + pt x) from fun j hj => Core.Reach.step hR0.out hx.out hb1 hb2 hj)
                       replace hsw2 := Aside0.mk hsw2
                       clear hsw hbad t1
                       go_upto_region 24 with fail
                       go_cut [15] from 84 to 208 (RT w l (.slice (some ad) l.length c4) g6 l.length c6 ds [])
                       case first =>
                        as_aux_lemma =>
                         go_wp2
                         go_meet
                         case rel => exact ⟨r.out, Kd.R_nil _ _ _ _ _, fun k hk => by simp [Value.ownBlock] at hk⟩
                       case rest =>
                        as_aux_lemma =>
                         clear r
                         obtain ⟨ad', e4, q0, q1, q2, q3⟩ := at_T36 (Kd.R_reads' hcut.rs.rl).2.2 (i : Int) (by omega) (by omega)
                         cases e4
                         rw [rdT_of hx.out] at q0 q1 q2 q3
                         simp only [Int.toNat_natCast] at q0 q1 q2 q3
                         have T0 := Aside0.mk hcut
                         clear hcut
                         go_upto_region 25 with fail
                         go_cut [125] from 84 to 208 (fun v125 wx => v125 = .bool (x.f0 != 21) ∧ wc = wx)
                         case first =>
                          as_aux_lemma =>
                           go_wp2
                           go_meet
                           case rel => exact ⟨rfl, rfl⟩
                         case rest =>
                          as_aux_lemma =>
                           obtain ⟨rfl, rfl⟩ := hcut
                           go_upto_if 125 with fail
                           go_cut [15] from 84 to 208 (fun v15 wx => ¬ (x.f0 ≠ 21 ∧ i + 1 = l.length) ∧ RT w l (.slice (some ad) l.length c4) g6 l.length c6 ds (if x.f0 = 21 then [] else [(i : Int) + 1]) v15 wx)
                           case first =>
                            as_aux_lemma =>
                             by_cases h21 : x.f0 = 21
                             ·have d1 : (x.f0 != 21) = false := by simpa using h21
                              replace h21 := Aside0.mk h21
                              go_wp2
                              go_meet
                              case rel => exact ⟨fun h => h.1 h21.out, by rw [if_pos h21.out]; exact T0.out⟩
                             ·have d1 : (x.f0 != 21) = true := by simpa using h21
                              replace h21 := Aside0.mk h21
                              by_cases hen : i + 1 = l.length
                              ·have d3 : ((i : Int) + 1 == (l.length : Int)) = true := by simp; omega
                               have hr' := Aside0.mk (hnone.out (by have h := hsw2.out; rw [if_pos ⟨h21.out, hen⟩] at h; exact h.symm))
                               replace hen := Aside0.mk hen
                               go_wp2
                               go_ret2
                               exact RefPost.no hr'.out T0.out.rs.bel
                              ·have d3 : ((i : Int) + 1 == (l.length : Int)) = false := by simp; omega
                               have hsz2 := Aside0.mk T0.out.rs.bel.size
                               replace hen := Aside0.mk hen
                               go_wp2_with (first
                                | (at_builtin; refine app_i64 rfl (.tmp 131) (.tmp 134) rfl _ [] _ rfl rfl rfl T0.out.rt T0.out.rs.bel (Nat.le_refl _) hsz2.out (of_decide_eq_true rfl) ?_; intro v1 w1 j1 j2 j3 j4))
                               go_meet
                               case rel => exact ⟨fun h => hen.out h.2, by rw [if_neg h21.out]; exact T0.out.app j1 j2 j3 j4⟩
                           case rest =>
                            as_aux_lemma =>
                             clear q0 q1 q2 q3 T0
                             obtain ⟨hne, T0⟩ := hcut
                             have hsw3 := hsw2.out
                             rw [if_neg hne] at hsw3
                             replace hne := Aside0.mk hne
                             replace hsw3 := Aside0.mk hsw3
                             obtain ⟨ad', e4, q0, q1, q2, q3⟩ := at_T36 (Kd.R_reads' T0.rs.rl).2.2 (i : Int) (by omega) (by omega)
                             cases e4
                             rw [rdT_of hx.out] at q0 q1 q2 q3
                             simp only [Int.toNat_natCast] at q0 q1 q2 q3
                             replace T0 := Aside0.mk T0
                             clear hsw2
                             go_upto_region 29 with fail
                             go_cut [149] from 84 to 208 (fun v149 wx => v149 = .bool (jmp x) ∧ wc = wx)
                             case first =>
                              as_aux_lemma =>
                               by_cases h1 : x.f0 = 21
                               ·have h2 := Aside0.mk (show jmp x = true by unfold jmp; simp [h1])
                                have d1 : (x.f0 == 21) = true := by simpa using h1
                                clear h1
                                go_wp2
                                go_meet
                                case rel => exact ⟨by rw [h2.out], rfl⟩
                               ·have d1 : (x.f0 == 21) = false := by simpa using h1
                                by_cases h3 : x.f0 = 22
                                ·have h2 := Aside0.mk (show jmp x = true by unfold jmp; simp [h3])
                                 have d3 : (x.f0 == 22) = true := by simpa using h3
                                 clear h1 h3
                                 go_wp2
                                 go_meet
                                 case rel => exact ⟨by rw [h2.out], rfl⟩
                                ·have h2 := Aside0.mk (show jmp x = false by unfold jmp; simp [h1, h3])
                                 have d3 : (x.f0 == 22) = false := by simpa using h3
                                 clear h1 h3
                                 go_wp2
                                 go_meet
                                 case rel => exact ⟨by rw [h2.out], rfl⟩
                             case rest =>
                              as_aux_lemma =>
                               obtain ⟨rfl, rfl⟩ := hcut
                               go_upto_if 149 with fail
                               go_cut [15] from 84 to 208 (RT w l (.slice (some ad) l.length c4) g6 l.length c6 ds (toR l i x))
                               case first =>
                                as_aux_lemma =>
                                 cases hj : jmp x with
                                 | false =>
                                  have et := Aside0.mk (show toR l i x = (if x.f0 = 21 then [] else [(i : Int) + 1]) by unfold toR; rw [hj]; simp)
                                  replace hj := Aside0.mk hj
                                  go_wp2
                                  go_meet
                                  case rel => exact (by rw [et.out]; exact T0.out)
                                 | true =>
                                  have hso : (findS l x.f1).isSome = true := by
                                   obtain ⟨k, hk⟩ := okS_jmp hok.out hx.out hj
                                   rw [hk]; rfl
                                  have et := Aside0.mk (show toR l i x = (if x.f0 = 21 then [] else [(i : Int) + 1]) ++ [findI l x.f1] by unfold toR; rw [hj, findI_some hso]; simp)
                                  have hfc := Aside0.mk (find_calls hplc.out (by omega) x.f1 (some ad) c4 _ (Kd.R_reads' T0.out.rs.rl).2.2 hc4.out)
                                  have hlen9 := Aside0.mk (show (if x.f0 = 21 then [] else [(i : Int) + 1]).length < 1000000 by split <;> simp)
                                  replace hj := Aside0.mk hj
                                  clear hso
                                  go_wp2_with (first
                                   | (go_at_call 44; (with_reducible refine hfc.out.mono ?_); rintro e w5 ⟨rfl, hB⟩; have T1 := Aside0.mk (T0.out.below hB); have hsz2 := Aside0.mk T1.out.rs.bel.size; clear hB)
                                   | (at_builtin; refine app_i64 rfl (.tmp 150) (.tmp 158) rfl _ _ _ rfl rfl rfl T1.out.rt T1.out.rs.bel (Nat.le_refl _) hsz2.out hlen9.out ?_; intro v1 w1 j1 j2 j3 j4))
                                  go_meet
                                  case rel => exact (by rw [et.out]; exact T1.out.app j1 j2 j3 j4)
                               case rest =>
                                as_aux_lemma =>
                                 clear q0 q1 q2 q3 T0
                                 have T0 := Aside0.mk hcut
                                 clear hcut
                                 obtain ⟨A15, c15, e15⟩ := Kd.R_slice T0.out.rt
                                 subst e15
                                 have hlt' : ∀ j ∈ succs l i x, j < l.length := by
                                  intro j hj
                                  have hle := succs_le hx.out hj
                                  by_cases hjl : j = l.length
                                  ·exfalso
                                   unfold succs at hj
                                   rcases List.mem_append.1 hj with h | h
                                   ·split at h
                                    ·rename_i hjx
                                     obtain ⟨k, hk⟩ := okS_jmp hok.out hx.out hjx
                                     rw [hk] at h
                                     simp at h
                                     have := findS_lt hk
                                     omega
                                    ·simp at h
                                   ·split at h
                                    ·simp at h
                                    ·rename_i h21
                                     simp at h
                                     exact hne.out ⟨h21, by omega⟩
                                  ·omega
                                 have hts : ∀ k ∈ toR l i x, 0 ≤ k ∧ k < (l.length : Int) := fun k hk => by
                                  obtain ⟨j, rfl, hj⟩ := toR_succs k hk
                                  have := hlt' j hj
                                  omega
                                 have hspec := visitR_spec (n := i) hdd0 hst.out hlt' (toR l i x) ds m toR_succs inv.out
                                 have hspec2 : ∀ ds' m', visitR (e0 - tk x + pt x) (toR l i x) ds m = some (ds', m') → LookInv l [] ds' := fun ds' m' e => by
                                  rcases hspec with ⟨e1, _⟩ | ⟨ds1, m1, e1, i1, _⟩
                                  ·rw [e] at e1; cases e1
                                  ·rw [e] at e1; cases e1; exact i1
                                 have htl : (toR l i x).length ≤ 2 := by unfold toR; split <;> split <;> simp
                                 have hsw4 := hsw3.out
                                 have hel := inv.out.len
                                 clear hspec hlt' hsw3 hst
                                 generalize toR l i x = tl at *
                                 generalize hdd : e0 - tk x + pt x = dd at *
                                 obtain ⟨V2, hV2⟩ : ∃ V2, visitR dd tl ds m = V2 := ⟨_, rfl⟩
                                 rw [hV2] at hsw4 hspec2
                                 replace hdd := Aside0.mk hdd
                                 replace hsw4 := Aside0.mk hsw4
                                 replace hspec2 := Aside0.mk hspec2
                                 replace hV2 := Aside0.mk hV2
                                 replace hts := Aside0.mk hts
                                 have hnone2 := Aside0.mk (show V2 = none → depthsS s = ([], 8) from fun e => hnone.out (by have h := hsw4.out; rw [e] at h; exact h.symm))
                                 have he0p := Aside0.mk (show 0 ≤ e0 by omega)
                                 clear hb1 hb2 hneg
                                 go_upto_block 6 with fail
                                 go_wp2
                                 go_loopg [11, 16] tl.length (PVi w l (.slice (some ad) l.length c4) g6 c6 i e0 dd tl (.slice A15 tl.length c15) V2)
                                 case atStart => exact ⟨0, ds, m, rfl, by omega, rfl, T0.out, hel, he0'.out, hV2.out⟩
                                 case round =>
                                  as_aux_lemma =>
                                   clear T0 hV2 he0' hel
                                   obtain ⟨j, ds1, m1, rfl, hjk, rfl, T, hel, hei, hvi⟩ := hrel
                                   cases gk with
                                   | zero =>
                                    have ej : j = tl.length := by omega
                                    subst ej
                                    rw [List.drop_length, visitR] at hvi
                                    subst hvi
                                    have inv' := Aside0.mk (hspec2.out ds1 m1 rfl)
                                    have hltj : ¬ (tl.length : Int) < (tl.length : Int) := by omega
                                    replace T := Aside0.mk T
                                    clear hei hjk
                                    go_wp2
                                    go_roundg gk2
                                    case measure => omega
                                    case rel => exact ⟨i + 1, ds1, m1, by go_num, by have := hik.out; omega, rfl, T.out.rs, inv'.out, hsw4.out⟩
                                   | succ gk =>
                                    have hjl : j < tl.length := by omega
                                    have hltj : (j : Int) < (tl.length : Int) := by omega
                                    obtain ⟨k, hk⟩ : ∃ k, tl[j]? = some k := ⟨_, List.getElem?_eq_getElem hjl⟩
                                    have hdr : tl.drop j = k :: tl.drop (j + 1) := by
                                     rw [List.drop_eq_getElem_cons hjl]
                                     rw [List.getElem?_eq_getElem hjl] at hk
                                     rw [Option.some.inj hk]
                                    have hkb := hts.out k (List.mem_of_getElem? hk)
                                    obtain ⟨kn, rfl⟩ := Int.eq_ofNat_of_zero_le hkb.1
                                    have en : ((kn : Int)).toNat = kn := by simp
                                    rw [hdr, visitR, en] at hvi
                                    obtain ⟨g15, c15', e15, -, -, -⟩ := R_own0 T.rt (by omega)
                                    obtain ⟨rfl, rfl⟩ : A15 = some ⟨g15, 0, none⟩ ∧ c15 = c15' := by
                                     injection e15 with a b c
                                     exact ⟨a, c⟩
                                    obtain ⟨y0, -⟩ := R_cell T.rt (i := j) hjl
                                    rw [rd_of hk] at y0
                                    have hkl : kn < ds1.length := by omega
                                    have hil1 : i < ds1.length := by omega
                                    have hkl' : (kn : Int) < (l.length : Int) := hkb.2
                                    replace hjk := Aside0.mk hjk
                                    replace hdr := Aside0.mk hdr
                                    replace hk := Aside0.mk hk
                                    have hj2 : (j : Int) ≤ 2 := by omega
                                    replace T := Aside0.mk T
                                    clear e15 en hkb
                                    go_upto_region 34 with fail
                                    go_cut [17] from 160 to 208 (fun v17 wx => v17 = .int .i64 (kn : Int) ∧ wr = wx)
                                    case first =>
                                     as_aux_lemma =>
                                      go_wp2
                                      go_meet
                                      case rel => exact ⟨rfl, rfl⟩
                                    case rest =>
                                     as_aux_lemma =>
                                      obtain ⟨rfl, rfl⟩ := hcut
                                      clear y0
                                      obtain ⟨y0, f0⟩ := R_cell T.out.rs.rd (i := kn) hkl
                                      obtain ⟨y1, -⟩ := R_cell T.out.rs.rd (i := i) hil1
                                      rw [hei] at y1
                                      obtain ⟨e, he⟩ : ∃ e, rd ds1 (kn : Int) = e := ⟨_, rfl⟩
                                      rw [he] at hvi y0
                                      have hei2 := Aside0.mk (show (e ≥ 0 → e = dd) → rd (ds1.set kn dd) (i : Int) = e0 from fun h => by
                                       by_cases hki : kn = i
                                       ·subst hki
                                        rw [he] at hei
                                        rw [rd_of (List.getElem?_set_self hkl), ← h (by have := he0p.out; omega), hei]
                                       ·rw [← hei]
                                        unfold rd
                                        simp [List.getD, List.getElem?_set_ne hki])
                                      replace he := Aside0.mk he
                                      replace hei := Aside0.mk hei
                                      have hddv : e0 - tk x + pt x = dd := hdd.out
                                      go_upto_region 35 with fail
                                      go_cut [189] from 160 to 208 (fun v189 wx => v189 = .bool (decide (0 ≤ e ∧ e ≠ dd)) ∧ RT w l (.slice (some ad) l.length c4) g6 l.length c6 ds1 tl (.slice (some ⟨g15, 0, none⟩) tl.length c15) wx)
                                      case first =>
                                       as_aux_lemma =>
                                        by_cases h1 : 0 ≤ e
                                        ·have d1 : decide (0 ≤ e) = true := decide_eq_true h1
                                         by_cases h2 : e = dd
                                         ·have d2 : (e != dd) = false := by simpa using h2
                                          have h3 := Aside0.mk (show decide (0 ≤ e ∧ e ≠ dd) = false from decide_eq_false (fun h => h.2 h2))
                                          replace h2 := Aside0.mk h2
                                          go_quiet (fail)
                                          go_wp2
                                          go_meet
                                          case rel => exact ⟨by rw [h3.out], T.out.below (pw_below_drewN (Below.refl _ _) _)⟩
                                         ·have d2 : (e != dd) = true := by simpa using h2
                                          have h3 := Aside0.mk (show decide (0 ≤ e ∧ e ≠ dd) = true from decide_eq_true ⟨h1, h2⟩)
                                          replace h2 := Aside0.mk h2
                                          go_quiet (fail)
                                          go_wp2
                                          go_meet
                                          case rel => exact ⟨by rw [h3.out], T.out.below (pw_below_drewN (Below.refl _ _) _)⟩
                                        ·have d1 : decide (0 ≤ e) = false := decide_eq_false h1
                                         have h3 := Aside0.mk (show decide (0 ≤ e ∧ e ≠ dd) = false from decide_eq_false (fun h => h1 h.1))
                                         go_quiet (fail)
                                         go_wp2
                                         go_meet
                                         case rel => exact ⟨by rw [h3.out], T.out.below (pw_below_drewN (Below.refl _ _) _)⟩
                                      case rest =>
                                       as_aux_lemma =>
                                        clear y0 f0 y1 T
                                        obtain ⟨rfl, T⟩ := hcut
                                        replace T := Aside0.mk T
                                        by_cases hbad : 0 ≤ e ∧ e ≠ dd
                                        ·rw [decide_eq_true hbad]
                                         have hr' := Aside0.mk (hnone2.out (by have h := hvi; rw [if_pos hbad.1, if_neg hbad.2] at h; exact h.symm))
                                         clear hbad hvi
                                         go_wp2
                                         go_ret2
                                         exact RefPost.no hr'.out T.out.rs.bel
                                        ·rw [decide_eq_false hbad]
                                         have hvi2 := Aside0.mk (show visitR dd (tl.drop (j + 1)) (ds1.set kn dd) (m1 || decide (e < 0)) = V2 by
                                          by_cases h1 : e ≥ 0
                                          ·have h2 : e = dd := Classical.not_not.1 (fun h => hbad ⟨h1, h⟩)
                                           rw [if_pos h1, if_pos h2] at hvi
                                           rw [decide_eq_false (by omega), Bool.or_false]
                                           exact hvi
                                          ·rw [if_neg h1] at hvi
                                           rw [decide_eq_true (by omega), Bool.or_true]
                                           exact hvi)
                                         have hei3 := Aside0.mk (hei2.out (fun h1 => Classical.not_not.1 (fun h => hbad ⟨h1, h⟩)))
                                         clear hbad hvi
                                         obtain ⟨y0, f0⟩ := R_cell T.out.rs.rd (i := kn) hkl
                                         obtain ⟨y1, -⟩ := R_cell T.out.rs.rd (i := i) hil1
                                         rw [he.out] at y0
                                         rw [hei.out] at y1
                                         go_upto_region 37 with fail
                                         go_cut [11] from 160 to 208 (fun v11 wx => v11 = .bool (m1 || decide (e < 0)) ∧ wc = wx)
                                         case first =>
                                          as_aux_lemma =>
                                           cases m1 with
                                           | true =>
                                            go_wp2
                                            go_meet
                                            case rel => exact ⟨by simp, rfl⟩
                                           | false =>
                                            go_wp2
                                            go_meet
                                            case rel => exact ⟨by simp, rfl⟩
                                         case rest =>
                                          as_aux_lemma =>
                                           obtain ⟨rfl, rfl⟩ := hcut
                                           have T2 := Aside0.mk (T.out.set kn dd)
                                           have hel2 := Aside0.mk (show (ds1.set kn dd).length = l.length by rw [List.length_set]; exact hel)
                                           clear hel
                                           go_wp2
                                           go_roundg gk
                                           case measure => omega
                                           case rel => exact ⟨j + 1, ds1.set kn dd, _, by go_num, by have := hjk.out; omega, rfl, T2.out, hel2.out, hei3.out, hvi2.out⟩
        case rest =>
         as_aux_lemma =>
          obtain ⟨ds, r, hR⟩ := hcut
          have hres := Aside0.mk (show depthsS s = (ds, 0) by rw [depths_right hda.out hsz.out hok.out hR]; rfl)
          replace r := Aside0.mk r
          go_wp2
          go_ret2
          refine ⟨_, by rw [hres.out]; rfl, ?_, r.out.bel⟩
          rw [hres.out]
          exact r.out.rd
end Go.Proofs.Ytjbpljcfogekhaa.Q
namespace Go.Proofs.Ytjbpljcfogekhaa.Q
open Go.RowKit Ytjbpljcfogekhaa.Core YtjbpljcfogekhaaW.PrintWords YtjbpljcfogekhaaW.PrintLast YtjbpljcfogekhaaW.PrintMore
def janusref06_Depths.f (_ : Nat) (a0 : ByteArray) : Option (List Int × Int) := if a0.size ≤ 4398046511104 then some (depthsS a0) else none
theorem janusref06_Depths.calls (k : Nat) (a0 : ByteArray) (r1 : List Int) (r2 : Int) (w : World) (h : janusref06_Depths.f k a0 = some (r1, r2)) :
  Calls Try.prog 30 #[.string a0] w fun e w' => ∃ v0_ : Value, e = .returned (.tuple #[v0_, .int .i64 r2]) ∧ Kd.R (Kd.int .i64) 3 w' w.heap.size (fun _ => True) v0_ r1 ∧ Below w.heap.size w w' := by
 unfold janusref06_Depths.f at h
 split at h
 ·rename_i hs
  have e := Option.some.inj h
  have e1 : r1 = (depthsS a0).1 := by rw [e]
  have e2 : r2 = (depthsS a0).2 := by rw [e]
  subst e1
  subst e2
  exact rdepths_calls a0 hs w
 ·cases h
end Go.Proofs.Ytjbpljcfogekhaa.Q
