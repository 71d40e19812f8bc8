/- januslaw06.ValidDead: part 3 of 4: what the walks and the plain law need, in order. -/
import Derived.Test.YtjbpljcfogekhaaVd2
import Derived.WalkSpells
import Derived.Lib.SliceRun
import Derived.Outline
import Derived.Laws.EntriesVeiled
import Derived.Deep.RegionHeld3
import Derived.Maps.Own
import Derived.Maps.OwnOps
import Derived.Maps.OwnSet
import Derived.Maps.Views
import Derived.StillTailTactics
import Derived.Deep.RegionLaw
import Derived.Deep.CutRange
import Derived.WalkMore
set_option linter.unusedVariables false
set_option linter.unusedSimpArgs false
namespace Go.Proofs.Ytjbpljcfogekhaa.Q
open Go.RowKit YtjbpljcfogekhaaW.PrintWords YtjbpljcfogekhaaW.PrintLast YtjbpljcfogekhaaW.PrintMore
attribute [local go_sem] max2_int min2_int max_two min_two max_three min_three max_four min_four
mutual
def janusref05_Args.j0 : Nat → Int → Bool → Option (Int)
 | 0, _, _ => none
 | k + 1, x3, x4 => if x4 = true then (some 0) else (if x3 = 1 then (janusref05_Args.j1 k x3 (x3 == 1)) else (if x3 = 4 then (janusref05_Args.j1 k x3 (x3 == 4)) else (if x3 = 6 then (janusref05_Args.j1 k x3 (x3 == 6)) else (if x3 = 9 then (janusref05_Args.j1 k x3 (x3 == 9)) else (janusref05_Args.j1 k x3 (x3 == 10))))))
def janusref05_Args.j1 : Nat → Int → Bool → Option (Int)
 | 0, _, _ => none
 | k + 1, x3, x9 => if x9 = true then (some 1) else (if x3 = 3 then (janusref05_Args.j2 k x3 (x3 == 3)) else (if x3 = 11 then (janusref05_Args.j2 k x3 (x3 == 11)) else (if x3 = 12 then (janusref05_Args.j2 k x3 (x3 == 12)) else (if x3 = 15 then (janusref05_Args.j2 k x3 (x3 == 15)) else (janusref05_Args.j2 k x3 (x3 == 16))))))
def janusref05_Args.j2 : Nat → Int → Bool → Option (Int)
 | 0, _, _ => none
 | k + 1, x3, x15 => if x15 = true then (some 2) else (if x3 = 5 then (janusref05_Args.j3 k x3 (x3 == 5)) else (if x3 = 7 then (janusref05_Args.j3 k x3 (x3 == 7)) else (janusref05_Args.j3 k x3 (x3 == 8))))
def janusref05_Args.j3 : Nat → Int → Bool → Option (Int)
 | 0, _, _ => none
 | k + 1, x3, x21 => if x21 = true then (some 3) else (if x3 = 13 then (some 4) else (if x3 = 14 then (some 4) else (some (-1))))
end
def janusref05_Args.f (k : Nat) (a0 : Int) : Option (Int) := if a0 = 2 then (janusref05_Args.j0 k a0 (a0 == 2)) else (if a0 = 17 then (janusref05_Args.j0 k a0 (a0 == 17)) else (if a0 = 18 then (janusref05_Args.j0 k a0 (a0 == 18)) else (janusref05_Args.j0 k a0 (a0 == 19))))
set_option maxHeartbeats 8000000 in
set_option maxRecDepth 100000 in
theorem janusref05_Args.calls (k : Nat) (a0 : Int) (r : Int) (w : World) (h : janusref05_Args.f k a0 = some r) :
  Calls Try.prog 26 #[.int .i64 a0] w fun e w' => e = .returned (.int .i64 r) ∧ Drawn0 w w' := by
 have H : (if a0 = 2 then (janusref05_Args.j0 k a0 (a0 == 2)) else (if a0 = 17 then (janusref05_Args.j0 k a0 (a0 == 17)) else (if a0 = 18 then (janusref05_Args.j0 k a0 (a0 == 18)) else (janusref05_Args.j0 k a0 (a0 == 19))))) = some r := h
 clear h
 have HC2 := Aside0.mk H
 clear H
 go_enter Try.func26, Try.ntmps26
 go_upto_if 4 with (fail)
 go_cut [4] (fun v4 wc => ∃ (kq : Nat) (x4_1 : Bool), v4 = .bool x4_1 ∧ Aside0 (janusref05_Args.j0 kq a0 x4_1 = some r) ∧ Aside0 (kq ≤ k) ∧ Drawn0 w wc)
 case first =>
  have H := HC2.out
  clear HC2
  by_cases c3 : a0 = 2
  ·rw [if_pos c3] at H
   have c3b0 : (a0 == 2) = true := beq_iff_eq.mpr c3
   have c3b1 : (a0 != 2) = false := bne_eq_false_iff_eq.mpr c3
   clear c3
   (first | rw [c3b0] | (simp only [i64_w, i32_w]; rw [c3b0]) | skip)
   have H' := Aside0.mk H
   clear H
   go_wp2
   go_meet
   case rel => exact ⟨_, ((a0 == 2)), (by first | rfl | (simp; done) | (simp [*]; done)), H', ⟨by first | omega | exact Nat.le_refl _⟩, by repeat (first | exact Drawn0.refl _ | apply Drawn0.step)⟩
  ·rw [if_neg c3] at H
   have c3b0 : (a0 == 2) = false := beq_eq_false_iff_ne.mpr c3
   have c3b1 : (a0 != 2) = true := bne_iff_ne.mpr c3
   (first | rw [c3b0] | (simp only [i64_w, i32_w]; rw [c3b0]) | skip)
   by_cases c4 : a0 = 17
   ·rw [if_pos c4] at H
    have c4b0 : (a0 == 17) = true := beq_iff_eq.mpr c4
    have c4b1 : (a0 != 17) = false := bne_eq_false_iff_eq.mpr c4
    clear c4
    have H' := Aside0.mk H
    clear H
    go_wp2
    go_meet
    case rel => exact ⟨_, ((a0 == 17)), (by first | rfl | (simp; done) | (simp [*]; done)), H', ⟨by first | omega | exact Nat.le_refl _⟩, by repeat (first | exact Drawn0.refl _ | apply Drawn0.step)⟩
   ·rw [if_neg c4] at H
    have c4b0 : (a0 == 17) = false := beq_eq_false_iff_ne.mpr c4
    have c4b1 : (a0 != 17) = true := bne_iff_ne.mpr c4
    by_cases c5 : a0 = 18
    ·rw [if_pos c5] at H
     have c5b0 : (a0 == 18) = true := beq_iff_eq.mpr c5
     have c5b1 : (a0 != 18) = false := bne_eq_false_iff_eq.mpr c5
     clear c5
     have H' := Aside0.mk H
     clear H
     go_wp2
     go_meet
     case rel => exact ⟨_, ((a0 == 18)), (by first | rfl | (simp; done) | (simp [*]; done)), H', ⟨by first | omega | exact Nat.le_refl _⟩, by repeat (first | exact Drawn0.refl _ | apply Drawn0.step)⟩
    ·rw [if_neg c5] at H
     have c5b0 : (a0 == 18) = false := beq_eq_false_iff_ne.mpr c5
     have c5b1 : (a0 != 18) = true := bne_iff_ne.mpr c5
     have H' := Aside0.mk H
     clear H
     go_wp2
     go_meet
     case rel => exact ⟨_, ((a0 == 19)), (by first | rfl | (simp; done) | (simp [*]; done)), H', ⟨by first | omega | exact Nat.le_refl _⟩, by repeat (first | exact Drawn0.refl _ | apply Drawn0.step)⟩
 case rest =>
  clear HC2
  try clear c2
  try clear p2
  try clear c3
  try clear c3b0
  try clear c3b1
  try clear c4
  try clear c4b0
  try clear c4b1
  try clear c5
  try clear c5b0
  try clear c5b1
  obtain ⟨kq, x4_1, rfl, HA, HJ1, ⟨mc1, rfl⟩⟩ := hcut
  cases kq with
  | zero => exact absurd HA.out (by simp [janusref05_Args.j0])
  | succ kj1 =>
   have H := HA.out
   clear HA
   simp only [janusref05_Args.j0] at H
   by_cases c6 : x4_1 = true
   ·subst c6
    have H1 : (some 0) = some r := by rw [if_pos rfl] at H; exact H
    clear H
    have H := H1
    clear H1
    obtain rfl := Option.some.inj H
    go_wp2
    go_ret
    exact ⟨by first | rfl | (simp; done) | (simp [*]; done) | (simp; unfold wrap64; omega), by repeat (first | exact Drawn0.refl _ | apply Drawn0.step)⟩
   ·replace c6 := Bool.eq_false_iff.mpr c6
    subst c6
    have H1 : (if a0 = 1 then (janusref05_Args.j1 kj1 a0 (a0 == 1)) else (if a0 = 4 then (janusref05_Args.j1 kj1 a0 (a0 == 4)) else (if a0 = 6 then (janusref05_Args.j1 kj1 a0 (a0 == 6)) else (if a0 = 9 then (janusref05_Args.j1 kj1 a0 (a0 == 9)) else (janusref05_Args.j1 kj1 a0 (a0 == 10)))))) = some r := by rw [if_neg (show ¬ (false = true) by decide)] at H; exact H
    clear H
    have H := H1
    clear H1
    have HC7 := Aside0.mk H
    clear H
    go_upto_if 9 with (fail)
    go_cut [9] (fun v9 wc => ∃ (kq : Nat) (x9_6 : Bool), v9 = .bool x9_6 ∧ Aside0 (janusref05_Args.j1 kq a0 x9_6 = some r) ∧ Aside0 (kq ≤ kj1) ∧ Drawn0 w wc)
    case first =>
     have H := HC7.out
     clear HC7
     by_cases c8 : a0 = 1
     ·rw [if_pos c8] at H
      have c8b0 : (a0 == 1) = true := beq_iff_eq.mpr c8
      have c8b1 : (a0 != 1) = false := bne_eq_false_iff_eq.mpr c8
      clear c8
      (first | rw [c8b0] | (simp only [i64_w, i32_w]; rw [c8b0]) | skip)
      have H' := Aside0.mk H
      clear H
      go_wp2
      go_meet
      case rel => exact ⟨_, ((a0 == 1)), (by first | rfl | (simp; done) | (simp [*]; done)), H', ⟨by have := HJ1.out; first | omega | exact Nat.le_refl _⟩, by repeat (first | exact Drawn0.refl _ | apply Drawn0.step)⟩
     ·rw [if_neg c8] at H
      have c8b0 : (a0 == 1) = false := beq_eq_false_iff_ne.mpr c8
      have c8b1 : (a0 != 1) = true := bne_iff_ne.mpr c8
      (first | rw [c8b0] | (simp only [i64_w, i32_w]; rw [c8b0]) | skip)
      by_cases c9 : a0 = 4
      ·rw [if_pos c9] at H
       have c9b0 : (a0 == 4) = true := beq_iff_eq.mpr c9
       have c9b1 : (a0 != 4) = false := bne_eq_false_iff_eq.mpr c9
       clear c9
       have H' := Aside0.mk H
       clear H
       go_wp2
       go_meet
       case rel => exact ⟨_, ((a0 == 4)), (by first | rfl | (simp; done) | (simp [*]; done)), H', ⟨by have := HJ1.out; first | omega | exact Nat.le_refl _⟩, by repeat (first | exact Drawn0.refl _ | apply Drawn0.step)⟩
      ·rw [if_neg c9] at H
       have c9b0 : (a0 == 4) = false := beq_eq_false_iff_ne.mpr c9
       have c9b1 : (a0 != 4) = true := bne_iff_ne.mpr c9
       by_cases c10 : a0 = 6
       ·rw [if_pos c10] at H
        have c10b0 : (a0 == 6) = true := beq_iff_eq.mpr c10
        have c10b1 : (a0 != 6) = false := bne_eq_false_iff_eq.mpr c10
        clear c10
        have H' := Aside0.mk H
        clear H
        go_wp2
        go_meet
        case rel => exact ⟨_, ((a0 == 6)), (by first | rfl | (simp; done) | (simp [*]; done)), H', ⟨by have := HJ1.out; first | omega | exact Nat.le_refl _⟩, by repeat (first | exact Drawn0.refl _ | apply Drawn0.step)⟩
       ·rw [if_neg c10] at H
        have c10b0 : (a0 == 6) = false := beq_eq_false_iff_ne.mpr c10
        have c10b1 : (a0 != 6) = true := bne_iff_ne.mpr c10
        by_cases c11 : a0 = 9
        ·rw [if_pos c11] at H
         have c11b0 : (a0 == 9) = true := beq_iff_eq.mpr c11
         have c11b1 : (a0 != 9) = false := bne_eq_false_iff_eq.mpr c11
         clear c11
         have H' := Aside0.mk H
         clear H
         go_wp2
         go_meet
         case rel => exact ⟨_, ((a0 == 9)), (by first | rfl | (simp; done) | (simp [*]; done)), H', ⟨by have := HJ1.out; first | omega | exact Nat.le_refl _⟩, by repeat (first | exact Drawn0.refl _ | apply Drawn0.step)⟩
        ·rw [if_neg c11] at H
         have c11b0 : (a0 == 9) = false := beq_eq_false_iff_ne.mpr c11
         have c11b1 : (a0 != 9) = true := bne_iff_ne.mpr c11
         have H' := Aside0.mk H
         clear H
         go_wp2
         go_meet
         case rel => exact ⟨_, ((a0 == 10)), (by first | rfl | (simp; done) | (simp [*]; done)), H', ⟨by have := HJ1.out; first | omega | exact Nat.le_refl _⟩, by repeat (first | exact Drawn0.refl _ | apply Drawn0.step)⟩
    case rest =>
     clear HC7
     try clear c1
     try clear c2
     try clear p2
     try clear c3
     try clear c3b0
     try clear c3b1
     try clear c4
     try clear c4b0
     try clear c4b1
     try clear c5
     try clear c5b0
     try clear c5b1
     try clear c6
     try clear c8
     try clear c8b0
     try clear c8b1
     try clear c9
     try clear c9b0
     try clear c9b1
     try clear c10
     try clear c10b0
     try clear c10b1
     try clear c11
     try clear c11b0
     try clear c11b1
     try clear p2
     obtain ⟨kq, x9_6, rfl, HA, HJ6, ⟨mc6, rfl⟩⟩ := hcut
     cases kq with
     | zero => exact absurd HA.out (by simp [janusref05_Args.j1])
     | succ kj6 =>
      have H := HA.out
      clear HA
      simp only [janusref05_Args.j1] at H
      by_cases c12 : x9_6 = true
      ·subst c12
       have H1 : (some 1) = some r := by rw [if_pos rfl] at H; exact H
       clear H
       have H := H1
       clear H1
       obtain rfl := Option.some.inj H
       go_wp2
       go_ret
       exact ⟨by first | rfl | (simp; done) | (simp [*]; done) | (simp; unfold wrap64; omega), by repeat (first | exact Drawn0.refl _ | apply Drawn0.step)⟩
      ·replace c12 := Bool.eq_false_iff.mpr c12
       subst c12
       have H1 : (if a0 = 3 then (janusref05_Args.j2 kj6 a0 (a0 == 3)) else (if a0 = 11 then (janusref05_Args.j2 kj6 a0 (a0 == 11)) else (if a0 = 12 then (janusref05_Args.j2 kj6 a0 (a0 == 12)) else (if a0 = 15 then (janusref05_Args.j2 kj6 a0 (a0 == 15)) else (janusref05_Args.j2 kj6 a0 (a0 == 16)))))) = some r := by rw [if_neg (show ¬ (false = true) by decide)] at H; exact H
       clear H
       have H := H1
       clear H1
       have HC13 := Aside0.mk H
       clear H
       go_upto_if 15 with (fail)
       go_cut [15] (fun v15 wc => ∃ (kq : Nat) (x15_12 : Bool), v15 = .bool x15_12 ∧ Aside0 (janusref05_Args.j2 kq a0 x15_12 = some r) ∧ Aside0 (kq ≤ kj6) ∧ Drawn0 w wc)
       case first =>
        have H := HC13.out
        clear HC13
        by_cases c14 : a0 = 3
        ·rw [if_pos c14] at H
         have c14b0 : (a0 == 3) = true := beq_iff_eq.mpr c14
         have c14b1 : (a0 != 3) = false := bne_eq_false_iff_eq.mpr c14
         clear c14
         (first | rw [c14b0] | (simp only [i64_w, i32_w]; rw [c14b0]) | skip)
         have H' := Aside0.mk H
         clear H
         go_wp2
         go_meet
         case rel => exact ⟨_, ((a0 == 3)), (by first | rfl | (simp; done) | (simp [*]; done)), H', ⟨by have := HJ1.out; have := HJ6.out; first | omega | exact Nat.le_refl _⟩, by repeat (first | exact Drawn0.refl _ | apply Drawn0.step)⟩
        ·rw [if_neg c14] at H
         have c14b0 : (a0 == 3) = false := beq_eq_false_iff_ne.mpr c14
         have c14b1 : (a0 != 3) = true := bne_iff_ne.mpr c14
         (first | rw [c14b0] | (simp only [i64_w, i32_w]; rw [c14b0]) | skip)
         by_cases c15 : a0 = 11
         ·rw [if_pos c15] at H
          have c15b0 : (a0 == 11) = true := beq_iff_eq.mpr c15
          have c15b1 : (a0 != 11) = false := bne_eq_false_iff_eq.mpr c15
          clear c15
          have H' := Aside0.mk H
          clear H
          go_wp2
          go_meet
          case rel => exact ⟨_, ((a0 == 11)), (by first | rfl | (simp; done) | (simp [*]; done)), H', ⟨by have := HJ1.out; have := HJ6.out; first | omega | exact Nat.le_refl _⟩, by repeat (first | exact Drawn0.refl _ | apply Drawn0.step)⟩
         ·rw [if_neg c15] at H
          have c15b0 : (a0 == 11) = false := beq_eq_false_iff_ne.mpr c15
          have c15b1 : (a0 != 11) = true := bne_iff_ne.mpr c15
          by_cases c16 : a0 = 12
          ·rw [if_pos c16] at H
           have c16b0 : (a0 == 12) = true := beq_iff_eq.mpr c16
           have c16b1 : (a0 != 12) = false := bne_eq_false_iff_eq.mpr c16
           clear c16
           have H' := Aside0.mk H
           clear H
           go_wp2
           go_meet
           case rel => exact ⟨_, ((a0 == 12)), (by first | rfl | (simp; done) | (simp [*]; done)), H', ⟨by have := HJ1.out; have := HJ6.out; first | omega | exact Nat.le_refl _⟩, by repeat (first | exact Drawn0.refl _ | apply Drawn0.step)⟩
          ·rw [if_neg c16] at H
           have c16b0 : (a0 == 12) = false := beq_eq_false_iff_ne.mpr c16
           have c16b1 : (a0 != 12) = true := bne_iff_ne.mpr c16
           by_cases c17 : a0 = 15
           ·rw [if_pos c17] at H
            have c17b0 : (a0 == 15) = true := beq_iff_eq.mpr c17
            have c17b1 : (a0 != 15) = false := bne_eq_false_iff_eq.mpr c17
            clear c17
            have H' := Aside0.mk H
            clear H
            go_wp2
            go_meet
            case rel => exact ⟨_, ((a0 == 15)), (by first | rfl | (simp; done) | (simp [*]; done)), H', ⟨by have := HJ1.out; have := HJ6.out; first | omega | exact Nat.le_refl _⟩, by repeat (first | exact Drawn0.refl _ | apply Drawn0.step)⟩
           ·rw [if_neg c17] at H
            have c17b0 : (a0 == 15) = false := beq_eq_false_iff_ne.mpr c17
            have c17b1 : (a0 != 15) = true := bne_iff_ne.mpr c17
            have H' := Aside0.mk H
            clear H
            go_wp2
            go_meet
            case rel => exact ⟨_, ((a0 == 16)), (by first | rfl | (simp; done) | (simp [*]; done)), H', ⟨by have := HJ1.out; have := HJ6.out; first | omega | exact Nat.le_refl _⟩, by repeat (first | exact Drawn0.refl _ | apply Drawn0.step)⟩
       case rest =>
        clear HC13
        try clear c1
        try clear c2
        try clear p2
        try clear c3
        try clear c3b0
        try clear c3b1
        try clear c4
        try clear c4b0
        try clear c4b1
        try clear c5
        try clear c5b0
        try clear c5b1
        try clear c6
        try clear c8
        try clear c8b0
        try clear c8b1
        try clear c9
        try clear c9b0
        try clear c9b1
        try clear c10
        try clear c10b0
        try clear c10b1
        try clear c11
        try clear c11b0
        try clear c11b1
        try clear c12
        try clear c14
        try clear c14b0
        try clear c14b1
        try clear c15
        try clear c15b0
        try clear c15b1
        try clear c16
        try clear c16b0
        try clear c16b1
        try clear c17
        try clear c17b0
        try clear c17b1
        try clear p2
        obtain ⟨kq, x15_12, rfl, HA, HJ12, ⟨mc12, rfl⟩⟩ := hcut
        cases kq with
        | zero => exact absurd HA.out (by simp [janusref05_Args.j2])
        | succ kj12 =>
         have H := HA.out
         clear HA
         simp only [janusref05_Args.j2] at H
         by_cases c18 : x15_12 = true
         ·subst c18
          have H1 : (some 2) = some r := by rw [if_pos rfl] at H; exact H
          clear H
          have H := H1
          clear H1
          obtain rfl := Option.some.inj H
          go_wp2
          go_ret
          exact ⟨by first | rfl | (simp; done) | (simp [*]; done) | (simp; unfold wrap64; omega), by repeat (first | exact Drawn0.refl _ | apply Drawn0.step)⟩
         ·replace c18 := Bool.eq_false_iff.mpr c18
          subst c18
          have H1 : (if a0 = 5 then (janusref05_Args.j3 kj12 a0 (a0 == 5)) else (if a0 = 7 then (janusref05_Args.j3 kj12 a0 (a0 == 7)) else (janusref05_Args.j3 kj12 a0 (a0 == 8)))) = some r := by rw [if_neg (show ¬ (false = true) by decide)] at H; exact H
          clear H
          have H := H1
          clear H1
          have HC19 := Aside0.mk H
          clear H
          go_upto_if 21 with (fail)
          go_cut [21] (fun v21 wc => ∃ (kq : Nat) (x21_18 : Bool), v21 = .bool x21_18 ∧ Aside0 (janusref05_Args.j3 kq a0 x21_18 = some r) ∧ Aside0 (kq ≤ kj12) ∧ Drawn0 w wc)
          case first =>
           have H := HC19.out
           clear HC19
           by_cases c20 : a0 = 5
           ·rw [if_pos c20] at H
            have c20b0 : (a0 == 5) = true := beq_iff_eq.mpr c20
            have c20b1 : (a0 != 5) = false := bne_eq_false_iff_eq.mpr c20
            clear c20
            (first | rw [c20b0] | (simp only [i64_w, i32_w]; rw [c20b0]) | skip)
            have H' := Aside0.mk H
            clear H
            go_wp2
            go_meet
            case rel => exact ⟨_, ((a0 == 5)), (by first | rfl | (simp; done) | (simp [*]; done)), H', ⟨by have := HJ1.out; have := HJ6.out; have := HJ12.out; first | omega | exact Nat.le_refl _⟩, by repeat (first | exact Drawn0.refl _ | apply Drawn0.step)⟩
           ·rw [if_neg c20] at H
            have c20b0 : (a0 == 5) = false := beq_eq_false_iff_ne.mpr c20
            have c20b1 : (a0 != 5) = true := bne_iff_ne.mpr c20
            (first | rw [c20b0] | (simp only [i64_w, i32_w]; rw [c20b0]) | skip)
            by_cases c21 : a0 = 7
            ·rw [if_pos c21] at H
             have c21b0 : (a0 == 7) = true := beq_iff_eq.mpr c21
             have c21b1 : (a0 != 7) = false := bne_eq_false_iff_eq.mpr c21
             clear c21
             have H' := Aside0.mk H
             clear H
             go_wp2
             go_meet
             case rel => exact ⟨_, ((a0 == 7)), (by first | rfl | (simp; done) | (simp [*]; done)), H', ⟨by have := HJ1.out; have := HJ6.out; have := HJ12.out; first | omega | exact Nat.le_refl _⟩, by repeat (first | exact Drawn0.refl _ | apply Drawn0.step)⟩
            ·rw [if_neg c21] at H
             have c21b0 : (a0 == 7) = false := beq_eq_false_iff_ne.mpr c21
             have c21b1 : (a0 != 7) = true := bne_iff_ne.mpr c21
             have H' := Aside0.mk H
             clear H
             go_wp2
             go_meet
             case rel => exact ⟨_, ((a0 == 8)), (by first | rfl | (simp; done) | (simp [*]; done)), H', ⟨by have := HJ1.out; have := HJ6.out; have := HJ12.out; first | omega | exact Nat.le_refl _⟩, by repeat (first | exact Drawn0.refl _ | apply Drawn0.step)⟩
          case rest =>
           clear HC19
           try clear c1
           try clear c2
           try clear p2
           try clear c3
           try clear c3b0
           try clear c3b1
           try clear c4
           try clear c4b0
           try clear c4b1
           try clear c5
           try clear c5b0
           try clear c5b1
           try clear c6
           try clear c8
           try clear c8b0
           try clear c8b1
           try clear c9
           try clear c9b0
           try clear c9b1
           try clear c10
           try clear c10b0
           try clear c10b1
           try clear c11
           try clear c11b0
           try clear c11b1
           try clear c12
           try clear c14
           try clear c14b0
           try clear c14b1
           try clear c15
           try clear c15b0
           try clear c15b1
           try clear c16
           try clear c16b0
           try clear c16b1
           try clear c17
           try clear c17b0
           try clear c17b1
           try clear c18
           try clear c20
           try clear c20b0
           try clear c20b1
           try clear c21
           try clear c21b0
           try clear c21b1
           try clear p2
           obtain ⟨kq, x21_18, rfl, HA, HJ18, ⟨mc18, rfl⟩⟩ := hcut
           cases kq with
           | zero => exact absurd HA.out (by simp [janusref05_Args.j3])
           | succ kj18 =>
            have H := HA.out
            clear HA
            simp only [janusref05_Args.j3] at H
            by_cases c22 : x21_18 = true
            ·subst c22
             have H1 : (some 3) = some r := by rw [if_pos rfl] at H; exact H
             clear H
             have H := H1
             clear H1
             obtain rfl := Option.some.inj H
             go_wp2
             go_ret
             exact ⟨by first | rfl | (simp; done) | (simp [*]; done) | (simp; unfold wrap64; omega), by repeat (first | exact Drawn0.refl _ | apply Drawn0.step)⟩
            ·replace c22 := Bool.eq_false_iff.mpr c22
             subst c22
             have H1 : (if a0 = 13 then (some 4) else (if a0 = 14 then (some 4) else (some (-1)))) = some r := by rw [if_neg (show ¬ (false = true) by decide)] at H; exact H
             clear H
             have H := H1
             clear H1
             by_cases c23 : a0 = 13
             ·rw [if_pos c23] at H
              have c23b0 : (a0 == 13) = true := beq_iff_eq.mpr c23
              have c23b1 : (a0 != 13) = false := bne_eq_false_iff_eq.mpr c23
              clear c23
              obtain rfl := Option.some.inj H
              go_wp2
              go_ret
              exact ⟨by first | rfl | (simp; done) | (simp [*]; done) | (simp; unfold wrap64; omega), by repeat (first | exact Drawn0.refl _ | apply Drawn0.step)⟩
             ·rw [if_neg c23] at H
              have c23b0 : (a0 == 13) = false := beq_eq_false_iff_ne.mpr c23
              have c23b1 : (a0 != 13) = true := bne_iff_ne.mpr c23
              by_cases c24 : a0 = 14
              ·rw [if_pos c24] at H
               have c24b0 : (a0 == 14) = true := beq_iff_eq.mpr c24
               have c24b1 : (a0 != 14) = false := bne_eq_false_iff_eq.mpr c24
               clear c24
               obtain rfl := Option.some.inj H
               go_wp2
               go_ret
               exact ⟨by first | rfl | (simp; done) | (simp [*]; done) | (simp; unfold wrap64; omega), by repeat (first | exact Drawn0.refl _ | apply Drawn0.step)⟩
              ·rw [if_neg c24] at H
               have c24b0 : (a0 == 14) = false := beq_eq_false_iff_ne.mpr c24
               have c24b1 : (a0 != 14) = true := bne_iff_ne.mpr c24
               obtain rfl := Option.some.inj H
               go_wp2
               go_ret
               exact ⟨by first | rfl | (simp; done) | (simp [*]; done) | (simp; unfold wrap64; omega), by repeat (first | exact Drawn0.refl _ | apply Drawn0.step)⟩
end Go.Proofs.Ytjbpljcfogekhaa.Q
namespace Go.Proofs.Ytjbpljcfogekhaa.Q
open Go.RowKit YtjbpljcfogekhaaW.PrintWords YtjbpljcfogekhaaW.PrintLast YtjbpljcfogekhaaW.PrintMore
attribute [local go_sem] max2_int min2_int max_two min_two max_three min_three max_four min_four
mutual
def janusref05_Moves.j0 : Nat → Bool → Int → Int → Int → Int → Option (Int × Int)
 | 0, _, _, _, _, _ => none
 | k + 1, x4, x234000, x234001, x234002, x234003 => if x4 = true then (some (0, 1)) else (if x234000 = 2 then (some (1, 2)) else (if x234000 = 3 then (janusref05_Moves.j1 k true x234000 x234001 x234002 x234003) else (janusref05_Moves.j1 k (x234000 == 22) x234000 x234001 x234002 x234003)))
def janusref05_Moves.j1 : Nat → Bool → Int → Int → Int → Int → Option (Int × Int)
 | 0, _, _, _, _, _ => none
 | k + 1, x17, x234000, x234001, x234002, x234003 => if x17 = true then (some (1, 0)) else (if x234000 = 4 then (some (2, 2)) else (if x234000 = 5 then (some (2, 3)) else (if x234000 ≥ 6 then (janusref05_Moves.j2 k (decide (x234000 ≤ 17)) x234000 x234001 x234002 x234003) else (janusref05_Moves.j2 k false x234000 x234001 x234002 x234003))))
def janusref05_Moves.j2 : Nat → Bool → Int → Int → Int → Int → Option (Int × Int)
 | 0, _, _, _, _, _ => none
 | k + 1, x34, x234000, x234001, x234002, x234003 => if x34 = true then (some (2, 1)) else (if x234000 = 18 then (janusref05_Moves.j3 k true x234000 x234001 x234002 x234003) else (janusref05_Moves.j3 k (x234000 == 19) x234000 x234001 x234002 x234003))
def janusref05_Moves.j3 : Nat → Bool → Int → Int → Int → Int → Option (Int × Int)
 | 0, _, _, _, _, _ => none
 | k + 1, x43, x234000, x234001, x234002, x234003 => if x43 = true then (some (1, 1)) else (if x234000 = 20 then (some (2, 0)) else (if x234000 = 21 then (some (0, 0)) else (if x234000 = 23 then (if x234001 ≤ 255 then ((janusref05_Args.f k (wrap64 (x234001))).bind fun t234 => (if t234 ≥ 0 then ((janusref05_Args.f k (wrap64 (x234001))).bind fun t235 => (some (t235, 1))) else (some ((-1), (-1))))) else (some ((-1), (-1)))) else (some ((-1), (-1))))))
end
def janusref05_Moves.f (k : Nat) (a0_0 : Int) (a0_1 : Int) (a0_2 : Int) (a0_3 : Int) : Option (Int × Int) := if a0_0 = 0 then (janusref05_Moves.j0 k true a0_0 a0_1 a0_2 a0_3) else (janusref05_Moves.j0 k (a0_0 == 1) a0_0 a0_1 a0_2 a0_3)
set_option maxHeartbeats 8000000 in
set_option maxRecDepth 100000 in
theorem janusref05_Moves.calls (k : Nat) (a0_0 : Int) (a0_1 : Int) (a0_2 : Int) (a0_3 : Int) (r1 : Int) (r2 : Int) (w : World) (h : janusref05_Moves.f k a0_0 a0_1 a0_2 a0_3 = some (r1, r2)) :
  Calls Try.prog 24 #[.agg #[.int .i64 a0_0, .int .u64 a0_1, .int .i64 a0_2, .int .i64 a0_3]] w fun e w' => e = .returned (.tuple #[.int .i64 r1, .int .i64 r2]) ∧ Below w.heap.size w w' := by
 have hu36 := Try.underlying36
 have HB := Aside0.mk (Below.refl w.heap.size w)
 have H : (if a0_0 = 0 then (janusref05_Moves.j0 k true a0_0 a0_1 a0_2 a0_3) else (janusref05_Moves.j0 k (a0_0 == 1) a0_0 a0_1 a0_2 a0_3)) = some (r1, r2) := h
 clear h
 have HC2 := Aside0.mk H
 clear H
 go_enter Try.func24, Try.ntmps24
 go_upto_region 1 with (first | ((with_reducible refine gate_dst (N := 1) rfl ?_); refine box_event ?hg (N := 1) ?hd (cs := #[.int .i64 a0_0, .int .u64 a0_1, .int .i64 a0_2, .int .i64 a0_3]) (t := 36) ?hr ?_; (case hd => rfl); (case hg => rfl); (case hr => first | (go_simp; done) | (go_simp; rfl)); intro gb233 hg w3 hbox hb; have n0_ := Aside0.mk (below_step (by repeat (first | (with_reducible first | exact HB.out | apply below_alloc | apply pw_below_drewN | apply below_drew1) | exact HB.out)) hb); have n1_ := Aside0.mk (hbox); have n2_ := Aside0.mk ((by rw [hg]; exact (below_size (by repeat (first | (with_reducible first | exact HB.out | apply below_alloc | apply pw_below_drewN | apply below_drew1) | exact HB.out))) : w.heap.size ≤ gb233)); have n3_ := Aside0.mk ((by rw [hg]; exact (below_size (by repeat (first | (with_reducible first | exact HB.out | apply below_alloc | apply pw_below_drewN | apply below_drew1) | exact HB.out))) : w.heap.size ≤ gb233)); clear HB; have HB := n0_; have BK233 := n1_; have GW233 := n2_; have GE233 := n3_; clear n0_ n1_ n2_ n3_; clear hb hbox hg))
 (try simp only [Act.put, List.setIfInBounds_toArray, List.set_cons_zero, List.set_cons_succ])
 go_cut [4] (fun v4 wc => ∃ (kq : Nat) (x4_1 : Bool), v4 = .bool x4_1 ∧ Aside0 (janusref05_Moves.j0 kq x4_1 a0_0 a0_1 a0_2 a0_3 = some (r1, r2)) ∧ Aside0 (kq ≤ k) ∧ Aside0 (wc.heap[gb233]? = some (.cells #[.int .i64 a0_0, .int .u64 a0_1, .int .i64 a0_2, .int .i64 a0_3] 36 (0, 0))) ∧ Aside0 (Below w.heap.size w wc))
 case first =>
  have H := HC2.out
  clear HC2
  by_cases c4 : a0_0 = 0
  ·rw [if_pos c4] at H
   have c4b0 : (a0_0 == 0) = true := beq_iff_eq.mpr c4
   have c4b1 : (a0_0 != 0) = false := bne_eq_false_iff_eq.mpr c4
   clear c4
   (first | rw [c4b0] | (simp only [i64_w, i32_w]; rw [c4b0]) | skip)
   have H' := Aside0.mk H
   clear H
   have hcz5_0 : w3.cell? ⟨gb233, 0, none⟩ = some (.int .i64 a0_0) := (blk_cell BK233.out 0).trans rfl
   have hcz5_1 : w3.cell? ⟨gb233, 1, none⟩ = some (.int .u64 a0_1) := (blk_cell BK233.out 1).trans rfl
   have hcz5_2 : w3.cell? ⟨gb233, 2, none⟩ = some (.int .i64 a0_2) := (blk_cell BK233.out 2).trans rfl
   have hcz5_3 : w3.cell? ⟨gb233, 3, none⟩ = some (.int .i64 a0_3) := (blk_cell BK233.out 3).trans rfl
   have hfz5_0 := blk_frozen BK233.out 0
   have hfz5_1 := blk_frozen BK233.out 1
   have hfz5_2 := blk_frozen BK233.out 2
   have hfz5_3 := blk_frozen BK233.out 3
   go_wp2
   go_meet
   case rel => exact ⟨_, (true), (by first | rfl | (simp; done) | (simp [*]; done)), H', ⟨by first | omega | exact Nat.le_refl _⟩, ⟨by (with_reducible repeat (first | refine blk_drewN ?_ _ | refine blk_drew ?_ | refine blk_alloc ?_ _)); exact BK233.out⟩, ⟨by repeat (first | (with_reducible first | exact HB.out | apply below_alloc | apply pw_below_drewN | apply below_drew1 | refine below_set ?_ GE233.out) | exact HB.out)⟩⟩
  ·rw [if_neg c4] at H
   have c4b0 : (a0_0 == 0) = false := beq_eq_false_iff_ne.mpr c4
   have c4b1 : (a0_0 != 0) = true := bne_iff_ne.mpr c4
   (first | rw [c4b0] | (simp only [i64_w, i32_w]; rw [c4b0]) | skip)
   have H' := Aside0.mk H
   clear H
   have hcz6_0 : w3.cell? ⟨gb233, 0, none⟩ = some (.int .i64 a0_0) := (blk_cell BK233.out 0).trans rfl
   have hcz6_1 : w3.cell? ⟨gb233, 1, none⟩ = some (.int .u64 a0_1) := (blk_cell BK233.out 1).trans rfl
   have hcz6_2 : w3.cell? ⟨gb233, 2, none⟩ = some (.int .i64 a0_2) := (blk_cell BK233.out 2).trans rfl
   have hcz6_3 : w3.cell? ⟨gb233, 3, none⟩ = some (.int .i64 a0_3) := (blk_cell BK233.out 3).trans rfl
   have hfz6_0 := blk_frozen BK233.out 0
   have hfz6_1 := blk_frozen BK233.out 1
   have hfz6_2 := blk_frozen BK233.out 2
   have hfz6_3 := blk_frozen BK233.out 3
   go_wp2
   go_meet
   case rel => exact ⟨_, ((a0_0 == 1)), (by first | rfl | (simp; done) | (simp [*]; done)), H', ⟨by first | omega | exact Nat.le_refl _⟩, ⟨by (with_reducible repeat (first | refine blk_drewN ?_ _ | refine blk_drew ?_ | refine blk_alloc ?_ _)); exact BK233.out⟩, ⟨by repeat (first | (with_reducible first | exact HB.out | apply below_alloc | apply pw_below_drewN | apply below_drew1 | refine below_set ?_ GE233.out) | exact HB.out)⟩⟩
 case rest =>
  clear HC2
  try clear c2
  try clear p2
  try clear c4
  try clear c4b0
  try clear c4b1
  try clear hcz5_0
  try clear hcz5_1
  try clear hcz5_2
  try clear hcz5_3
  try clear hcz6_0
  try clear hcz6_1
  try clear hcz6_2
  try clear hcz6_3
  try clear hfz5_0
  try clear hfz5_1
  try clear hfz5_2
  try clear hfz5_3
  try clear hfz6_0
  try clear hfz6_1
  try clear hfz6_2
  try clear hfz6_3
  obtain ⟨kq, x4_1, rfl, HA, HJ1, BK233, HB⟩ := hcut
  cases kq with
  | zero => exact absurd HA.out (by simp [janusref05_Moves.j0])
  | succ kj1 =>
   have H := HA.out
   clear HA
   simp only [janusref05_Moves.j0] at H
   by_cases c7 : x4_1 = true
   ·subst c7
    have H1 : (some (0, 1)) = some (r1, r2) := by rw [if_pos rfl] at H; exact H
    clear H
    have H := H1
    clear H1
    simp only [Option.some.injEq, Prod.mk.injEq] at H
    obtain ⟨rfl, rfl⟩ := H
    go_wp2
    go_ret2
    exact ⟨by first | rfl | (simp [errW_none, errW_some] <;> rfl) | (simp [*, errW_none, errW_some] <;> rfl), by repeat (first | (with_reducible first | exact HB.out | apply below_alloc | apply pw_below_drewN | apply below_drew1 | refine below_set ?_ GE233.out) | exact HB.out)⟩
   ·replace c7 := Bool.eq_false_iff.mpr c7
    subst c7
    have H1 : (if a0_0 = 2 then (some (1, 2)) else (if a0_0 = 3 then (janusref05_Moves.j1 kj1 true a0_0 a0_1 a0_2 a0_3) else (janusref05_Moves.j1 kj1 (a0_0 == 22) a0_0 a0_1 a0_2 a0_3))) = some (r1, r2) := by rw [if_neg (show ¬ (false = true) by decide)] at H; exact H
    clear H
    have H := H1
    clear H1
    by_cases c8 : a0_0 = 2
    ·rw [if_pos c8] at H
     have c8b0 : (a0_0 == 2) = true := beq_iff_eq.mpr c8
     have c8b1 : (a0_0 != 2) = false := bne_eq_false_iff_eq.mpr c8
     clear c8
     simp only [Option.some.injEq, Prod.mk.injEq] at H
     obtain ⟨rfl, rfl⟩ := H
     have hcz9_0 : wc.cell? ⟨gb233, 0, none⟩ = some (.int .i64 a0_0) := (blk_cell BK233.out 0).trans rfl
     have hcz9_1 : wc.cell? ⟨gb233, 1, none⟩ = some (.int .u64 a0_1) := (blk_cell BK233.out 1).trans rfl
     have hcz9_2 : wc.cell? ⟨gb233, 2, none⟩ = some (.int .i64 a0_2) := (blk_cell BK233.out 2).trans rfl
     have hcz9_3 : wc.cell? ⟨gb233, 3, none⟩ = some (.int .i64 a0_3) := (blk_cell BK233.out 3).trans rfl
     have hfz9_0 := blk_frozen BK233.out 0
     have hfz9_1 := blk_frozen BK233.out 1
     have hfz9_2 := blk_frozen BK233.out 2
     have hfz9_3 := blk_frozen BK233.out 3
     go_wp2
     go_ret2
     exact ⟨by first | rfl | (simp [errW_none, errW_some] <;> rfl) | (simp [*, errW_none, errW_some] <;> rfl), by repeat (first | (with_reducible first | exact HB.out | apply below_alloc | apply pw_below_drewN | apply below_drew1 | refine below_set ?_ GE233.out) | exact HB.out)⟩
    ·rw [if_neg c8] at H
     have c8b0 : (a0_0 == 2) = false := beq_eq_false_iff_ne.mpr c8
     have c8b1 : (a0_0 != 2) = true := bne_iff_ne.mpr c8
     have HC10 := Aside0.mk H
     clear H
     have hcz11_0 : wc.cell? ⟨gb233, 0, none⟩ = some (.int .i64 a0_0) := (blk_cell BK233.out 0).trans rfl
     have hcz11_1 : wc.cell? ⟨gb233, 1, none⟩ = some (.int .u64 a0_1) := (blk_cell BK233.out 1).trans rfl
     have hcz11_2 : wc.cell? ⟨gb233, 2, none⟩ = some (.int .i64 a0_2) := (blk_cell BK233.out 2).trans rfl
     have hcz11_3 : wc.cell? ⟨gb233, 3, none⟩ = some (.int .i64 a0_3) := (blk_cell BK233.out 3).trans rfl
     have hfz11_0 := blk_frozen BK233.out 0
     have hfz11_1 := blk_frozen BK233.out 1
     have hfz11_2 := blk_frozen BK233.out 2
     have hfz11_3 := blk_frozen BK233.out 3
     go_upto_region 5 with (fail)
     go_cut [17] (fun v17 wc => ∃ (kq : Nat) (x17_9 : Bool), v17 = .bool x17_9 ∧ Aside0 (janusref05_Moves.j1 kq x17_9 a0_0 a0_1 a0_2 a0_3 = some (r1, r2)) ∧ Aside0 (kq ≤ kj1) ∧ Aside0 (wc.heap[gb233]? = some (.cells #[.int .i64 a0_0, .int .u64 a0_1, .int .i64 a0_2, .int .i64 a0_3] 36 (0, 0))) ∧ Aside0 (Below w.heap.size w wc))
     case first =>
      have H := HC10.out
      clear HC10
      by_cases c12 : a0_0 = 3
      ·rw [if_pos c12] at H
       have c12b0 : (a0_0 == 3) = true := beq_iff_eq.mpr c12
       have c12b1 : (a0_0 != 3) = false := bne_eq_false_iff_eq.mpr c12
       clear c12
       (first | rw [c12b0] | (simp only [i64_w, i32_w]; rw [c12b0]) | skip)
       have H' := Aside0.mk H
       clear H
       have hcz13_0 : wc.cell? ⟨gb233, 0, none⟩ = some (.int .i64 a0_0) := (blk_cell BK233.out 0).trans rfl
       have hcz13_1 : wc.cell? ⟨gb233, 1, none⟩ = some (.int .u64 a0_1) := (blk_cell BK233.out 1).trans rfl
       have hcz13_2 : wc.cell? ⟨gb233, 2, none⟩ = some (.int .i64 a0_2) := (blk_cell BK233.out 2).trans rfl
       have hcz13_3 : wc.cell? ⟨gb233, 3, none⟩ = some (.int .i64 a0_3) := (blk_cell BK233.out 3).trans rfl
       have hfz13_0 := blk_frozen BK233.out 0
       have hfz13_1 := blk_frozen BK233.out 1
       have hfz13_2 := blk_frozen BK233.out 2
       have hfz13_3 := blk_frozen BK233.out 3
       go_wp2
       go_meet
       case rel => exact ⟨_, (true), (by first | rfl | (simp; done) | (simp [*]; done)), H', ⟨by have := HJ1.out; first | omega | exact Nat.le_refl _⟩, ⟨by (with_reducible repeat (first | refine blk_drewN ?_ _ | refine blk_drew ?_ | refine blk_alloc ?_ _)); exact BK233.out⟩, ⟨by repeat (first | (with_reducible first | exact HB.out | apply below_alloc | apply pw_below_drewN | apply below_drew1 | refine below_set ?_ GE233.out) | exact HB.out)⟩⟩
      ·rw [if_neg c12] at H
       have c12b0 : (a0_0 == 3) = false := beq_eq_false_iff_ne.mpr c12
       have c12b1 : (a0_0 != 3) = true := bne_iff_ne.mpr c12
       (first | rw [c12b0] | (simp only [i64_w, i32_w]; rw [c12b0]) | skip)
       have H' := Aside0.mk H
       clear H
       have hcz14_0 : wc.cell? ⟨gb233, 0, none⟩ = some (.int .i64 a0_0) := (blk_cell BK233.out 0).trans rfl
       have hcz14_1 : wc.cell? ⟨gb233, 1, none⟩ = some (.int .u64 a0_1) := (blk_cell BK233.out 1).trans rfl
       have hcz14_2 : wc.cell? ⟨gb233, 2, none⟩ = some (.int .i64 a0_2) := (blk_cell BK233.out 2).trans rfl
       have hcz14_3 : wc.cell? ⟨gb233, 3, none⟩ = some (.int .i64 a0_3) := (blk_cell BK233.out 3).trans rfl
       have hfz14_0 := blk_frozen BK233.out 0
       have hfz14_1 := blk_frozen BK233.out 1
       have hfz14_2 := blk_frozen BK233.out 2
       have hfz14_3 := blk_frozen BK233.out 3
       go_wp2
       go_meet
       case rel => exact ⟨_, ((a0_0 == 22)), (by first | rfl | (simp; done) | (simp [*]; done)), H', ⟨by have := HJ1.out; first | omega | exact Nat.le_refl _⟩, ⟨by (with_reducible repeat (first | refine blk_drewN ?_ _ | refine blk_drew ?_ | refine blk_alloc ?_ _)); exact BK233.out⟩, ⟨by repeat (first | (with_reducible first | exact HB.out | apply below_alloc | apply pw_below_drewN | apply below_drew1 | refine below_set ?_ GE233.out) | exact HB.out)⟩⟩
     case rest =>
      clear HC10
      try clear c1
      try clear c2
      try clear p2
      try clear c4
      try clear c4b0
      try clear c4b1
      try clear c7
      try clear c8
      try clear c8b0
      try clear c8b1
      try clear c12
      try clear c12b0
      try clear c12b1
      try clear hcz11_0
      try clear hcz11_1
      try clear hcz11_2
      try clear hcz11_3
      try clear hcz13_0
      try clear hcz13_1
      try clear hcz13_2
      try clear hcz13_3
      try clear hcz14_0
      try clear hcz14_1
      try clear hcz14_2
      try clear hcz14_3
      try clear hcz5_0
      try clear hcz5_1
      try clear hcz5_2
      try clear hcz5_3
      try clear hcz6_0
      try clear hcz6_1
      try clear hcz6_2
      try clear hcz6_3
      try clear hcz9_0
      try clear hcz9_1
      try clear hcz9_2
      try clear hcz9_3
      try clear hfz11_0
      try clear hfz11_1
      try clear hfz11_2
      try clear hfz11_3
      try clear hfz13_0
      try clear hfz13_1
      try clear hfz13_2
      try clear hfz13_3
      try clear hfz14_0
      try clear hfz14_1
      try clear hfz14_2
      try clear hfz14_3
      try clear hfz5_0
      try clear hfz5_1
      try clear hfz5_2
      try clear hfz5_3
      try clear hfz6_0
      try clear hfz6_1
      try clear hfz6_2
      try clear hfz6_3
      try clear hfz9_0
      try clear hfz9_1
      try clear hfz9_2
      try clear hfz9_3
      try clear p2
      obtain ⟨kq, x17_9, rfl, HA, HJ9, BK233, HB⟩ := hcut
      cases kq with
      | zero => exact absurd HA.out (by simp [janusref05_Moves.j1])
      | succ kj9 =>
       have H := HA.out
       clear HA
       simp only [janusref05_Moves.j1] at H
       by_cases c15 : x17_9 = true
       ·subst c15
        have H1 : (some (1, 0)) = some (r1, r2) := by rw [if_pos rfl] at H; exact H
        clear H
        have H := H1
        clear H1
        simp only [Option.some.injEq, Prod.mk.injEq] at H
        obtain ⟨rfl, rfl⟩ := H
        go_wp2
        go_ret2
        exact ⟨by first | rfl | (simp [errW_none, errW_some] <;> rfl) | (simp [*, errW_none, errW_some] <;> rfl), by repeat (first | (with_reducible first | exact HB.out | apply below_alloc | apply pw_below_drewN | apply below_drew1 | refine below_set ?_ GE233.out) | exact HB.out)⟩
       ·replace c15 := Bool.eq_false_iff.mpr c15
        subst c15
        have H1 : (if a0_0 = 4 then (some (2, 2)) else (if a0_0 = 5 then (some (2, 3)) else (if a0_0 ≥ 6 then (janusref05_Moves.j2 kj9 (decide (a0_0 ≤ 17)) a0_0 a0_1 a0_2 a0_3) else (janusref05_Moves.j2 kj9 false a0_0 a0_1 a0_2 a0_3)))) = some (r1, r2) := by rw [if_neg (show ¬ (false = true) by decide)] at H; exact H
        clear H
        have H := H1
        clear H1
        by_cases c16 : a0_0 = 4
        ·rw [if_pos c16] at H
         have c16b0 : (a0_0 == 4) = true := beq_iff_eq.mpr c16
         have c16b1 : (a0_0 != 4) = false := bne_eq_false_iff_eq.mpr c16
         clear c16
         simp only [Option.some.injEq, Prod.mk.injEq] at H
         obtain ⟨rfl, rfl⟩ := H
         have hcz17_0 : wc.cell? ⟨gb233, 0, none⟩ = some (.int .i64 a0_0) := (blk_cell BK233.out 0).trans rfl
         have hcz17_1 : wc.cell? ⟨gb233, 1, none⟩ = some (.int .u64 a0_1) := (blk_cell BK233.out 1).trans rfl
         have hcz17_2 : wc.cell? ⟨gb233, 2, none⟩ = some (.int .i64 a0_2) := (blk_cell BK233.out 2).trans rfl
         have hcz17_3 : wc.cell? ⟨gb233, 3, none⟩ = some (.int .i64 a0_3) := (blk_cell BK233.out 3).trans rfl
         have hfz17_0 := blk_frozen BK233.out 0
         have hfz17_1 := blk_frozen BK233.out 1
         have hfz17_2 := blk_frozen BK233.out 2
         have hfz17_3 := blk_frozen BK233.out 3
         go_wp2
         go_ret2
         exact ⟨by first | rfl | (simp [errW_none, errW_some] <;> rfl) | (simp [*, errW_none, errW_some] <;> rfl), by repeat (first | (with_reducible first | exact HB.out | apply below_alloc | apply pw_below_drewN | apply below_drew1 | refine below_set ?_ GE233.out) | exact HB.out)⟩
        ·rw [if_neg c16] at H
         have c16b0 : (a0_0 == 4) = false := beq_eq_false_iff_ne.mpr c16
         have c16b1 : (a0_0 != 4) = true := bne_iff_ne.mpr c16
         by_cases c18 : a0_0 = 5
         ·rw [if_pos c18] at H
          have c18b0 : (a0_0 == 5) = true := beq_iff_eq.mpr c18
          have c18b1 : (a0_0 != 5) = false := bne_eq_false_iff_eq.mpr c18
          clear c18
          simp only [Option.some.injEq, Prod.mk.injEq] at H
          obtain ⟨rfl, rfl⟩ := H
          have hcz19_0 : wc.cell? ⟨gb233, 0, none⟩ = some (.int .i64 a0_0) := (blk_cell BK233.out 0).trans rfl
          have hcz19_1 : wc.cell? ⟨gb233, 1, none⟩ = some (.int .u64 a0_1) := (blk_cell BK233.out 1).trans rfl
          have hcz19_2 : wc.cell? ⟨gb233, 2, none⟩ = some (.int .i64 a0_2) := (blk_cell BK233.out 2).trans rfl
          have hcz19_3 : wc.cell? ⟨gb233, 3, none⟩ = some (.int .i64 a0_3) := (blk_cell BK233.out 3).trans rfl
          have hfz19_0 := blk_frozen BK233.out 0
          have hfz19_1 := blk_frozen BK233.out 1
          have hfz19_2 := blk_frozen BK233.out 2
          have hfz19_3 := blk_frozen BK233.out 3
          go_wp2
          go_ret2
          exact ⟨by first | rfl | (simp [errW_none, errW_some] <;> rfl) | (simp [*, errW_none, errW_some] <;> rfl), by repeat (first | (with_reducible first | exact HB.out | apply below_alloc | apply pw_below_drewN | apply below_drew1 | refine below_set ?_ GE233.out) | exact HB.out)⟩
         ·rw [if_neg c18] at H
          have c18b0 : (a0_0 == 5) = false := beq_eq_false_iff_ne.mpr c18
          have c18b1 : (a0_0 != 5) = true := bne_iff_ne.mpr c18
          have HC20 := Aside0.mk H
          clear H
          have hcz21_0 : wc.cell? ⟨gb233, 0, none⟩ = some (.int .i64 a0_0) := (blk_cell BK233.out 0).trans rfl
          have hcz21_1 : wc.cell? ⟨gb233, 1, none⟩ = some (.int .u64 a0_1) := (blk_cell BK233.out 1).trans rfl
          have hcz21_2 : wc.cell? ⟨gb233, 2, none⟩ = some (.int .i64 a0_2) := (blk_cell BK233.out 2).trans rfl
          have hcz21_3 : wc.cell? ⟨gb233, 3, none⟩ = some (.int .i64 a0_3) := (blk_cell BK233.out 3).trans rfl
          have hfz21_0 := blk_frozen BK233.out 0
          have hfz21_1 := blk_frozen BK233.out 1
          have hfz21_2 := blk_frozen BK233.out 2
          have hfz21_3 := blk_frozen BK233.out 3
          go_upto_region 11 with (fail)
          go_cut [34] (fun v34 wc => ∃ (kq : Nat) (x34_19 : Bool), v34 = .bool x34_19 ∧ Aside0 (janusref05_Moves.j2 kq x34_19 a0_0 a0_1 a0_2 a0_3 = some (r1, r2)) ∧ Aside0 (kq ≤ kj9) ∧ Aside0 (wc.heap[gb233]? = some (.cells #[.int .i64 a0_0, .int .u64 a0_1, .int .i64 a0_2, .int .i64 a0_3] 36 (0, 0))) ∧ Aside0 (Below w.heap.size w wc))
          case first =>
           have H := HC20.out
           clear HC20
           by_cases c22 : a0_0 ≥ 6
           ·rw [if_pos c22] at H
            have c22b0 : decide (6 ≤ a0_0) = true := decide_eq_true c22
            clear c22
            (first | rw [c22b0] | (simp only [i64_w, i32_w]; rw [c22b0]) | skip)
            have H' := Aside0.mk H
            clear H
            have hcz23_0 : wc.cell? ⟨gb233, 0, none⟩ = some (.int .i64 a0_0) := (blk_cell BK233.out 0).trans rfl
            have hcz23_1 : wc.cell? ⟨gb233, 1, none⟩ = some (.int .u64 a0_1) := (blk_cell BK233.out 1).trans rfl
            have hcz23_2 : wc.cell? ⟨gb233, 2, none⟩ = some (.int .i64 a0_2) := (blk_cell BK233.out 2).trans rfl
            have hcz23_3 : wc.cell? ⟨gb233, 3, none⟩ = some (.int .i64 a0_3) := (blk_cell BK233.out 3).trans rfl
            have hfz23_0 := blk_frozen BK233.out 0
            have hfz23_1 := blk_frozen BK233.out 1
            have hfz23_2 := blk_frozen BK233.out 2
            have hfz23_3 := blk_frozen BK233.out 3
            go_wp2
            go_meet
            case rel => exact ⟨_, (decide (a0_0 ≤ 17)), (by first | rfl | (simp; done) | (simp [*]; done)), H', ⟨by have := HJ1.out; have := HJ9.out; first | omega | exact Nat.le_refl _⟩, ⟨by (with_reducible repeat (first | refine blk_drewN ?_ _ | refine blk_drew ?_ | refine blk_alloc ?_ _)); exact BK233.out⟩, ⟨by repeat (first | (with_reducible first | exact HB.out | apply below_alloc | apply pw_below_drewN | apply below_drew1 | refine below_set ?_ GE233.out) | exact HB.out)⟩⟩
           ·rw [if_neg c22] at H
            have c22b0 : decide (6 ≤ a0_0) = false := decide_eq_false c22
            clear c22
            (first | rw [c22b0] | (simp only [i64_w, i32_w]; rw [c22b0]) | skip)
            have H' := Aside0.mk H
            clear H
            have hcz24_0 : wc.cell? ⟨gb233, 0, none⟩ = some (.int .i64 a0_0) := (blk_cell BK233.out 0).trans rfl
            have hcz24_1 : wc.cell? ⟨gb233, 1, none⟩ = some (.int .u64 a0_1) := (blk_cell BK233.out 1).trans rfl
            have hcz24_2 : wc.cell? ⟨gb233, 2, none⟩ = some (.int .i64 a0_2) := (blk_cell BK233.out 2).trans rfl
            have hcz24_3 : wc.cell? ⟨gb233, 3, none⟩ = some (.int .i64 a0_3) := (blk_cell BK233.out 3).trans rfl
            have hfz24_0 := blk_frozen BK233.out 0
            have hfz24_1 := blk_frozen BK233.out 1
            have hfz24_2 := blk_frozen BK233.out 2
            have hfz24_3 := blk_frozen BK233.out 3
            go_wp2
            go_meet
            case rel => exact ⟨_, (false), (by first | rfl | (simp; done) | (simp [*]; done)), H', ⟨by have := HJ1.out; have := HJ9.out; first | omega | exact Nat.le_refl _⟩, ⟨by (with_reducible repeat (first | refine blk_drewN ?_ _ | refine blk_drew ?_ | refine blk_alloc ?_ _)); exact BK233.out⟩, ⟨by repeat (first | (with_reducible first | exact HB.out | apply below_alloc | apply pw_below_drewN | apply below_drew1 | refine below_set ?_ GE233.out) | exact HB.out)⟩⟩
          case rest =>
           clear HC20
           try clear c1
           try clear c2
           try clear p2
           try clear c4
           try clear c4b0
           try clear c4b1
           try clear c7
           try clear c8
           try clear c8b0
           try clear c8b1
           try clear c12
           try clear c12b0
           try clear c12b1
           try clear c15
           try clear c16
           try clear c16b0
           try clear c16b1
           try clear c18
           try clear c18b0
           try clear c18b1
           try clear c22
           try clear c22b0
           try clear c24
           try clear hcz11_0
           try clear hcz11_1
           try clear hcz11_2
           try clear hcz11_3
           try clear hcz13_0
           try clear hcz13_1
           try clear hcz13_2
           try clear hcz13_3
           try clear hcz14_0
           try clear hcz14_1
           try clear hcz14_2
           try clear hcz14_3
           try clear hcz17_0
           try clear hcz17_1
           try clear hcz17_2
           try clear hcz17_3
           try clear hcz19_0
           try clear hcz19_1
           try clear hcz19_2
           try clear hcz19_3
           try clear hcz21_0
           try clear hcz21_1
           try clear hcz21_2
           try clear hcz21_3
           try clear hcz23_0
           try clear hcz23_1
           try clear hcz23_2
           try clear hcz23_3
           try clear hcz24_0
           try clear hcz24_1
           try clear hcz24_2
           try clear hcz24_3
           try clear hcz5_0
           try clear hcz5_1
           try clear hcz5_2
           try clear hcz5_3
           try clear hcz6_0
           try clear hcz6_1
           try clear hcz6_2
           try clear hcz6_3
           try clear hcz9_0
           try clear hcz9_1
           try clear hcz9_2
           try clear hcz9_3
           try clear hfz11_0
           try clear hfz11_1
           try clear hfz11_2
           try clear hfz11_3
           try clear hfz13_0
           try clear hfz13_1
           try clear hfz13_2
           try clear hfz13_3
           try clear hfz14_0
           try clear hfz14_1
           try clear hfz14_2
           try clear hfz14_3
           try clear hfz17_0
           try clear hfz17_1
           try clear hfz17_2
           try clear hfz17_3
           try clear hfz19_0
           try clear hfz19_1
           try clear hfz19_2
           try clear hfz19_3
           try clear hfz21_0
           try clear hfz21_1
           try clear hfz21_2
           try clear hfz21_3
           try clear hfz23_0
           try clear hfz23_1
           try clear hfz23_2
           try clear hfz23_3
           try clear hfz24_0
           try clear hfz24_1
           try clear hfz24_2
           try clear hfz24_3
           try clear hfz5_0
           try clear hfz5_1
           try clear hfz5_2
           try clear hfz5_3
           try clear hfz6_0
           try clear hfz6_1
           try clear hfz6_2
           try clear hfz6_3
           try clear hfz9_0
           try clear hfz9_1
           try clear hfz9_2
           try clear hfz9_3
           try clear p2
           obtain ⟨kq, x34_19, rfl, HA, HJ19, BK233, HB⟩ := hcut
           cases kq with
           | zero => exact absurd HA.out (by simp [janusref05_Moves.j2])
           | succ kj19 =>
            have H := HA.out
            clear HA
            simp only [janusref05_Moves.j2] at H
            by_cases c25 : x34_19 = true
            ·subst c25
             have H1 : (some (2, 1)) = some (r1, r2) := by rw [if_pos rfl] at H; exact H
             clear H
             have H := H1
             clear H1
             simp only [Option.some.injEq, Prod.mk.injEq] at H
             obtain ⟨rfl, rfl⟩ := H
             go_wp2
             go_ret2
             exact ⟨by first | rfl | (simp [errW_none, errW_some] <;> rfl) | (simp [*, errW_none, errW_some] <;> rfl), by repeat (first | (with_reducible first | exact HB.out | apply below_alloc | apply pw_below_drewN | apply below_drew1 | refine below_set ?_ GE233.out) | exact HB.out)⟩
            ·replace c25 := Bool.eq_false_iff.mpr c25
             subst c25
             have H1 : (if a0_0 = 18 then (janusref05_Moves.j3 kj19 true a0_0 a0_1 a0_2 a0_3) else (janusref05_Moves.j3 kj19 (a0_0 == 19) a0_0 a0_1 a0_2 a0_3)) = some (r1, r2) := by rw [if_neg (show ¬ (false = true) by decide)] at H; exact H
             clear H
             have H := H1
             clear H1
             have HC26 := Aside0.mk H
             clear H
             go_upto_region 13 with (fail)
             go_cut [43] (fun v43 wc => ∃ (kq : Nat) (x43_25 : Bool), v43 = .bool x43_25 ∧ Aside0 (janusref05_Moves.j3 kq x43_25 a0_0 a0_1 a0_2 a0_3 = some (r1, r2)) ∧ Aside0 (kq ≤ kj19) ∧ Aside0 (wc.heap[gb233]? = some (.cells #[.int .i64 a0_0, .int .u64 a0_1, .int .i64 a0_2, .int .i64 a0_3] 36 (0, 0))) ∧ Aside0 (Below w.heap.size w wc))
             case first =>
              have H := HC26.out
              clear HC26
              by_cases c27 : a0_0 = 18
              ·rw [if_pos c27] at H
               have c27b0 : (a0_0 == 18) = true := beq_iff_eq.mpr c27
               have c27b1 : (a0_0 != 18) = false := bne_eq_false_iff_eq.mpr c27
               clear c27
               (first | rw [c27b0] | (simp only [i64_w, i32_w]; rw [c27b0]) | skip)
               have H' := Aside0.mk H
               clear H
               have hcz28_0 : wc.cell? ⟨gb233, 0, none⟩ = some (.int .i64 a0_0) := (blk_cell BK233.out 0).trans rfl
               have hcz28_1 : wc.cell? ⟨gb233, 1, none⟩ = some (.int .u64 a0_1) := (blk_cell BK233.out 1).trans rfl
               have hcz28_2 : wc.cell? ⟨gb233, 2, none⟩ = some (.int .i64 a0_2) := (blk_cell BK233.out 2).trans rfl
               have hcz28_3 : wc.cell? ⟨gb233, 3, none⟩ = some (.int .i64 a0_3) := (blk_cell BK233.out 3).trans rfl
               have hfz28_0 := blk_frozen BK233.out 0
               have hfz28_1 := blk_frozen BK233.out 1
               have hfz28_2 := blk_frozen BK233.out 2
               have hfz28_3 := blk_frozen BK233.out 3
               go_wp2
               go_meet
               case rel => exact ⟨_, (true), (by first | rfl | (simp; done) | (simp [*]; done)), H', ⟨by have := HJ1.out; have := HJ9.out; have := HJ19.out; first | omega | exact Nat.le_refl _⟩, ⟨by (with_reducible repeat (first | refine blk_drewN ?_ _ | refine blk_drew ?_ | refine blk_alloc ?_ _)); exact BK233.out⟩, ⟨by repeat (first | (with_reducible first | exact HB.out | apply below_alloc | apply pw_below_drewN | apply below_drew1 | refine below_set ?_ GE233.out) | exact HB.out)⟩⟩
              ·rw [if_neg c27] at H
               have c27b0 : (a0_0 == 18) = false := beq_eq_false_iff_ne.mpr c27
               have c27b1 : (a0_0 != 18) = true := bne_iff_ne.mpr c27
               (first | rw [c27b0] | (simp only [i64_w, i32_w]; rw [c27b0]) | skip)
               have H' := Aside0.mk H
               clear H
               have hcz29_0 : wc.cell? ⟨gb233, 0, none⟩ = some (.int .i64 a0_0) := (blk_cell BK233.out 0).trans rfl
               have hcz29_1 : wc.cell? ⟨gb233, 1, none⟩ = some (.int .u64 a0_1) := (blk_cell BK233.out 1).trans rfl
               have hcz29_2 : wc.cell? ⟨gb233, 2, none⟩ = some (.int .i64 a0_2) := (blk_cell BK233.out 2).trans rfl
               have hcz29_3 : wc.cell? ⟨gb233, 3, none⟩ = some (.int .i64 a0_3) := (blk_cell BK233.out 3).trans rfl
               have hfz29_0 := blk_frozen BK233.out 0
               have hfz29_1 := blk_frozen BK233.out 1
               have hfz29_2 := blk_frozen BK233.out 2
               have hfz29_3 := blk_frozen BK233.out 3
               go_wp2
               go_meet
               case rel => exact ⟨_, ((a0_0 == 19)), (by first | rfl | (simp; done) | (simp [*]; done)), H', ⟨by have := HJ1.out; have := HJ9.out; have := HJ19.out; first | omega | exact Nat.le_refl _⟩, ⟨by (with_reducible repeat (first | refine blk_drewN ?_ _ | refine blk_drew ?_ | refine blk_alloc ?_ _)); exact BK233.out⟩, ⟨by repeat (first | (with_reducible first | exact HB.out | apply below_alloc | apply pw_below_drewN | apply below_drew1 | refine below_set ?_ GE233.out) | exact HB.out)⟩⟩
             case rest =>
              clear HC26
              try clear c1
              try clear c2
              try clear p2
              try clear c4
              try clear c4b0
              try clear c4b1
              try clear c7
              try clear c8
              try clear c8b0
              try clear c8b1
              try clear c12
              try clear c12b0
              try clear c12b1
              try clear c15
              try clear c16
              try clear c16b0
              try clear c16b1
              try clear c18
              try clear c18b0
              try clear c18b1
              try clear c22
              try clear c22b0
              try clear c24
              try clear c25
              try clear c27
              try clear c27b0
              try clear c27b1
              try clear hcz11_0
              try clear hcz11_1
              try clear hcz11_2
              try clear hcz11_3
              try clear hcz13_0
              try clear hcz13_1
              try clear hcz13_2
              try clear hcz13_3
              try clear hcz14_0
              try clear hcz14_1
              try clear hcz14_2
              try clear hcz14_3
              try clear hcz17_0
              try clear hcz17_1
              try clear hcz17_2
              try clear hcz17_3
              try clear hcz19_0
              try clear hcz19_1
              try clear hcz19_2
              try clear hcz19_3
              try clear hcz21_0
              try clear hcz21_1
              try clear hcz21_2
              try clear hcz21_3
              try clear hcz23_0
              try clear hcz23_1
              try clear hcz23_2
              try clear hcz23_3
              try clear hcz24_0
              try clear hcz24_1
              try clear hcz24_2
              try clear hcz24_3
              try clear hcz28_0
              try clear hcz28_1
              try clear hcz28_2
              try clear hcz28_3
              try clear hcz29_0
              try clear hcz29_1
              try clear hcz29_2
              try clear hcz29_3
              try clear hcz5_0
              try clear hcz5_1
              try clear hcz5_2
              try clear hcz5_3
              try clear hcz6_0
              try clear hcz6_1
              try clear hcz6_2
              try clear hcz6_3
              try clear hcz9_0
              try clear hcz9_1
              try clear hcz9_2
              try clear hcz9_3
              try clear hfz11_0
              try clear hfz11_1
              try clear hfz11_2
              try clear hfz11_3
              try clear hfz13_0
              try clear hfz13_1
              try clear hfz13_2
              try clear hfz13_3
              try clear hfz14_0
              try clear hfz14_1
              try clear hfz14_2
              try clear hfz14_3
              try clear hfz17_0
              try clear hfz17_1
              try clear hfz17_2
              try clear hfz17_3
              try clear hfz19_0
              try clear hfz19_1
              try clear hfz19_2
              try clear hfz19_3
              try clear hfz21_0
              try clear hfz21_1
              try clear hfz21_2
              try clear hfz21_3
              try clear hfz23_0
              try clear hfz23_1
              try clear hfz23_2
              try clear hfz23_3
              try clear hfz24_0
              try clear hfz24_1
              try clear hfz24_2
              try clear hfz24_3
              try clear hfz28_0
              try clear hfz28_1
              try clear hfz28_2
              try clear hfz28_3
              try clear hfz29_0
              try clear hfz29_1
              try clear hfz29_2
              try clear hfz29_3
              try clear hfz5_0
              try clear hfz5_1
              try clear hfz5_2
              try clear hfz5_3
              try clear hfz6_0
              try clear hfz6_1
              try clear hfz6_2
              try clear hfz6_3
              try clear hfz9_0
              try clear hfz9_1
              try clear hfz9_2
              try clear hfz9_3
              try clear p2
              obtain ⟨kq, x43_25, rfl, HA, HJ25, BK233, HB⟩ := hcut
              cases kq with
              | zero => exact absurd HA.out (by simp [janusref05_Moves.j3])
              | succ kj25 =>
               have H := HA.out
               clear HA
               simp only [janusref05_Moves.j3] at H
               by_cases c30 : x43_25 = true
               ·subst c30
                have H1 : (some (1, 1)) = some (r1, r2) := by rw [if_pos rfl] at H; exact H
                clear H
                have H := H1
                clear H1
                simp only [Option.some.injEq, Prod.mk.injEq] at H
                obtain ⟨rfl, rfl⟩ := H
                go_wp2
                go_ret2
                exact ⟨by first | rfl | (simp [errW_none, errW_some] <;> rfl) | (simp [*, errW_none, errW_some] <;> rfl), by repeat (first | (with_reducible first | exact HB.out | apply below_alloc | apply pw_below_drewN | apply below_drew1 | refine below_set ?_ GE233.out) | exact HB.out)⟩
               ·replace c30 := Bool.eq_false_iff.mpr c30
                subst c30
                have H1 : (if a0_0 = 20 then (some (2, 0)) else (if a0_0 = 21 then (some (0, 0)) else (if a0_0 = 23 then (if a0_1 ≤ 255 then ((janusref05_Args.f kj25 (wrap64 (a0_1))).bind fun t234 => (if t234 ≥ 0 then ((janusref05_Args.f kj25 (wrap64 (a0_1))).bind fun t235 => (some (t235, 1))) else (some ((-1), (-1))))) else (some ((-1), (-1)))) else (some ((-1), (-1)))))) = some (r1, r2) := by rw [if_neg (show ¬ (false = true) by decide)] at H; exact H
                clear H
                have H := H1
                clear H1
                by_cases c31 : a0_0 = 20
                ·rw [if_pos c31] at H
                 have c31b0 : (a0_0 == 20) = true := beq_iff_eq.mpr c31
                 have c31b1 : (a0_0 != 20) = false := bne_eq_false_iff_eq.mpr c31
                 clear c31
                 simp only [Option.some.injEq, Prod.mk.injEq] at H
                 obtain ⟨rfl, rfl⟩ := H
                 have hcz32_0 : wc.cell? ⟨gb233, 0, none⟩ = some (.int .i64 a0_0) := (blk_cell BK233.out 0).trans rfl
                 have hcz32_1 : wc.cell? ⟨gb233, 1, none⟩ = some (.int .u64 a0_1) := (blk_cell BK233.out 1).trans rfl
                 have hcz32_2 : wc.cell? ⟨gb233, 2, none⟩ = some (.int .i64 a0_2) := (blk_cell BK233.out 2).trans rfl
                 have hcz32_3 : wc.cell? ⟨gb233, 3, none⟩ = some (.int .i64 a0_3) := (blk_cell BK233.out 3).trans rfl
                 have hfz32_0 := blk_frozen BK233.out 0
                 have hfz32_1 := blk_frozen BK233.out 1
                 have hfz32_2 := blk_frozen BK233.out 2
                 have hfz32_3 := blk_frozen BK233.out 3
                 go_wp2
                 go_ret2
                 exact ⟨by first | rfl | (simp [errW_none, errW_some] <;> rfl) | (simp [*, errW_none, errW_some] <;> rfl), by repeat (first | (with_reducible first | exact HB.out | apply below_alloc | apply pw_below_drewN | apply below_drew1 | refine below_set ?_ GE233.out) | exact HB.out)⟩
                ·rw [if_neg c31] at H
                 have c31b0 : (a0_0 == 20) = false := beq_eq_false_iff_ne.mpr c31
                 have c31b1 : (a0_0 != 20) = true := bne_iff_ne.mpr c31
                 by_cases c33 : a0_0 = 21
                 ·rw [if_pos c33] at H
                  have c33b0 : (a0_0 == 21) = true := beq_iff_eq.mpr c33
                  have c33b1 : (a0_0 != 21) = false := bne_eq_false_iff_eq.mpr c33
                  clear c33
                  simp only [Option.some.injEq, Prod.mk.injEq] at H
                  obtain ⟨rfl, rfl⟩ := H
                  have hcz34_0 : wc.cell? ⟨gb233, 0, none⟩ = some (.int .i64 a0_0) := (blk_cell BK233.out 0).trans rfl
                  have hcz34_1 : wc.cell? ⟨gb233, 1, none⟩ = some (.int .u64 a0_1) := (blk_cell BK233.out 1).trans rfl
                  have hcz34_2 : wc.cell? ⟨gb233, 2, none⟩ = some (.int .i64 a0_2) := (blk_cell BK233.out 2).trans rfl
                  have hcz34_3 : wc.cell? ⟨gb233, 3, none⟩ = some (.int .i64 a0_3) := (blk_cell BK233.out 3).trans rfl
                  have hfz34_0 := blk_frozen BK233.out 0
                  have hfz34_1 := blk_frozen BK233.out 1
                  have hfz34_2 := blk_frozen BK233.out 2
                  have hfz34_3 := blk_frozen BK233.out 3
                  go_wp2
                  go_ret2
                  exact ⟨by first | rfl | (simp [errW_none, errW_some] <;> rfl) | (simp [*, errW_none, errW_some] <;> rfl), by repeat (first | (with_reducible first | exact HB.out | apply below_alloc | apply pw_below_drewN | apply below_drew1 | refine below_set ?_ GE233.out) | exact HB.out)⟩
                 ·rw [if_neg c33] at H
                  have c33b0 : (a0_0 == 21) = false := beq_eq_false_iff_ne.mpr c33
                  have c33b1 : (a0_0 != 21) = true := bne_iff_ne.mpr c33
                  by_cases c35 : a0_0 = 23
                  ·rw [if_pos c35] at H
                   have c35b0 : (a0_0 == 23) = true := beq_iff_eq.mpr c35
                   have c35b1 : (a0_0 != 23) = false := bne_eq_false_iff_eq.mpr c35
                   clear c35
                   by_cases c36 : a0_1 ≤ 255
                   ·rw [if_pos c36] at H
                    have c36b0 : decide (a0_1 ≤ 255) = true := decide_eq_true c36
                    clear c36
                    replace H := Option.bind_eq_some_iff.mp H
                    obtain ⟨t234, A370, H⟩ := H
                    replace H : (if t234 ≥ 0 then ((janusref05_Args.f kj25 (wrap64 (a0_1))).bind fun t235 => (some (t235, 1))) else (some ((-1), (-1)))) = some (r1, r2) := H
                    have A37 := Aside0.mk A370
                    clear A370
                    by_cases c38 : t234 ≥ 0
                    ·rw [if_pos c38] at H
                     have c38b0 : decide (0 ≤ t234) = true := decide_eq_true c38
                     clear c38
                     replace H := Option.bind_eq_some_iff.mp H
                     obtain ⟨t235, A390, H⟩ := H
                     replace H : (some (t235, 1)) = some (r1, r2) := H
                     have A39 := Aside0.mk A390
                     clear A390
                     simp only [Option.some.injEq, Prod.mk.injEq] at H
                     obtain ⟨rfl, rfl⟩ := H
                     have hcz40_0 : wc.cell? ⟨gb233, 0, none⟩ = some (.int .i64 a0_0) := (blk_cell BK233.out 0).trans rfl
                     have hcz40_1 : wc.cell? ⟨gb233, 1, none⟩ = some (.int .u64 a0_1) := (blk_cell BK233.out 1).trans rfl
                     have hcz40_2 : wc.cell? ⟨gb233, 2, none⟩ = some (.int .i64 a0_2) := (blk_cell BK233.out 2).trans rfl
                     have hcz40_3 : wc.cell? ⟨gb233, 3, none⟩ = some (.int .i64 a0_3) := (blk_cell BK233.out 3).trans rfl
                     have hfz40_0 := blk_frozen BK233.out 0
                     have hfz40_1 := blk_frozen BK233.out 1
                     have hfz40_2 := blk_frozen BK233.out 2
                     have hfz40_3 := blk_frozen BK233.out 3
                     go_wp2_with (first | (go_at_call 26; (with_reducible refine (janusref05_Args.calls kj25 (wrap64 (a0_1)) t234 _ A37.out).mono ?_); rintro e w' ⟨rfl, ⟨nd, rfl⟩⟩) | ((with_reducible refine gate_callee (f := 26) rfl ?_); refine goesL_ (some 79) rfl rfl Try.func26 (by kernel_rfl) rfl #[.int .i64 (wrap64 (a0_1))] rfl (by (try simp only [List.map_toArray, List.map_cons, List.map_nil]); first | done | rfl | (simp only [List.length_drop, List.length_take]; rfl)) ?_; (with_reducible refine (janusref05_Args.calls kj25 (wrap64 (a0_1)) t235 _ A39.out).mono ?_); rintro e w' ⟨rfl, ⟨nd, rfl⟩⟩; refine ⟨_, rfl, ?_⟩))
                     go_ret2
                     exact ⟨by first | rfl | (simp [errW_none, errW_some] <;> rfl) | (simp [*, errW_none, errW_some] <;> rfl), by repeat (first | (with_reducible first | exact HB.out | apply below_alloc | apply pw_below_drewN | apply below_drew1 | refine below_set ?_ GE233.out) | exact HB.out)⟩
                    ·rw [if_neg c38] at H
                     have c38b0 : decide (0 ≤ t234) = false := decide_eq_false c38
                     clear c38
                     simp only [Option.some.injEq, Prod.mk.injEq] at H
                     obtain ⟨rfl, rfl⟩ := H
                     have hcz41_0 : wc.cell? ⟨gb233, 0, none⟩ = some (.int .i64 a0_0) := (blk_cell BK233.out 0).trans rfl
                     have hcz41_1 : wc.cell? ⟨gb233, 1, none⟩ = some (.int .u64 a0_1) := (blk_cell BK233.out 1).trans rfl
                     have hcz41_2 : wc.cell? ⟨gb233, 2, none⟩ = some (.int .i64 a0_2) := (blk_cell BK233.out 2).trans rfl
                     have hcz41_3 : wc.cell? ⟨gb233, 3, none⟩ = some (.int .i64 a0_3) := (blk_cell BK233.out 3).trans rfl
                     have hfz41_0 := blk_frozen BK233.out 0
                     have hfz41_1 := blk_frozen BK233.out 1
                     have hfz41_2 := blk_frozen BK233.out 2
                     have hfz41_3 := blk_frozen BK233.out 3
                     go_wp2_with (first | (go_at_call 26; (with_reducible refine (janusref05_Args.calls kj25 (wrap64 (a0_1)) t234 _ A37.out).mono ?_); rintro e w' ⟨rfl, ⟨nd, rfl⟩⟩))
                     go_ret2
                     exact ⟨by first | rfl | (simp [errW_none, errW_some] <;> rfl) | (simp [*, errW_none, errW_some] <;> rfl), by repeat (first | (with_reducible first | exact HB.out | apply below_alloc | apply pw_below_drewN | apply below_drew1 | refine below_set ?_ GE233.out) | exact HB.out)⟩
                   ·rw [if_neg c36] at H
                    have c36b0 : decide (a0_1 ≤ 255) = false := decide_eq_false c36
                    clear c36
                    simp only [Option.some.injEq, Prod.mk.injEq] at H
                    obtain ⟨rfl, rfl⟩ := H
                    have hcz42_0 : wc.cell? ⟨gb233, 0, none⟩ = some (.int .i64 a0_0) := (blk_cell BK233.out 0).trans rfl
                    have hcz42_1 : wc.cell? ⟨gb233, 1, none⟩ = some (.int .u64 a0_1) := (blk_cell BK233.out 1).trans rfl
                    have hcz42_2 : wc.cell? ⟨gb233, 2, none⟩ = some (.int .i64 a0_2) := (blk_cell BK233.out 2).trans rfl
                    have hcz42_3 : wc.cell? ⟨gb233, 3, none⟩ = some (.int .i64 a0_3) := (blk_cell BK233.out 3).trans rfl
                    have hfz42_0 := blk_frozen BK233.out 0
                    have hfz42_1 := blk_frozen BK233.out 1
                    have hfz42_2 := blk_frozen BK233.out 2
                    have hfz42_3 := blk_frozen BK233.out 3
                    go_wp2
                    go_ret2
                    exact ⟨by first | rfl | (simp [errW_none, errW_some] <;> rfl) | (simp [*, errW_none, errW_some] <;> rfl), by repeat (first | (with_reducible first | exact HB.out | apply below_alloc | apply pw_below_drewN | apply below_drew1 | refine below_set ?_ GE233.out) | exact HB.out)⟩
                  ·rw [if_neg c35] at H
                   have c35b0 : (a0_0 == 23) = false := beq_eq_false_iff_ne.mpr c35
                   have c35b1 : (a0_0 != 23) = true := bne_iff_ne.mpr c35
                   simp only [Option.some.injEq, Prod.mk.injEq] at H
                   obtain ⟨rfl, rfl⟩ := H
                   have hcz43_0 : wc.cell? ⟨gb233, 0, none⟩ = some (.int .i64 a0_0) := (blk_cell BK233.out 0).trans rfl
                   have hcz43_1 : wc.cell? ⟨gb233, 1, none⟩ = some (.int .u64 a0_1) := (blk_cell BK233.out 1).trans rfl
                   have hcz43_2 : wc.cell? ⟨gb233, 2, none⟩ = some (.int .i64 a0_2) := (blk_cell BK233.out 2).trans rfl
                   have hcz43_3 : wc.cell? ⟨gb233, 3, none⟩ = some (.int .i64 a0_3) := (blk_cell BK233.out 3).trans rfl
                   have hfz43_0 := blk_frozen BK233.out 0
                   have hfz43_1 := blk_frozen BK233.out 1
                   have hfz43_2 := blk_frozen BK233.out 2
                   have hfz43_3 := blk_frozen BK233.out 3
                   go_wp2
                   go_ret2
                   exact ⟨by first | rfl | (simp [errW_none, errW_some] <;> rfl) | (simp [*, errW_none, errW_some] <;> rfl), by repeat (first | (with_reducible first | exact HB.out | apply below_alloc | apply pw_below_drewN | apply below_drew1 | refine below_set ?_ GE233.out) | exact HB.out)⟩
end Go.Proofs.Ytjbpljcfogekhaa.Q
namespace Go.Proofs.Ytjbpljcfogekhaa.Core
open Go.RowKit Ytjbpljcfogekhaa.Q YtjbpljcfogekhaaW.PrintWords YtjbpljcfogekhaaW.PrintLast YtjbpljcfogekhaaW.PrintMore
def argsS (c : Int) : Int :=
 if c = 2 then 0 else if c = 17 then 0 else if c = 18 then 0 else if c = 19 then 0
 else if c = 1 then 1 else if c = 4 then 1 else if c = 6 then 1 else if c = 9 then 1 else if c = 10 then 1
 else if c = 3 then 2 else if c = 11 then 2 else if c = 12 then 2 else if c = 15 then 2 else if c = 16 then 2
 else if c = 5 then 3 else if c = 7 then 3 else if c = 8 then 3
 else if c = 13 then 4 else if c = 14 then 4 else -1
theorem argsS_cases (c : Int) : argsS c = -1 ∨ argsS c = 0 ∨ argsS c = 1 ∨ argsS c = 2 ∨ argsS c = 3 ∨ argsS c = 4 := by
 obtain ⟨r, hr⟩ : ∃ r, r = argsS c := ⟨_, rfl⟩
 rw [← hr]
 unfold argsS at hr
 repeat' split at hr
 all_goals omega
theorem Args_ev (c : Int) : Ev (fun k => code_Args.f k c) (argsS c) := by
 by_cases h : 1 ≤ c ∧ c ≤ 19
 ·have h' : c = 1 ∨ c = 2 ∨ c = 3 ∨ c = 4 ∨ c = 5 ∨ c = 6 ∨ c = 7 ∨ c = 8 ∨ c = 9 ∨ c = 10 ∨ c = 11 ∨ c = 12 ∨ c = 13 ∨ c = 14 ∨ c = 15 ∨ c = 16 ∨ c = 17 ∨ c = 18 ∨ c = 19 := by omega
  rcases h' with rfl | rfl | rfl | rfl | rfl | rfl | rfl | rfl | rfl | rfl | rfl | rfl | rfl | rfl | rfl | rfl | rfl | rfl | rfl
  all_goals exact Ev.of (code_Args.mono _) (k := 4) (by decide +kernel)
 ·refine Ev.from 4 fun k => ?_
  have h1 : c ≠ 1 := by omega
  have h2 : c ≠ 2 := by omega
  have h3 : c ≠ 3 := by omega
  have h4 : c ≠ 4 := by omega
  have h5 : c ≠ 5 := by omega
  have h6 : c ≠ 6 := by omega
  have h7 : c ≠ 7 := by omega
  have h8 : c ≠ 8 := by omega
  have h9 : c ≠ 9 := by omega
  have h10 : c ≠ 10 := by omega
  have h11 : c ≠ 11 := by omega
  have h12 : c ≠ 12 := by omega
  have h13 : c ≠ 13 := by omega
  have h14 : c ≠ 14 := by omega
  have h15 : c ≠ 15 := by omega
  have h16 : c ≠ 16 := by omega
  have h17 : c ≠ 17 := by omega
  have h18 : c ≠ 18 := by omega
  have h19 : c ≠ 19 := by omega
  simp [code_Args.f, code_Args.j0, code_Args.j1, code_Args.j2, code_Args.j3, argsS, h1, h2, h3, h4, h5, h6, h7, h8, h9, h10, h11, h12, h13, h14, h15, h16, h17, h18, h19]
theorem RArgs_ev (c : Int) : Ev (fun k => janusref05_Args.f k c) (argsS c) := by
 by_cases h : 1 ≤ c ∧ c ≤ 19
 ·have h' : c = 1 ∨ c = 2 ∨ c = 3 ∨ c = 4 ∨ c = 5 ∨ c = 6 ∨ c = 7 ∨ c = 8 ∨ c = 9 ∨ c = 10 ∨ c = 11 ∨ c = 12 ∨ c = 13 ∨ c = 14 ∨ c = 15 ∨ c = 16 ∨ c = 17 ∨ c = 18 ∨ c = 19 := by omega
  rcases h' with rfl | rfl | rfl | rfl | rfl | rfl | rfl | rfl | rfl | rfl | rfl | rfl | rfl | rfl | rfl | rfl | rfl | rfl | rfl
  all_goals exact Ev.from 4 fun k => rfl
 ·refine Ev.from 4 fun k => ?_
  have h1 : c ≠ 1 := by omega
  have h2 : c ≠ 2 := by omega
  have h3 : c ≠ 3 := by omega
  have h4 : c ≠ 4 := by omega
  have h5 : c ≠ 5 := by omega
  have h6 : c ≠ 6 := by omega
  have h7 : c ≠ 7 := by omega
  have h8 : c ≠ 8 := by omega
  have h9 : c ≠ 9 := by omega
  have h10 : c ≠ 10 := by omega
  have h11 : c ≠ 11 := by omega
  have h12 : c ≠ 12 := by omega
  have h13 : c ≠ 13 := by omega
  have h14 : c ≠ 14 := by omega
  have h15 : c ≠ 15 := by omega
  have h16 : c ≠ 16 := by omega
  have h17 : c ≠ 17 := by omega
  have h18 : c ≠ 18 := by omega
  have h19 : c ≠ 19 := by omega
  simp [janusref05_Args.f, janusref05_Args.j0, janusref05_Args.j1, janusref05_Args.j2, janusref05_Args.j3, argsS, h1, h2, h3, h4, h5, h6, h7, h8, h9, h10, h11, h12, h13, h14, h15, h16, h17, h18, h19]
def movesS (op arg : Int) : Int × Int :=
 if op = 0 then (0, 1) else if op = 1 then (0, 1) else if op = 2 then (1, 2) else if op = 3 then (1, 0) else if op = 22 then (1, 0)
 else if op = 4 then (2, 2) else if op = 5 then (2, 3) else if op = 18 then (1, 1) else if op = 19 then (1, 1) else if op = 20 then (2, 0) else if op = 21 then (0, 0)
 else if op = 23 then (if arg < 256 then (if 0 ≤ argsS arg then (argsS arg, 1) else (-1, -1)) else (-1, -1))
 else if 6 ≤ op then (if op ≤ 17 then (2, 1) else (-1, -1)) else (-1, -1)
theorem wrap_small {n : Int} (h0 : 0 ≤ n) (h1 : n < 256) : wrap64 n = n := by unfold wrap64; omega
theorem Moves_ev (op arg a b : Int) (h0 : 0 ≤ arg) : Ev (fun k => code_Moves.f k op arg a b) (movesS op arg) := by
 have j2 : ∀ t, (t = true ↔ (op = 18 ∨ op = 19)) → op ≠ 0 → op ≠ 1 → op ≠ 2 → op ≠ 3 → op ≠ 22 → op ≠ 4 → op ≠ 5 → Ev (fun k => code_Moves.j2 k op t op arg a b) (movesS op arg) := by
  intro t ht g0 g1 g2 g3 g4 g5 g6
  unfold movesS
  rw [if_neg g0, if_neg g1, if_neg g2, if_neg g3, if_neg g4, if_neg g5, if_neg g6]
  by_cases h18 : op = 18 ∨ op = 19
  ·refine Ev.from 1 fun k => ?_
   simp only [code_Moves.j2]
   rw [if_pos (ht.2 h18)]
   rcases h18 with rfl | rfl <;> rfl
  ·have e18 : op ≠ 18 := fun h => h18 (.inl h)
   have e19 : op ≠ 19 := fun h => h18 (.inr h)
   rw [if_neg e18, if_neg e19]
   refine Ev.step (f := fun k => if op = 20 then (some (2, 0)) else (if op = 21 then (some (0, 0)) else (if op = 23 then (if arg < 256 then ((code_Args.f k (wrap64 (arg))).bind fun t131 => (code_Moves.j3 k (decide (t131 ≥ 0)) op arg a b)) else (code_Moves.j3 k false op arg a b)) else (if op ≥ 6 then (if op ≤ 17 then (some (2, 1)) else (some ((-1), (-1)))) else (some ((-1), (-1))))))) (fun k => ?_) ?_
   ·simp only [code_Moves.j2]
    rw [if_neg (fun h => h18 (ht.1 h))]
   ·have no : Ev (fun k => code_Moves.j3 k false op arg a b) (-1, -1) := Ev.from 1 fun k => by simp [code_Moves.j3]
    by_cases e20 : op = 20
    ·rw [if_pos e20]; exact Ev.pos e20 (Ev.now _)
    refine Ev.neg e20 ?_
    rw [if_neg e20]
    by_cases e21 : op = 21
    ·rw [if_pos e21]; exact Ev.pos e21 (Ev.now _)
    refine Ev.neg e21 ?_
    rw [if_neg e21]
    by_cases e23 : op = 23
    ·refine Ev.pos e23 ?_
     rw [if_pos e23]
     by_cases ha : arg < 256
     ·refine Ev.pos ha ?_
      rw [if_pos ha, wrap_small h0 ha]
      refine Ev.bind (Args_ev arg) ?_
      by_cases hn : 0 ≤ argsS arg
      ·rw [if_pos hn, decide_eq_true (show argsS arg ≥ 0 from hn)]
       refine Ev.step (f := fun k => (code_Args.f k (wrap64 (arg))).bind fun t132 => (some (t132, 1))) (fun k => by simp [code_Moves.j3]) ?_
       rw [wrap_small h0 ha]
       exact Ev.bind (Args_ev arg) (Ev.now _)
      ·rw [if_neg hn, decide_eq_false (show ¬ argsS arg ≥ 0 from hn)]
       exact no
     ·refine Ev.neg ha ?_
      rw [if_neg ha]
      exact no
    ·refine Ev.neg e23 ?_
     rw [if_neg e23]
     by_cases e6 : 6 ≤ op
     ·refine Ev.pos e6 ?_
      rw [if_pos e6]
      by_cases e17 : op ≤ 17
      ·simp only [if_pos e17]; exact Ev.now _
      ·simp only [if_neg e17]; exact Ev.now _
     ·simp only [ge_iff_le, if_neg e6]; exact Ev.now _
 have j1 : ∀ t, (t = true ↔ (op = 3 ∨ op = 22)) → op ≠ 0 → op ≠ 1 → op ≠ 2 → Ev (fun k => code_Moves.j1 k op t op arg a b) (movesS op arg) := by
  intro t ht g0 g1 g2
  by_cases h3 : op = 3 ∨ op = 22
  ·refine Ev.from 1 fun k => ?_
   simp only [code_Moves.j1]
   rw [if_pos (ht.2 h3)]
   rcases h3 with rfl | rfl <;> rfl
  ·have e3 : op ≠ 3 := fun h => h3 (.inl h)
   have e22 : op ≠ 22 := fun h => h3 (.inr h)
   by_cases e4 : op = 4
   ·refine Ev.from 1 fun k => ?_
    simp only [code_Moves.j1]
    rw [if_neg (fun h => h3 (ht.1 h)), if_pos e4]
    subst e4; rfl
   by_cases e5 : op = 5
   ·refine Ev.from 1 fun k => ?_
    simp only [code_Moves.j1]
    rw [if_neg (fun h => h3 (ht.1 h)), if_neg e4, if_pos e5]
    subst e5; rfl
   refine Ev.step (f := fun k => if op = 18 then (code_Moves.j2 k op (op == 18) op arg a b) else (code_Moves.j2 k op (op == 19) op arg a b)) (fun k => ?_) ?_
   ·simp only [code_Moves.j1]
    rw [if_neg (fun h => h3 (ht.1 h)), if_neg e4, if_neg e5]
   ·by_cases e18 : op = 18
    ·exact Ev.pos e18 (j2 _ (by simp [e18]) g0 g1 g2 e3 e22 e4 e5)
    ·exact Ev.neg e18 (j2 _ (by simp [e18]) g0 g1 g2 e3 e22 e4 e5)
 have j0 : ∀ t, (t = true ↔ (op = 0 ∨ op = 1)) → Ev (fun k => code_Moves.j0 k op t op arg a b) (movesS op arg) := by
  intro t ht
  by_cases h0 : op = 0 ∨ op = 1
  ·refine Ev.from 1 fun k => ?_
   simp only [code_Moves.j0]
   rw [if_pos (ht.2 h0)]
   rcases h0 with rfl | rfl <;> rfl
  ·have e0 : op ≠ 0 := fun h => h0 (.inl h)
   have e1 : op ≠ 1 := fun h => h0 (.inr h)
   by_cases e2 : op = 2
   ·refine Ev.from 1 fun k => ?_
    simp only [code_Moves.j0]
    rw [if_neg (fun h => h0 (ht.1 h)), if_pos e2]
    subst e2; rfl
   refine Ev.step (f := fun k => if op = 3 then (code_Moves.j1 k op (op == 3) op arg a b) else (code_Moves.j1 k op (op == 22) op arg a b)) (fun k => ?_) ?_
   ·simp only [code_Moves.j0]
    rw [if_neg (fun h => h0 (ht.1 h)), if_neg e2]
   ·by_cases e3 : op = 3
    ·exact Ev.pos e3 (j1 _ (by simp [e3]) e0 e1 e2)
    ·exact Ev.neg e3 (j1 _ (by simp [e3]) e0 e1 e2)
 simp only [code_Moves.f]
 by_cases e0 : op = 0
 ·exact Ev.pos e0 (j0 _ (by simp [e0]))
 ·exact Ev.neg e0 (j0 _ (by simp [e0]))
theorem RMoves_ev (op arg a b : Int) (h0 : 0 ≤ arg) : Ev (fun k => janusref05_Moves.f k op arg a b) (movesS op arg) := by
 have j3 : ∀ t, (t = true ↔ (op = 18 ∨ op = 19)) → op ≠ 0 → op ≠ 1 → op ≠ 2 → op ≠ 3 → op ≠ 22 → op ≠ 4 → op ≠ 5 → ¬ (6 ≤ op ∧ op ≤ 17) → Ev (fun k => janusref05_Moves.j3 k t op arg a b) (movesS op arg) := by
  intro t ht g0 g1 g2 g3 g4 g5 g6 g7
  unfold movesS
  rw [if_neg g0, if_neg g1, if_neg g2, if_neg g3, if_neg g4, if_neg g5, if_neg g6]
  by_cases h18 : op = 18 ∨ op = 19
  ·refine Ev.from 1 fun k => ?_
   simp only [janusref05_Moves.j3]
   rw [if_pos (ht.2 h18)]
   rcases h18 with rfl | rfl <;> rfl
  ·have e18 : op ≠ 18 := fun h => h18 (.inl h)
   have e19 : op ≠ 19 := fun h => h18 (.inr h)
   rw [if_neg e18, if_neg e19]
   refine Ev.step (f := fun k => if op = 20 then (some (2, 0)) else (if op = 21 then (some (0, 0)) else (if op = 23 then (if arg ≤ 255 then ((janusref05_Args.f k (wrap64 (arg))).bind fun t234 => (if t234 ≥ 0 then ((janusref05_Args.f k (wrap64 (arg))).bind fun t235 => (some (t235, 1))) else (some ((-1), (-1))))) else (some ((-1), (-1)))) else (some ((-1), (-1)))))) (fun k => ?_) ?_
   ·simp only [janusref05_Moves.j3]
    rw [if_neg (fun h => h18 (ht.1 h))]
   ·by_cases e20 : op = 20
    ·rw [if_pos e20]; exact Ev.pos e20 (Ev.now _)
    refine Ev.neg e20 ?_
    rw [if_neg e20]
    by_cases e21 : op = 21
    ·rw [if_pos e21]; exact Ev.pos e21 (Ev.now _)
    refine Ev.neg e21 ?_
    rw [if_neg e21]
    by_cases e23 : op = 23
    ·refine Ev.pos e23 ?_
     rw [if_pos e23]
     by_cases ha : arg < 256
     ·refine Ev.pos (by omega) ?_
      rw [if_pos ha, wrap_small h0 ha]
      refine Ev.bind (RArgs_ev arg) ?_
      by_cases hn : 0 ≤ argsS arg
      ·rw [if_pos hn]
       exact Ev.pos hn (Ev.bind (RArgs_ev arg) (Ev.now _))
      ·rw [if_neg hn]
       exact Ev.neg hn (Ev.now _)
     ·refine Ev.neg (by omega) ?_
      rw [if_neg ha]
      exact Ev.now _
    ·refine Ev.neg e23 ?_
     rw [if_neg e23]
     by_cases e6 : 6 ≤ op
     ·rw [if_pos e6, if_neg (fun h => g7 ⟨e6, h⟩)]; exact Ev.now _
     ·rw [if_neg e6]; exact Ev.now _
 have j2 : ∀ t, (t = true ↔ (6 ≤ op ∧ op ≤ 17)) → op ≠ 0 → op ≠ 1 → op ≠ 2 → op ≠ 3 → op ≠ 22 → op ≠ 4 → op ≠ 5 → Ev (fun k => janusref05_Moves.j2 k t op arg a b) (movesS op arg) := by
  intro t ht g0 g1 g2 g3 g4 g5 g6
  by_cases h6 : 6 ≤ op ∧ op ≤ 17
  ·refine Ev.from 1 fun k => ?_
   simp only [janusref05_Moves.j2]
   rw [if_pos (ht.2 h6)]
   unfold movesS
   rw [if_neg g0, if_neg g1, if_neg g2, if_neg g3, if_neg g4, if_neg g5, if_neg g6, if_neg (by omega), if_neg (by omega), if_neg (by omega), if_neg (by omega), if_neg (by omega), if_pos h6.1, if_pos h6.2]
  ·refine Ev.step (f := fun k => if op = 18 then (janusref05_Moves.j3 k true op arg a b) else (janusref05_Moves.j3 k (op == 19) op arg a b)) (fun k => ?_) ?_
   ·simp only [janusref05_Moves.j2]
    rw [if_neg (fun h => h6 (ht.1 h))]
   ·by_cases e18 : op = 18
    ·exact Ev.pos e18 (j3 _ (by simp [e18]) g0 g1 g2 g3 g4 g5 g6 h6)
    ·exact Ev.neg e18 (j3 _ (by simp [e18]) g0 g1 g2 g3 g4 g5 g6 h6)
 have j1 : ∀ t, (t = true ↔ (op = 3 ∨ op = 22)) → op ≠ 0 → op ≠ 1 → op ≠ 2 → Ev (fun k => janusref05_Moves.j1 k t op arg a b) (movesS op arg) := by
  intro t ht g0 g1 g2
  by_cases h3 : op = 3 ∨ op = 22
  ·refine Ev.from 1 fun k => ?_
   simp only [janusref05_Moves.j1]
   rw [if_pos (ht.2 h3)]
   rcases h3 with rfl | rfl <;> rfl
  ·have e3 : op ≠ 3 := fun h => h3 (.inl h)
   have e22 : op ≠ 22 := fun h => h3 (.inr h)
   by_cases e4 : op = 4
   ·refine Ev.from 1 fun k => ?_
    simp only [janusref05_Moves.j1]
    rw [if_neg (fun h => h3 (ht.1 h)), if_pos e4]
    subst e4; rfl
   by_cases e5 : op = 5
   ·refine Ev.from 1 fun k => ?_
    simp only [janusref05_Moves.j1]
    rw [if_neg (fun h => h3 (ht.1 h)), if_neg e4, if_pos e5]
    subst e5; rfl
   refine Ev.step (f := fun k => if op ≥ 6 then (janusref05_Moves.j2 k (decide (op ≤ 17)) op arg a b) else (janusref05_Moves.j2 k false op arg a b)) (fun k => ?_) ?_
   ·simp only [janusref05_Moves.j1]
    rw [if_neg (fun h => h3 (ht.1 h)), if_neg e4, if_neg e5]
   ·by_cases e6 : op ≥ 6
    ·exact Ev.pos e6 (j2 _ (by simp; omega) g0 g1 g2 e3 e22 e4 e5)
    ·exact Ev.neg e6 (j2 _ (by simp; omega) g0 g1 g2 e3 e22 e4 e5)
 have j0 : ∀ t, (t = true ↔ (op = 0 ∨ op = 1)) → Ev (fun k => janusref05_Moves.j0 k t op arg a b) (movesS op arg) := by
  intro t ht
  by_cases h0 : op = 0 ∨ op = 1
  ·refine Ev.from 1 fun k => ?_
   simp only [janusref05_Moves.j0]
   rw [if_pos (ht.2 h0)]
   rcases h0 with rfl | rfl <;> rfl
  ·have e0 : op ≠ 0 := fun h => h0 (.inl h)
   have e1 : op ≠ 1 := fun h => h0 (.inr h)
   by_cases e2 : op = 2
   ·refine Ev.from 1 fun k => ?_
    simp only [janusref05_Moves.j0]
    rw [if_neg (fun h => h0 (ht.1 h)), if_pos e2]
    subst e2; rfl
   refine Ev.step (f := fun k => if op = 3 then (janusref05_Moves.j1 k true op arg a b) else (janusref05_Moves.j1 k (op == 22) op arg a b)) (fun k => ?_) ?_
   ·simp only [janusref05_Moves.j0]
    rw [if_neg (fun h => h0 (ht.1 h)), if_neg e2]
   ·by_cases e3 : op = 3
    ·exact Ev.pos e3 (j1 _ (by simp [e3]) e0 e1 e2)
    ·exact Ev.neg e3 (j1 _ (by simp [e3]) e0 e1 e2)
 simp only [janusref05_Moves.f]
 by_cases e0 : op = 0
 ·exact Ev.pos e0 (j0 _ (by simp [e0]))
 ·exact Ev.neg e0 (j0 _ (by simp [e0]))
end Go.Proofs.Ytjbpljcfogekhaa.Core
namespace Go.Proofs.Ytjbpljcfogekhaa.Core
open Go.RowKit Ytjbpljcfogekhaa.Q YtjbpljcfogekhaaW.PrintWords YtjbpljcfogekhaaW.PrintLast YtjbpljcfogekhaaW.PrintMore
/-- how many numbers an instruction takes, and puts -/
def tk (x : S36) : Int := (movesS x.f0 x.f1).1
def pt (x : S36) : Int := (movesS x.f0 x.f1).2
def jmp (x : S36) : Bool := x.f0 == 21 || x.f0 == 22
/-- the number of the instruction that begins at a byte -/
def findS (l : List S36) (a : Int) : Option Nat := l.findIdx? fun x => x.f2 == a
theorem findS_some {l : List S36} {a : Int} {i : Nat} (h : findS l a = some i) : ∃ x, l[i]? = some x ∧ x.f2 = a := by
 unfold findS at h
 rw [List.findIdx?_eq_some_iff_getElem] at h
 obtain ⟨hi, h1, _⟩ := h
 exact ⟨l[i], List.getElem?_eq_getElem hi, by simpa using h1⟩
theorem findS_lt {l : List S36} {a : Int} {i : Nat} (h : findS l a = some i) : i < l.length := by
 obtain ⟨x, hx, _⟩ := findS_some h
 exact (List.getElem?_eq_some_iff.1 hx).1
/-- where an instruction leads -/
def succs (l : List S36) (i : Nat) (x : S36) : List Nat :=
 (if jmp x then [(findS l x.f1).getD 0] else []) ++ (if x.f0 = 21 then [] else [i + 1])
/-- every instruction is one, and each jump's aim is one -/
def okS (l : List S36) : Bool := l.all fun x => decide (0 ≤ tk x) && (!jmp x || (findS l x.f1).isSome)
/-- THE DEPTHS BY DEFINITION: what is reached, and with which depth -/
inductive Reach (l : List S36) : Nat → Int → Prop
 | start : Reach l 0 0
 | step {i : Nat} {d : Int} {x : S36} {j : Nat} : Reach l i d → l[i]? = some x → tk x ≤ d → d - tk x + pt x ≤ 32 → j ∈ succs l i x → Reach l j (d - tk x + pt x)
/-- it may not be run -/
inductive Bad (l : List S36) : Prop
 | stack {i : Nat} {d : Int} {x : S36} : Reach l i d → l[i]? = some x → (d < tk x ∨ 32 < d - tk x + pt x) → Bad l
 | end_ {d : Int} : Reach l l.length d → Bad l
 | two {i : Nat} {d d' : Int} : Reach l i d → Reach l i d' → d ≠ d' → Bad l
theorem movesS_q {Q : Int × Int → Prop} (h1 : Q (0, 1)) (h2 : Q (1, 2)) (h3 : Q (1, 0)) (h4 : Q (2, 2)) (h5 : Q (2, 3)) (h6 : Q (1, 1)) (h7 : Q (2, 0)) (h8 : Q (0, 0)) (h9 : Q (-1, -1)) (h10 : Q (2, 1))
  (h11 : ∀ c, 0 ≤ argsS c → Q (argsS c, 1)) (op arg : Int) : Q (movesS op arg) := by
 unfold movesS
 by_cases g0 : op = 0
 ·rw [if_pos g0]; exact h1
 rw [if_neg g0]
 by_cases g1 : op = 1
 ·rw [if_pos g1]; exact h1
 rw [if_neg g1]
 by_cases g2 : op = 2
 ·rw [if_pos g2]; exact h2
 rw [if_neg g2]
 by_cases g3 : op = 3
 ·rw [if_pos g3]; exact h3
 rw [if_neg g3]
 by_cases g4 : op = 22
 ·rw [if_pos g4]; exact h3
 rw [if_neg g4]
 by_cases g5 : op = 4
 ·rw [if_pos g5]; exact h4
 rw [if_neg g5]
 by_cases g6 : op = 5
 ·rw [if_pos g6]; exact h5
 rw [if_neg g6]
 by_cases g7 : op = 18
 ·rw [if_pos g7]; exact h6
 rw [if_neg g7]
 by_cases g8 : op = 19
 ·rw [if_pos g8]; exact h6
 rw [if_neg g8]
 by_cases g9 : op = 20
 ·rw [if_pos g9]; exact h7
 rw [if_neg g9]
 by_cases g10 : op = 21
 ·rw [if_pos g10]; exact h8
 rw [if_neg g10]
 by_cases g23 : op = 23
 ·rw [if_pos g23]
  by_cases ga : arg < 256
  ·rw [if_pos ga]
   by_cases gb : 0 ≤ argsS arg
   ·rw [if_pos gb]; exact h11 _ gb
   ·rw [if_neg gb]; exact h9
  ·rw [if_neg ga]; exact h9
 rw [if_neg g23]
 by_cases gc : 6 ≤ op
 ·rw [if_pos gc]
  by_cases gd : op ≤ 17
  ·rw [if_pos gd]; exact h10
  ·rw [if_neg gd]; exact h9
 ·rw [if_neg gc]; exact h9
theorem pt_nonneg {x : S36} : 0 ≤ tk x → 0 ≤ pt x := by
 unfold tk pt
 exact movesS_q (Q := fun p => 0 ≤ p.1 → 0 ≤ p.2) (by decide) (by decide) (by decide) (by decide) (by decide) (by decide) (by decide) (by decide) (by decide) (by decide) (fun _ _ _ => by simp) _ _
theorem tk_le {x : S36} : tk x ≤ 4 := by
 unfold tk
 refine movesS_q (Q := fun p => p.1 ≤ 4) (by decide) (by decide) (by decide) (by decide) (by decide) (by decide) (by decide) (by decide) (by decide) (by decide) (fun c _ => ?_) _ _
 have := argsS_cases c
 simp only
 omega
theorem pt_le {x : S36} : pt x ≤ 3 := by
 unfold pt
 exact movesS_q (Q := fun p => p.2 ≤ 3) (by decide) (by decide) (by decide) (by decide) (by decide) (by decide) (by decide) (by decide) (by decide) (by decide) (fun _ _ => by simp) _ _
theorem tk_ge {x : S36} : -1 ≤ tk x := by
 unfold tk
 refine movesS_q (Q := fun p => -1 ≤ p.1) (by decide) (by decide) (by decide) (by decide) (by decide) (by decide) (by decide) (by decide) (by decide) (by decide) (fun c h => ?_) _ _
 simp only
 omega
theorem pt_ge {x : S36} : -1 ≤ pt x := by
 unfold pt
 exact movesS_q (Q := fun p => -1 ≤ p.2) (by decide) (by decide) (by decide) (by decide) (by decide) (by decide) (by decide) (by decide) (by decide) (by decide) (fun _ _ => by simp) _ _
theorem okS_tk {l : List S36} (hl : okS l = true) {i : Nat} {x : S36} (hx : l[i]? = some x) : 0 ≤ tk x := by
 have := List.all_eq_true.1 hl _ (List.mem_of_getElem? hx)
 simp at this
 exact this.1
theorem okS_jmp {l : List S36} (hl : okS l = true) {i : Nat} {x : S36} (hx : l[i]? = some x) (hj : jmp x = true) : ∃ k, findS l x.f1 = some k := by
 have := List.all_eq_true.1 hl _ (List.mem_of_getElem? hx)
 simp only [hj, Bool.not_true, Bool.false_or, Bool.and_eq_true] at this
 exact Option.isSome_iff_exists.1 this.2
theorem Reach_range {l : List S36} (hl : okS l = true) {i : Nat} {d : Int} (h : Reach l i d) : 0 ≤ d ∧ d ≤ 32 := by
 induction h with
 | start => omega
 | step hr hx h1 h2 _ ih =>
  have := pt_nonneg (okS_tk hl hx)
  omega
theorem succs_le {l : List S36} {i : Nat} {x : S36} (hx : l[i]? = some x) {j : Nat} (hj : j ∈ succs l i x) : j ≤ l.length := by
 have hi := (List.getElem?_eq_some_iff.1 hx).1
 unfold succs at hj
 rcases List.mem_append.1 hj with h | h
 ·split at h
  ·simp at h
   cases e : findS l x.f1 with
   | none => rw [e] at h; simp at h; omega
   | some k => rw [e] at h; simp at h; have := findS_lt e; omega
  ·simp at h
 ·split at h
  ·simp at h
  ·simp at h; omega
/-- WHAT IS FOUND: all that is reached, with its depth; -1 elsewhere. -/
structure Found (l : List S36) (ds : List Int) : Prop where
 len : ds.length = l.length
 iff : ∀ (i : Nat) (d : Int), ds[i]? = some d → 0 ≤ d → Reach l i d
 neg : ∀ (i : Nat) (d : Int), ds[i]? = some d → d < 0 → d = -1
 all : ∀ (i : Nat) (d : Int), Reach l i d → ds[i]? = some d
theorem Found.not_bad {l : List S36} {ds : List Int} (f : Found l ds) (hst : ∀ (i : Nat) (d : Int) (x : S36), ds[i]? = some d → 0 ≤ d → l[i]? = some x → tk x ≤ d ∧ d - tk x + pt x ≤ 32) (hd : ∀ (i : Nat) (d : Int), Reach l i d → 0 ≤ d) : ¬ Bad l := by
 rintro (⟨hr, hx, h⟩ | ⟨hr⟩ | ⟨h1, h2, hne⟩)
 ·have := hst _ _ _ (f.all _ _ hr) (hd _ _ hr) hx
  omega
 ·have := f.all _ _ hr
  rw [List.getElem?_eq_none (by rw [f.len]; exact Nat.le_refl _)] at this
  cases this
 ·have e1 := f.all _ _ h1
  have e2 := f.all _ _ h2
  rw [e1] at e2
  exact hne (Option.some.inj e2)
theorem Found.one {l : List S36} {ds es : List Int} (f : Found l ds) (g : Found l es) : ds = es := by
 apply List.ext_getElem?
 intro i
 by_cases hi : i < l.length
 ·have hd : i < ds.length := by rw [f.len]; exact hi
  have he : i < es.length := by rw [g.len]; exact hi
  obtain ⟨d, hd'⟩ : ∃ d, ds[i]? = some d := ⟨_, List.getElem?_eq_getElem hd⟩
  obtain ⟨e, he'⟩ : ∃ e, es[i]? = some e := ⟨_, List.getElem?_eq_getElem he⟩
  by_cases h0 : 0 ≤ d
  ·rw [hd', g.all _ _ (f.iff _ _ hd' h0)]
  ·by_cases h1 : 0 ≤ e
   ·rw [he', f.all _ _ (g.iff _ _ he' h1)]
   ·rw [hd', he', f.neg _ _ hd' (by omega), g.neg _ _ he' (by omega)]
 ·rw [List.getElem?_eq_none (by rw [f.len]; omega), List.getElem?_eq_none (by rw [g.len]; omega)]
/-- A way of finding them answers rightly. -/
inductive Right (l : List S36) : Option (List Int) → Prop
 | no : Bad l → Right l none
 | yes {ds : List Int} : Found l ds → ¬ Bad l → Right l (some ds)
theorem Right.one {l : List S36} {r q : Option (List Int)} (h : Right l r) (g : Right l q) : r = q := by
 cases h with
 | no h => cases g with
  | no => rfl
  | yes _ hb => exact absurd h hb
 | yes f hb => cases g with
  | no h => exact absurd h hb
  | yes f' _ => rw [f.one f']
/-- What is closed under the steps holds all that is reached. -/
theorem closed_all {l : List S36} {ds : List Int} (hs : ds[0]? = some 0)
  (hc : ∀ (i : Nat) (d : Int) (x : S36), ds[i]? = some d → 0 ≤ d → l[i]? = some x → (tk x ≤ d ∧ d - tk x + pt x ≤ 32) ∧ ∀ j ∈ succs l i x, ds[j]? = some (d - tk x + pt x)) (hl : okS l = true) :
  ∀ (i : Nat) (d : Int), Reach l i d → ds[i]? = some d := by
 intro i d h
 induction h with
 | start => exact hs
 | step hr hx h1 h2 hj ih =>
  exact (hc _ _ _ ih (Reach_range hl hr).1 hx).2 _ hj
end Go.Proofs.Ytjbpljcfogekhaa.Core
namespace Go.Proofs.Ytjbpljcfogekhaa.Core
open Go.RowKit Ytjbpljcfogekhaa.Q YtjbpljcfogekhaaW.PrintWords YtjbpljcfogekhaaW.PrintLast YtjbpljcfogekhaaW.PrintMore
def visitS (n : Int) (d : Int) : List Int → List Int → List Int → Option (List Int × List Int)
 | [], ds, wk => some (ds, wk)
 | k :: t, ds, wk => if k = n then none else if rd ds k = d then visitS n d t ds wk else if rd ds k ≥ 0 then none else visitS n d t (ds.set k.toNat d) (wk ++ [k])
def toS (l : List S36) (n : Int) (x : S36) : List Int :=
 (if jmp x then [(((findS l x.f1).getD 0 : Nat) : Int)] else []) ++ (if x.f0 = 21 then [] else [n + 1])
def lookF (l : List S36) : Nat → List Int → List Int → Option (Option (List Int))
 | 0, _, _ => none
 | f + 1, wk, ds =>
  if wk.length = 0 then some (some ds)
  else
   if rd ds (rd wk (wk.length - 1)) < tk (rd_T36 l (rd wk (wk.length - 1))) ∨ 32 < rd ds (rd wk (wk.length - 1)) - tk (rd_T36 l (rd wk (wk.length - 1))) + pt (rd_T36 l (rd wk (wk.length - 1))) then some none
   else match visitS l.length (rd ds (rd wk (wk.length - 1)) - tk (rd_T36 l (rd wk (wk.length - 1))) + pt (rd_T36 l (rd wk (wk.length - 1)))) (toS l (rd wk (wk.length - 1)) (rd_T36 l (rd wk (wk.length - 1)))) ds wk.dropLast with
    | none => some none
    | some (ds', wk') => lookF l f wk' ds'
theorem rd_of {ds : List Int} {i : Nat} {d : Int} (h : ds[i]? = some d) : rd ds (i : Int) = d := by
 unfold rd; simp [h]
theorem rdT_of {l : List S36} {i : Nat} {x : S36} (h : l[i]? = some x) : rd_T36 l (i : Int) = x := by
 unfold rd_T36; simp [List.getD, h]
theorem rd_get {ds : List Int} {i : Nat} (h : i < ds.length) : ds[i]? = some (rd ds (i : Int)) := by
 unfold rd; simp [List.getElem?_eq_getElem h]
def negs (ds : List Int) : Nat := ds.countP fun d => decide (d < 0)
theorem negs_set {ds : List Int} {i : Nat} {d : Int} (h : i < ds.length) (hn : rd ds (i : Int) < 0) (hd : 0 ≤ d) : negs (ds.set i d) + 1 = negs ds := by
 have e : ds[i]? = some (rd ds (i : Int)) := rd_get h
 have e' : ds[i] = rd ds (i : Int) := by rw [List.getElem?_eq_getElem h] at e; exact Option.some.inj e
 unfold negs
 rw [List.countP_set h]
 have h1 : (decide (ds[i] < 0)) = true := by rw [e']; simpa using hn
 have h2 : (decide (d < 0)) = false := by simpa using hd
 have h3 : 0 < List.countP (fun d => decide (d < 0)) ds := List.countP_pos_iff.2 ⟨ds[i], List.getElem_mem h, h1⟩
 rw [h1, h2]
 simp
 omega
/-- What holds while it looks. -/
structure LookInv (l : List S36) (wk ds : List Int) : Prop where
 len : ds.length = l.length
 sound : ∀ (i : Nat) (d : Int), ds[i]? = some d → 0 ≤ d → Reach l i d
 neg : ∀ (i : Nat) (d : Int), ds[i]? = some d → d < 0 → d = -1
 zero : ds[0]? = some 0
 work : ∀ k ∈ wk, ∃ (i : Nat) (d : Int), k = i ∧ ds[i]? = some d ∧ 0 ≤ d
theorem visitS_spec {l : List S36} {n : Nat} {x : S36} {d : Int} (hd : 0 ≤ d) (hr : ∀ j ∈ succs l n x, Reach l j d) (hle : ∀ j ∈ succs l n x, j ≤ l.length) :
  ∀ (ts : List Int) (ds wk : List Int), (∀ k ∈ ts, ∃ j : Nat, k = j ∧ j ∈ succs l n x) → LookInv l wk ds →
  (visitS l.length d ts ds wk = none ∧ Bad l) ∨ ∃ ds' wk', visitS l.length d ts ds wk = some (ds', wk') ∧ LookInv l wk' ds' ∧ (∀ (i : Nat) (e : Int), ds[i]? = some e → 0 ≤ e → ds'[i]? = some e) ∧
   (∀ k ∈ ts, ∃ j : Nat, k = j ∧ ds'[j]? = some d) ∧ (∀ k ∈ wk, k ∈ wk') ∧ (∀ (i : Nat) (e e' : Int), ds[i]? = some e → e < 0 → ds'[i]? = some e' → 0 ≤ e' → (i : Int) ∈ wk') ∧ negs ds' + wk'.length = negs ds + wk.length
 | [], ds, wk, _, inv => .inr ⟨ds, wk, rfl, inv, fun _ _ h _ => h, by simp, fun _ h => h, fun i e e' h h1 h2 h3 => by rw [h] at h2; cases h2; omega, rfl⟩
 | k :: t, ds, wk, hto, inv => by
  obtain ⟨j, rfl, hj⟩ := hto k (by simp)
  have ht : ∀ k ∈ t, ∃ j : Nat, k = j ∧ j ∈ succs l n x := fun k hk => hto k (by simp [hk])
  simp only [visitS]
  by_cases h1 : (j : Int) = l.length
  ·rw [if_pos h1]
   have : j = l.length := by omega
   exact .inl ⟨rfl, .end_ (this ▸ hr j hj)⟩
  ·rw [if_neg h1]
   have hlt : j < ds.length := by have := hle j hj; rw [inv.len]; omega
   have hg := rd_get hlt
   by_cases h2 : rd ds (j : Int) = d
   ·rw [if_pos h2]
    rcases visitS_spec hd hr hle t ds wk ht inv with h | ⟨ds', wk', e, i1, i2, i3, i4, i5, i6⟩
    ·exact .inl h
    ·refine .inr ⟨ds', wk', e, i1, i2, ?_, i4, i5, i6⟩
     intro k hk
     rcases List.mem_cons.1 hk with rfl | hk
     ·exact ⟨j, rfl, i2 j d (by rw [hg, h2]) hd⟩
     ·exact i3 k hk
   ·rw [if_neg h2]
    by_cases h3 : rd ds (j : Int) ≥ 0
    ·rw [if_pos h3]
     exact .inl ⟨rfl, .two (inv.sound j _ hg h3) (hr j hj) h2⟩
    ·rw [if_neg h3]
     have hset : (ds.set j d)[j]? = some d := by rw [List.getElem?_set_self hlt]
     have hoth : ∀ i, i ≠ j → (ds.set j d)[i]? = ds[i]? := fun i hi => List.getElem?_set_ne (Ne.symm hi)
     have inv' : LookInv l (wk ++ [(j : Int)]) (ds.set j d) := by
      refine ⟨by simp [inv.len], ?_, ?_, ?_, ?_⟩
      ·intro i e he h0
       by_cases hi : i = j
       ·subst hi; rw [hset] at he; cases he; exact hr i hj
       ·rw [hoth i hi] at he; exact inv.sound i e he h0
      ·intro i e he h0
       by_cases hi : i = j
       ·subst hi; rw [hset] at he; cases he; omega
       ·rw [hoth i hi] at he; exact inv.neg i e he h0
      ·by_cases hi : 0 = j
       ·subst hi; rw [inv.zero] at hg; have := Option.some.inj hg; omega
       ·rw [hoth 0 hi]; exact inv.zero
      ·intro k hk
       rcases List.mem_append.1 hk with hk | hk
       ·obtain ⟨i, e, rfl, he, h0⟩ := inv.work k hk
        by_cases hi : i = j
        ·subst hi; exact ⟨i, d, rfl, hset, hd⟩
        ·exact ⟨i, e, rfl, by rw [hoth i hi]; exact he, h0⟩
       ·rw [List.mem_singleton.1 hk]; exact ⟨j, d, rfl, hset, hd⟩
     have ej : ((j : Int)).toNat = j := by simp
     rw [ej]
     rcases visitS_spec hd hr hle t (ds.set j d) (wk ++ [(j : Int)]) ht inv' with h | ⟨ds', wk', e, i1, i2, i3, i4, i5, i6⟩
     ·exact .inl h
     ·refine .inr ⟨ds', wk', e, i1, ?_, ?_, ?_, ?_, ?_⟩
      ·intro i e he h0
       refine i2 i e ?_ h0
       by_cases hi : i = j
       ·subst hi; rw [hg] at he; have := Option.some.inj he; omega
       ·rw [hoth i hi]; exact he
      ·intro k hk
       rcases List.mem_cons.1 hk with rfl | hk
       ·exact ⟨j, rfl, i2 j d hset hd⟩
       ·exact i3 k hk
      ·intro k hk; exact i4 k (by simp [hk])
      ·intro i e e' he h0 he' h0'
       by_cases hi : i = j
       ·subst hi; exact i4 _ (by simp)
       ·exact i5 i e e' (by rw [hoth i hi]; exact he) h0 he' h0'
      ·have := negs_set (d := d) hlt (by omega) hd
       rw [i6, List.length_append, List.length_singleton]
       omega
theorem toS_succs {l : List S36} {n : Nat} {x : S36} : ∀ k ∈ toS l (n : Int) x, ∃ j : Nat, k = j ∧ j ∈ succs l n x := by
 intro k hk
 unfold toS at hk
 unfold succs
 rcases List.mem_append.1 hk with h | h
 ·split at h
  ·rename_i hj
   refine ⟨_, List.mem_singleton.1 h, ?_⟩
   simp [hj]
  ·simp at h
 ·split at h
  ·simp at h
  ·rename_i hj
   refine ⟨n + 1, by rw [List.mem_singleton.1 h]; simp, ?_⟩
   simp [hj]
theorem succs_toS {l : List S36} {n : Nat} {x : S36} {j : Nat} (h : j ∈ succs l n x) : (j : Int) ∈ toS l (n : Int) x := by
 unfold succs at h
 unfold toS
 rcases List.mem_append.1 h with h | h
 ·refine List.mem_append.2 (.inl ?_)
  split at h
  ·rename_i hj
   rw [if_pos hj, List.mem_singleton.1 h]
   simp
  ·simp at h
 ·refine List.mem_append.2 (.inr ?_)
  split at h
  ·simp at h
  ·rename_i hj
   rw [if_neg hj, List.mem_singleton.1 h]
   simp
theorem lookF_right {l : List S36} (hl : okS l = true) : ∀ (f : Nat) (wk ds : List Int), LookInv l wk ds →
  (∀ (i : Nat) (d : Int) (x : S36), ds[i]? = some d → 0 ≤ d → l[i]? = some x → (i : Int) ∈ wk ∨ (tk x ≤ d ∧ d - tk x + pt x ≤ 32) ∧ ∀ j ∈ succs l i x, ds[j]? = some (d - tk x + pt x)) →
  negs ds + wk.length < f → ∃ r, lookF l f wk ds = some r ∧ Right l r
 | 0, _, _, _, _, hf => by omega
 | f + 1, wk, ds, inv, hc, hf => by
  rw [lookF]
  by_cases hw : wk.length = 0
  ·rw [if_pos hw]
   have hw' : wk = [] := List.length_eq_zero_iff.1 hw
   subst hw'
   have hcl : ∀ (i : Nat) (d : Int) (x : S36), ds[i]? = some d → 0 ≤ d → l[i]? = some x → (tk x ≤ d ∧ d - tk x + pt x ≤ 32) ∧ ∀ j ∈ succs l i x, ds[j]? = some (d - tk x + pt x) :=
    fun i d x h h0 hx => (hc i d x h h0 hx).resolve_left (by simp)
   have F : Found l ds := ⟨inv.len, inv.sound, inv.neg, closed_all inv.zero hcl hl⟩
   exact ⟨_, rfl, .yes F (F.not_bad (fun i d x h h0 hx => (hcl i d x h h0 hx).1) (fun i d h => (Reach_range hl h).1))⟩
  ·rw [if_neg hw]
   obtain ⟨wk0, k, rfl⟩ : ∃ wk0 k, wk = wk0 ++ [k] := ⟨wk.dropLast, wk.getLast (by intro h; simp [h] at hw), (List.dropLast_concat_getLast _).symm⟩
   obtain ⟨n, d, rfl, hn, h0⟩ := inv.work k (by simp)
   have hrd : rd (wk0 ++ [(n : Int)]) (((wk0 ++ [(n : Int)]).length : Int) - 1) = n := by
    unfold rd; simp
   have hnl : n < l.length := by rw [← inv.len]; exact (List.getElem?_eq_some_iff.1 hn).1
   obtain ⟨x, hx⟩ : ∃ x, l[n]? = some x := ⟨_, List.getElem?_eq_getElem hnl⟩
   rw [hrd, rdT_of hx, rd_of hn]
   have hR := inv.sound n d hn h0
   by_cases hb : d < tk x ∨ 32 < d - tk x + pt x
   ·rw [if_pos hb]
    exact ⟨_, rfl, .no (.stack hR hx hb)⟩
   ·rw [if_neg hb, List.dropLast_concat]
    have hd' : 0 ≤ d - tk x + pt x := by
     have := pt_nonneg (okS_tk hl hx)
     omega
    have inv0 : LookInv l wk0 ds := ⟨inv.len, inv.sound, inv.neg, inv.zero, fun k hk => inv.work k (by simp [hk])⟩
    rcases visitS_spec (n := n) hd' (fun j hj => Reach.step hR hx (by omega) (by omega) hj) (fun j hj => succs_le hx hj) (toS l n x) ds wk0 toS_succs inv0 with ⟨e, hB⟩ | ⟨ds', wk', e, i1, i2, i3, i4, i5, i6⟩
    ·rw [e]; exact ⟨_, rfl, .no hB⟩
    ·rw [e]
     refine lookF_right hl f wk' ds' i1 ?_ (by simp at hf; omega)
     intro i e' y he' h0' hy
     have hil : i < ds.length := by rw [inv.len]; exact (List.getElem?_eq_some_iff.1 hy).1
     have hg := rd_get hil
     by_cases hneg : rd ds (i : Int) < 0
     ·exact .inl (i5 i _ e' hg hneg he' h0')
     ·have e2 := i2 i _ hg (by omega)
      rw [he'] at e2
      have e3 := Option.some.inj e2
      rw [← e3] at hg
      by_cases hin : i = n
      ·subst hin
       rw [hn] at hg
       obtain rfl := Option.some.inj hg
       rw [hx] at hy
       obtain rfl := Option.some.inj hy
       refine .inr ⟨by omega, fun j hj => ?_⟩
       obtain ⟨j', hj', hd2⟩ := i3 _ (succs_toS hj)
       have : j = j' := by omega
       subst this
       exact hd2
      ·rcases hc i e' y hg h0' hy with hw1 | ⟨h1, h2⟩
       ·rcases List.mem_append.1 hw1 with hw1 | hw1
        ·exact .inl (i4 _ hw1)
        ·simp at hw1; omega
       ·refine .inr ⟨h1, fun j hj => i2 j _ (h2 j hj) ?_⟩
        have := pt_nonneg (okS_tk hl hy)
        omega
def start (l : List S36) : List Int := (List.replicate l.length (-1)).set 0 0
theorem start_inv {l : List S36} (h : 0 < l.length) : LookInv l [0] (start l) := by
 have h0 : (start l)[0]? = some 0 := by unfold start; rw [List.getElem?_set_self (by simpa using h)]
 have hi : ∀ i : Nat, i ≠ 0 → (start l)[i]? = (List.replicate l.length (-1 : Int))[i]? := fun i hi => by unfold start; rw [List.getElem?_set_ne (Ne.symm hi)]
 refine ⟨by simp [start], ?_, ?_, h0, ?_⟩
 ·intro i d hd hge
  by_cases he : i = 0
  ·subst he; rw [h0] at hd; cases hd; exact .start
  ·rw [hi i he, List.getElem?_replicate] at hd
   split at hd
   ·cases hd; omega
   ·cases hd
 ·intro i d hd hlt
  by_cases he : i = 0
  ·subst he; rw [h0] at hd; cases hd; omega
  ·rw [hi i he, List.getElem?_replicate] at hd
   split at hd
   ·cases hd; rfl
   ·cases hd
 ·intro k hk
  rw [List.mem_singleton.1 hk]
  exact ⟨0, 0, rfl, h0, by omega⟩
theorem look_right {l : List S36} (hl : okS l = true) (h : 0 < l.length) (f : Nat) (hf : l.length + 1 < f) : ∃ r, lookF l f [0] (start l) = some r ∧ Right l r := by
 refine lookF_right hl f [0] (start l) (start_inv h) ?_ ?_
 ·intro i d x hd h0 _
  by_cases he : i = 0
  ·subst he; exact .inl (by simp)
  ·unfold start at hd
   rw [List.getElem?_set_ne (Ne.symm he), List.getElem?_replicate] at hd
   split at hd
   ·cases hd; omega
   ·cases hd
 ·have : negs (start l) ≤ (start l).length := List.countP_le_length
  have e : (start l).length = l.length := by simp [start]
  simp only [List.length_singleton]
  omega
end Go.Proofs.Ytjbpljcfogekhaa.Core
namespace Go.Proofs.Ytjbpljcfogekhaa.Core
open Go.RowKit Ytjbpljcfogekhaa.Q YtjbpljcfogekhaaW.PrintWords YtjbpljcfogekhaaW.PrintLast YtjbpljcfogekhaaW.PrintMore
def depRes : Option (List Int) → List Int × Int
 | none => ([], 8)
 | some ds => (ds, 0)
end Go.Proofs.Ytjbpljcfogekhaa.Core
namespace Go.Proofs.Ytjbpljcfogekhaa.Core
open Go.RowKit Ytjbpljcfogekhaa.Q YtjbpljcfogekhaaW.PrintWords YtjbpljcfogekhaaW.PrintLast YtjbpljcfogekhaaW.PrintMore
theorem dec_l0L (s : ByteArray) (hs : s.size ≤ 4398046511104) : ∀ (d : Nat) (p : Int) (b : List S36), 0 ≤ p → (s.size : Int) - p ≤ d → b.length ≤ p →
  Ev (fun k => code_Decode.l0 k s b p) (decRes b (dec s d p))
 | 0, p, b, h0, hd, hb => by
  refine Ev.from 1 fun k => ?_
  simp only [code_Decode.l0]
  rw [if_neg (by omega)]
  simp [dec, decRes]
 | d + 1, p, b, h0, hd, hb => by
  rw [dec]
  by_cases hp : p < s.size
  ·rw [if_pos hp]
   refine Ev.step (f := fun k => (code_One.f k s p).bind fun bt121 => (if bt121.2.2.2.2 = 0 then (if b.length < 4398046511104 then (code_Decode.l0 k s (b ++ [(⟨bt121.1, bt121.2.1, bt121.2.2.1, bt121.2.2.2.1⟩ : S36)]) (wrap64 (p + bt121.2.2.2.1))) else (none)) else (some (([] : List (S36)), bt121.2.2.2.2)))) (fun k => ?_) ?_
   ·simp only [code_Decode.l0]
    rw [if_pos hp]
   ·refine Ev.bind (One_ev s (by omega) p) ?_
    rcases oneS_in h0 hp with ⟨he, hl, hle⟩ | he
    ·refine Ev.pos he (Ev.pos (by omega) ?_)
     rw [if_pos he, wrap_in (by omega) (by omega)]
     have := dec_l0L s hs d (p + (oneS s p).2.2.2.1) (b ++ [mkIns (oneS s p)]) (by omega) (by omega) (by simp; omega)
     have e : decRes (b ++ [mkIns (oneS s p)]) (dec s d (p + (oneS s p).2.2.2.1)) = decRes b ((dec s d (p + (oneS s p).2.2.2.1)).bind fun l => some (mkIns (oneS s p) :: l)) := by
      cases dec s d (p + (oneS s p).2.2.2.1) <;> simp [decRes]
     rw [e] at this
     exact this
    ·rw [he]
     refine Ev.neg (by simp) ?_
     rw [if_neg (by simp)]
     exact Ev.now _
  ·rw [if_neg hp]
   refine Ev.from 1 fun k => ?_
   simp only [code_Decode.l0]
   rw [if_neg hp]
   simp [decRes]
theorem Decode_evL (s : ByteArray) (hs : s.size ≤ 4398046511104) : Ev (fun k => code_Decode.f k s) (decRes [] (decAll s)) := by
 have := dec_l0L s hs s.size 0 [] (by omega) (by omega) (by simp)
 simpa [code_Decode.f, decAll] using this
theorem rdec_l0L (s : ByteArray) (hs : s.size ≤ 4398046511104) : ∀ (d : Nat) (p : Int) (b : List S36), 0 ≤ p → (s.size : Int) - p ≤ d → b.length ≤ p →
  Ev (fun k => janusref05_Decode.l0 k s b p) (decRes b (dec s d p))
 | 0, p, b, h0, hd, hb => by
  refine Ev.from 1 fun k => ?_
  simp only [janusref05_Decode.l0]
  rw [if_neg (by omega)]
  simp [dec, decRes]
 | d + 1, p, b, h0, hd, hb => by
  rw [dec]
  by_cases hp : p < s.size
  ·rw [if_pos hp]
   refine Ev.step (f := fun k => (janusref05_One.f k s p).bind fun bt121 => (if bt121.2.2.2.2 = 0 then (if b.length < 4398046511104 then (janusref05_Decode.l0 k s (b ++ [(⟨bt121.1, bt121.2.1, bt121.2.2.1, bt121.2.2.2.1⟩ : S36)]) (wrap64 (p + bt121.2.2.2.1))) else (none)) else (some (([] : List (S36)), bt121.2.2.2.2)))) (fun k => ?_) ?_
   ·simp only [janusref05_Decode.l0]
    rw [if_pos hp]
   ·refine Ev.bind (ROne_ev s (by omega) p) ?_
    rcases oneS_in h0 hp with ⟨he, hl, hle⟩ | he
    ·refine Ev.pos he (Ev.pos (by omega) ?_)
     rw [if_pos he, wrap_in (by omega) (by omega)]
     have := rdec_l0L s hs d (p + (oneS s p).2.2.2.1) (b ++ [mkIns (oneS s p)]) (by omega) (by omega) (by simp; omega)
     have e : decRes (b ++ [mkIns (oneS s p)]) (dec s d (p + (oneS s p).2.2.2.1)) = decRes b ((dec s d (p + (oneS s p).2.2.2.1)).bind fun l => some (mkIns (oneS s p) :: l)) := by
      cases dec s d (p + (oneS s p).2.2.2.1) <;> simp [decRes]
     rw [e] at this
     exact this
    ·rw [he]
     refine Ev.neg (by simp) ?_
     rw [if_neg (by simp)]
     exact Ev.now _
  ·rw [if_neg hp]
   refine Ev.from 1 fun k => ?_
   simp only [janusref05_Decode.l0]
   rw [if_neg hp]
   simp [decRes]
theorem RDecode_evL (s : ByteArray) (hs : s.size ≤ 4398046511104) : Ev (fun k => janusref05_Decode.f k s) (decRes [] (decAll s)) := by
 have := rdec_l0L s hs s.size 0 [] (by omega) (by omega) (by simp)
 simpa [janusref05_Decode.f, decAll] using this
theorem dec_range (s : ByteArray) : ∀ (d : Nat) (p : Int) (l : List S36), 0 ≤ p → dec s d p = some l → ∀ x ∈ l, p ≤ x.f2 ∧ x.f2 < s.size ∧ 0 ≤ x.f0 ∧ x.f0 ≤ 23 ∧ 0 ≤ x.f1 ∧ x.f1 < 18446744073709551616 ∧ 1 ≤ x.f3 ∧ x.f2 + x.f3 ≤ s.size
 | 0, p, l, _, h => by simp [dec] at h; subst h; intro x hx; cases hx
 | d + 1, p, l, h0, h => by
  rw [dec] at h
  split at h
  ·rename_i hp
   split at h
   ·rename_i he
    obtain ⟨m, hm, h⟩ := Option.bind_eq_some_iff.1 h
    simp only [Option.some.injEq] at h
    subst h
    have h1 : 0 ≤ (oneS s p).1 ∧ (oneS s p).1 ≤ 23 ∧ 0 ≤ (oneS s p).2.1 ∧ (oneS s p).2.1 < 18446744073709551616 ∧ (oneS s p).2.2.1 = p ∧ 1 ≤ (oneS s p).2.2.2.1 ∧ p + (oneS s p).2.2.2.1 ≤ s.size := by
     unfold oneS at he ⊢
     rw [if_neg (by omega)] at he ⊢
     split at he
     ·simp at he
     ·rename_i h2
      rw [if_neg h2]
      have ho := opw_op (op := bt s p) (by omega)
      have hl := opw_le (bt s p)
      have hr := leN_range _ (bytesAt_range s (opw (bt s p)).toNat (p + 1))
      rw [bytesAt_length] at hr
      have hk : (opw (bt s p)).toNat ≤ 8 := by omega
      have hpw : (256 : Int) ^ (opw (bt s p)).toNat ≤ 18446744073709551616 := by
       have : (opw (bt s p)).toNat = 0 ∨ (opw (bt s p)).toNat = 1 ∨ (opw (bt s p)).toNat = 2 ∨ (opw (bt s p)).toNat = 3 ∨ (opw (bt s p)).toNat = 4 ∨ (opw (bt s p)).toNat = 5 ∨ (opw (bt s p)).toNat = 6 ∨ (opw (bt s p)).toNat = 7 ∨ (opw (bt s p)).toNat = 8 := by omega
       rcases this with e | e | e | e | e | e | e | e | e <;> rw [e] <;> decide
      refine ⟨ho.1, ho.2, hr.1, Int.lt_of_lt_of_le hr.2 hpw, rfl, ?_, ?_⟩ <;> simp only <;> omega
    intro x hx
    rcases List.mem_cons.1 hx with rfl | hx
    ·simp only [mkIns]
     omega
    ·have := dec_range s d _ m (by omega) hm x hx
     omega
   ·cases h
  ·simp at h; subst h; intro x hx; cases hx
theorem dec_places (s : ByteArray) : ∀ (d : Nat) (p : Int) (l : List S36), 0 ≤ p → dec s d p = some l → l.Pairwise fun x y => x.f2 < y.f2
 | 0, p, l, _, h => by simp [dec] at h; subst h; exact List.Pairwise.nil
 | d + 1, p, l, h0, h => by
  rw [dec] at h
  split at h
  ·rename_i hp
   split at h
   ·rename_i he
    obtain ⟨m, hm, h⟩ := Option.bind_eq_some_iff.1 h
    simp only [Option.some.injEq] at h
    subst h
    have h1 : (oneS s p).2.2.1 = p ∧ 1 ≤ (oneS s p).2.2.2.1 := by
     unfold oneS at he ⊢
     rw [if_neg (by omega)] at he ⊢
     split at he
     ·simp at he
     ·rename_i h2
      rw [if_neg h2]
      exact ⟨rfl, by simp only; omega⟩
    refine List.Pairwise.cons (fun y hy => ?_) (dec_places s d _ m (by omega) hm)
    have := dec_range s d _ m (by omega) hm y hy
    simp only [mkIns]
    omega
   ·cases h
  ·simp at h; subst h; exact List.Pairwise.nil
end Go.Proofs.Ytjbpljcfogekhaa.Core
namespace Go.Proofs.Ytjbpljcfogekhaa.Q
open Go.RowKit YtjbpljcfogekhaaW.PrintWords YtjbpljcfogekhaaW.PrintLast YtjbpljcfogekhaaW.PrintMore
theorem cells4 {w : World} {g : Nat} {t : TypeId} {x0 x1 x2 x3 : Value} (h : w.heap[g]? = some (.cells #[x0, x1, x2, x3] t (0, 0))) :
  (w.cell? ⟨g, 0, none⟩ = some x0 ∧ w.cell? ⟨g, 1, none⟩ = some x1 ∧ w.cell? ⟨g, 2, none⟩ = some x2 ∧ w.cell? ⟨g, 3, none⟩ = some x3) ∧ w.frozen? ⟨g, 0, none⟩ = false ∧ w.frozen? ⟨g, 1, none⟩ = false ∧ w.frozen? ⟨g, 2, none⟩ = false ∧ w.frozen? ⟨g, 3, none⟩ = false :=
 ⟨⟨blk_cell h 0, blk_cell h 1, blk_cell h 2, blk_cell h 3⟩, blk_frozen h 0, blk_frozen h 1, blk_frozen h 2, blk_frozen h 3⟩
end Go.Proofs.Ytjbpljcfogekhaa.Q
namespace Go.Proofs.Ytjbpljcfogekhaa.Q
open Go.RowKit Go.Maps Ytjbpljcfogekhaa.Core YtjbpljcfogekhaaW.PrintWords YtjbpljcfogekhaaW.PrintLast YtjbpljcfogekhaaW.PrintMore
theorem mapLaw : Keyed Try.prog 34 := int_keyed Try.underlying34
theorem zero3 (w : World) : (zeroValue 3).run Try.prog w = .ok (.int .i64 0) w := by kernel_rfl
theorem u64_wf {a : Int} (h0 : 0 ≤ a) (h1 : a < 18446744073709551616) : (Lit.int .u64 a).wf = true := by
 simp only [Lit.wf, Bool.and_eq_true, decide_eq_true_eq]
 have e0 : IntKind.u64.min = 0 := rfl
 have e1 : IntKind.u64.max = 18446744073709551615 := rfl
 rw [e0, e1]
 omega
theorem i64_wf {a : Int} (h0 : 0 ≤ a) (h1 : a < 9223372036854775808) : (Lit.int .i64 a).wf = true := by
 simp only [Lit.wf, Bool.and_eq_true, decide_eq_true_eq]
 have e0 : IntKind.i64.min = -9223372036854775808 := rfl
 have e1 : IntKind.i64.max = 9223372036854775807 := rfl
 rw [e0, e1]
 omega
/-- Block b is a map of at most n places: F tells the number at a place. -/
def Mp (W : World) (b n : Nat) (F : Int → Option Nat) : Prop :=
 ∃ D : DataW Unit, W.ownsMap Try.prog 34 (plainElem Try.prog 3) b n D ∧ ∀ a, 0 ≤ a → a < 18446744073709551616 → Maps.has D (.int .u64 a) = (F a).isSome ∧ D.atKey (.int .u64 a) (.lit (.int .i64 0)) = .lit (.int .i64 ((F a).getD 0 : Nat))
theorem Mp.grown {W W1 : World} {b n : Nat} {F : Int → Option Nat} (h : Mp W b n F) {row : Option Nat} (hg : W.grownBy W1 row) (hne : some b ≠ row) : Mp W1 b n F := by
 obtain ⟨D, h, h2⟩ := h
 exact ⟨D, h.kept hg hne, h2⟩
theorem Mp.heap {W W1 : World} {b n : Nat} {F : Int → Option Nat} (h : Mp W b n F) (hb : W1.heap[b]? = W.heap[b]?) : Mp W1 b n F := by
 obtain ⟨D, ⟨es, clock, h0, h1⟩, h2⟩ := h
 exact ⟨D, ⟨es, clock, hb.trans h0, h1⟩, h2⟩
theorem Mp.lt {W : World} {b n : Nat} {F : Int → Option Nat} (h : Mp W b n F) : b < W.heap.size := by
 obtain ⟨D, h, h2⟩ := h
 exact h.lt
theorem Mp.kept {W W1 : World} {b n : Nat} {F : Int → Option Nat} (h : Mp W b n F) {S : Nat → Prop} (hk : Kept W W1 S) (hb : ¬ S b) : Mp W1 b n F := h.heap (hk.2 b h.lt hb)
theorem Mp.below {W W1 : World} {b n : Nat} {F : Int → Option Nat} (h : Mp W b n F) (hb : Below W.heap.size W W1) : Mp W1 b n F := h.heap (hb.block b h.lt)
theorem Mp.look {W : World} {b n : Nat} {F : Int → Option Nat} (h : Mp W b n F) {a : Int} (h0 : 0 ≤ a) (h1 : a < 18446744073709551616) :
  (Instr.lookup 76 (.map (some b)) (.int .u64 a) false).run Try.prog W = .ok (.int .i64 ((F a).getD 0 : Nat)) W := by
 obtain ⟨D, h, h2⟩ := h
 obtain ⟨c, hr, hc, _⟩ := h.lookup_int mapLaw Try.underlying76 Try.underlying3 (zero3 _) (keyOf_int_mk Try.underlying34 (u64_wf h0 h1))
 rw [(h2 a h0 h1).2] at hc
 have : c = ((F a).getD 0 : Nat) := by injection hc with hc; injection hc with _ hc; exact hc.symm
 rw [hr, this]
theorem Mp.look_ok {W : World} {b n : Nat} {F : Int → Option Nat} (h : Mp W b n F) {a : Int} (h0 : 0 ≤ a) (h1 : a < 18446744073709551616) :
  (Instr.lookup 76 (.map (some b)) (.int .u64 a) true).run Try.prog W = .ok (.tuple #[.int .i64 ((F a).getD 0 : Nat), .bool (F a).isSome]) W := by
 obtain ⟨D, h, h2⟩ := h
 obtain ⟨v, ps, hr, hv⟩ := h.look_ok mapLaw Try.underlying76 (zero3 _) (plainElem_int Try.underlying3 (by decide)) (keyOf_int_mk Try.underlying34 (u64_wf h0 h1))
 obtain ⟨c, rfl, hc, _⟩ := plainElem_int_inv Try.underlying3 hv
 rw [(h2 a h0 h1).1] at hr
 rw [(h2 a h0 h1).2] at hc
 simp only [Prod.mk.injEq] at hc
 have : c = ((F a).getD 0 : Nat) := by obtain ⟨hc, _⟩ := hc; injection hc with hc; injection hc with _ hc; exact hc.symm
 rw [hr, this]
theorem Mp.new (W : World) : Mp (W.alloc (.map #[] 0)) W.heap.size 0 (fun _ => none) :=
 ⟨_, World.ownsMap_made W Try.prog 34 _, fun _ _ _ => ⟨rfl, rfl⟩⟩
theorem Mp.put {W : World} {b n : Nat} {F : Int → Option Nat} (h : Mp W b n F) (hn : n < maxLen) {a : Int} (h0 : 0 ≤ a) (h1 : a < 18446744073709551616) {i : Nat} (hi : (i : Int) < 9223372036854775808) :
  ∃ W', (Instr.mapUpdate 76 (.map (some b)) (.int .u64 a) (.int .i64 i)).run Try.prog W = .ok () W' ∧ Mp W' b (n + 1) (fun c => if c = a then some i else F c) ∧ W.grownBy W' (some b) := by
 obtain ⟨D, h, h2⟩ := h
 obtain ⟨W', hr, ho, hg⟩ := h.update mapLaw Try.underlying76 hn (keyOf_int_mk Try.underlying34 (u64_wf h0 h1)) (plainElem_int Try.underlying3 (i64_wf (by omega) hi))
 refine ⟨W', hr, ⟨_, ho, fun c hc0 hc1 => ?_⟩, hg⟩
 have hM : IsMap D := h.isMap
 by_cases hca : c = a
 ·subst hca
  dsimp only
  rw [if_pos rfl]
  have hk : WideAt.IsKeyLit (Lit.int .u64 c) := by first | trivial | (unfold WideAt.IsKeyLit; trivial) | (simp [WideAt.IsKeyLit])
  exact ⟨has_put_same hM hk _, atKey_put_same hM hk _ _⟩
 ·dsimp only
  rw [if_neg hca]
  have hne : Lit.int .u64 c ≠ Lit.int .u64 a := fun e => hca (by injection e)
  exact ⟨(has_put_other hne _).trans (h2 c hc0 hc1).1, (atKey_put_other hne _ _).trans (h2 c hc0 hc1).2⟩
/-- A row of one number that was just written down. -/
theorem R_one (w : World) (x : Int) (ok : Nat → Prop) (hok : ok w.heap.size) (base : Nat) (hb : base ≤ w.heap.size) : Kd.R (Kd.int .i64) 3 (w.alloc (.cells #[.int .i64 x] 3)) base ok (.slice (some ⟨w.heap.size, 0, none⟩) 1 1) [x] := by
 refine ⟨fun k hk => by simp [Value.ownBlock] at hk; subst hk; exact hok, [.int .i64 x], ⟨rfl, .inr ⟨w.heap.size, 1, #[.int .i64 x], rfl, hb, blk_new _ _, Nat.le_refl _, by unfold maxLen; omega, rfl, rfl⟩⟩, rfl, fun j p hj => ?_⟩
 have : j = 0 := by have := (List.getElem?_eq_some_iff.1 hj).1; simp at this; omega
 subst this
 simp at hj
 subst hj
 rfl
/-- Element i of a row of numbers of one's own. -/
theorem R_cell {W : World} {base g n cap : Nat} {ok : Nat → Prop} {xs : List Int} (h : Kd.R (Kd.int .i64) 3 W base ok (.slice (some ⟨g, 0, none⟩) n cap) xs) {i : Nat} (hi : i < xs.length) :
  W.cell? ⟨g, i, none⟩ = some (.int .i64 (rd xs (i : Int))) ∧ W.frozen? ⟨g, i, none⟩ = false := by
 have hn := (Kd.R_reads' h).1
 obtain ⟨c, hcl, hM, hc, hf⟩ := Kd.R_elem h (0 : Int) (i : Int) (by omega) (by omega)
 have e : c = [.int .i64 (xs.getD i 0)] := hM
 subst e
 have h1 := hc 0 _ rfl
 have h2 := hf 0
 have es : ((i : Int)).toNat * (Kd.int .i64).sz + 0 = i := by simp [Kd.int, Kd.scalar]
 rw [es] at h1 h2
 exact ⟨by rw [h1]; simp [rd], h2⟩
theorem R_own0 {α : Type} {d : Kd α} {W : World} {base e : Nat} {ok : Nat → Prop} {v : Value} {xs : List α} (h : d.R e W base ok v xs) (hp : 0 < xs.length) : ∃ g c, v = .slice (some ⟨g, 0, none⟩) xs.length c ∧ base ≤ g ∧ xs.length ≤ c ∧ g < W.heap.size := by
 obtain ⟨_, inner, ⟨_, ho⟩, _⟩ := h
 rcases ho with ⟨_, hn⟩ | ⟨g, cap, cur, hv, hg, hh, hc, _⟩
 ·omega
 ·exact ⟨g, cap, hv, hg, hc, blk_lt hh⟩
theorem cells3 {w : World} {g : Nat} {t : TypeId} {x0 x1 x2 : Value} (h : w.heap[g]? = some (.cells #[x0, x1, x2] t (0, 0))) :
  (w.cell? ⟨g, 0, none⟩ = some x0 ∧ w.cell? ⟨g, 1, none⟩ = some x1 ∧ w.cell? ⟨g, 2, none⟩ = some x2) ∧ w.frozen? ⟨g, 0, none⟩ = false ∧ w.frozen? ⟨g, 1, none⟩ = false ∧ w.frozen? ⟨g, 2, none⟩ = false :=
 ⟨⟨blk_cell h 0, blk_cell h 1, blk_cell h 2⟩, blk_frozen h 0, blk_frozen h 1, blk_frozen h 2⟩
end Go.Proofs.Ytjbpljcfogekhaa.Q
namespace Go.Proofs.Ytjbpljcfogekhaa.Q
open Go.RowKit Ytjbpljcfogekhaa.Core YtjbpljcfogekhaaW.PrintWords YtjbpljcfogekhaaW.PrintLast YtjbpljcfogekhaaW.PrintMore
theorem app_i64 {ops : Array Oper} {rest : List Oper} {o : Oper} {a : Act} {Q : Exit → Act → World → Prop} {W w0 : World} {base : Nat} {ok0 : Nat → Prop} (hgd : o.guard = none) (s x : Operand)
  (ho : o.op = .call { callee := .builtin .append, args := #[s, x], argTypes := #[50, 50] }) (v : Value) (xs : List Int) (p : Int) (hs : a.eval s = v) {B : Nat} (hBW : W.heap.size = B) (hx : a.eval x = .slice (some ⟨B, 0, none⟩) 1 1)
  (HO : Kd.R (Kd.int .i64) 3 W base ok0 v xs) (HB : Below w0.heap.size w0 W) (hb0 : w0.heap.size ≤ base) (hb1 : base ≤ W.heap.size) (hl : xs.length < 1000000)
  (h : ∀ v1 w1, Kd.R (Kd.int .i64) 3 w1 base (fun _ => True) v1 (xs ++ [p]) → Below w0.heap.size w0 w1 → W.grownBy w1 v.ownBlock → (v1.ownBlock = v.ownBlock ∨ ∃ b, v1.ownBlock = some b ∧ W.heap.size ≤ b) → wpList Try.prog ops Q rest (a.put o.dst v1) w1) :
  wpList Try.prog ops Q (o :: rest) a (W.alloc (.cells #[.int .i64 p] 3)) := by
 subst hBW
 refine Kd.R_append (Kd.int .i64) (w0 := w0) w0.heap.size hgd s x 50 3 (.int .i64 0) 8 ho Try.underlying50 info3 rfl (by decide) (by decide) v xs p [.int .i64 p] (fun _ => True) (fun _ => False) hs hx rfl (fun _ hk => hk.elim) (fun _ _ => trivial)
  (Kd.R_lower (Kd.R_mono HO (fun _ _ => trivial)) hb0) HB (Nat.le_trans hb0 hb1) (by omega) ?_
 intro v1 w1 h1 h2 h3 h4
 refine h v1 w1 (Kd.R_raise (d := Kd.int .i64) (b := w0.heap.size) (b' := base) (fun _ _ _ _ hm => hm) h1 (fun k hk => ?_)) h2 h3 h4
 rcases h4 with h4 | ⟨b, hb, hle⟩
 ·rw [h4] at hk
  have := Kd.R_bound HO
  exact (this.1 k hk).2.1
 ·rw [hb] at hk
  cases hk
  omega
theorem app_i64_step {ops : Array Oper} {o : Oper} {a : Act} {K : Act → World → Prop} {Q : Exit → Act → World → Prop} {W w0 : World} {base : Nat} {ok0 : Nat → Prop} (hw : Region.wanted o (yielded ops a.tmps) = true) (s x : Operand)
  (ho : o.op = .call { callee := .builtin .append, args := #[s, x], argTypes := #[50, 50] }) (v : Value) (xs : List Int) (p : Int) (hs : a.eval s = v) {B : Nat} (hBW : W.heap.size = B) (hx : a.eval x = .slice (some ⟨B, 0, none⟩) 1 1)
  (HO : Kd.R (Kd.int .i64) 3 W base ok0 v xs) (HB : Below w0.heap.size w0 W) (hb0 : w0.heap.size ≤ base) (hb1 : base ≤ W.heap.size) (hl : xs.length < 1000000)
  (h : ∀ v1 w1, Kd.R (Kd.int .i64) 3 w1 base (fun _ => True) v1 (xs ++ [p]) → Below w0.heap.size w0 w1 → W.grownBy w1 v.ownBlock → (v1.ownBlock = v.ownBlock ∨ ∃ b, v1.ownBlock = some b ∧ W.heap.size ≤ b) → K (a.put o.dst v1) w1) :
  if Region.wanted o (yielded ops a.tmps) = true then Oper.wp Try.prog o a (W.alloc (.cells #[.int .i64 p] 3)) K Q else K (a.put o.dst undef) (W.alloc (.cells #[.int .i64 p] 3)) := by
 subst hBW
 refine Kd.R_append_step (Kd.int .i64) (w0 := w0) w0.heap.size hw s x 50 3 (.int .i64 0) 8 ho Try.underlying50 info3 rfl (by decide) (by decide) v xs p [.int .i64 p] (fun _ => True) (fun _ => False) hs hx rfl (fun _ hk => hk.elim) (fun _ _ => trivial)
  (Kd.R_lower (Kd.R_mono HO (fun _ _ => trivial)) hb0) HB (Nat.le_trans hb0 hb1) (by omega) ?_
 intro v1 w1 h1 h2 h3 h4
 refine h v1 w1 (Kd.R_raise (d := Kd.int .i64) (b := w0.heap.size) (b' := base) (fun _ _ _ _ hm => hm) h1 (fun k hk => ?_)) h2 h3 h4
 rcases h4 with h4 | ⟨b, hb, hle⟩
 ·rw [h4] at hk
  have := Kd.R_bound HO
  exact (this.1 k hk).2.1
 ·rw [hb] at hk
  cases hk
  omega
end Go.Proofs.Ytjbpljcfogekhaa.Q
namespace Go.Proofs.Ytjbpljcfogekhaa.Q
open Go.RowKit Ytjbpljcfogekhaa.Core YtjbpljcfogekhaaW.PrintWords YtjbpljcfogekhaaW.PrintLast YtjbpljcfogekhaaW.PrintMore
theorem mv_calls (x : S36) (h : 0 ≤ x.f1) (W : World) : Calls Try.prog 23 #[.agg #[.int .i64 x.f0, .int .u64 x.f1, .int .i64 x.f2, .int .i64 x.f3]] W fun e w' => e = .returned (.tuple #[.int .i64 (tk x), .int .i64 (pt x)]) ∧ Below W.heap.size W w' := by
 obtain ⟨k, hk⟩ := (Moves_ev x.f0 x.f1 x.f2 x.f3 h).rounds
 exact code_Moves.calls k x.f0 x.f1 x.f2 x.f3 (tk x) (pt x) W hk
/-- While it looks: the depths lie in block gd, what is to be done in rows of its own. -/
structure LS (w0 w : World) (gd cd : Nat) (ds wk : List Int) (wkv : Value) (wc : World) : Prop where
 kept : Kept w wc (fun k => k = gd)
 bel : Below w0.heap.size w0 wc
 rd : Kd.R (Kd.int .i64) 3 wc w0.heap.size (fun k => k = gd) (.slice (some ⟨gd, 0, none⟩) ds.length cd) ds
 rw : Kd.R (Kd.int .i64) 3 wc w.heap.size (fun _ => True) wkv wk
def PLk (w0 w : World) (gd cd : Nat) (l : List S36) (r : Option (List Int)) (k : Nat) (v3 : Value) (wc : World) : Prop :=
 ∃ wk ds, LS w0 w gd cd ds wk v3 wc ∧ lookF l k wk ds = some r ∧ LookInv l wk ds ∧ negs ds + wk.length ≤ l.length + 1
theorem LS_start {w0 w : World} {gd cd : Nat} {ds0 : List Int} (hb : Below w0.heap.size w0 w) (hds : Kd.R (Kd.int .i64) 3 w w0.heap.size (fun k => k = gd) (.slice (some ⟨gd, 0, none⟩) ds0.length cd) ds0) (hg : w0.heap.size ≤ gd) :
  LS w0 w gd cd (ds0.set 0 0) [0] (.slice (some ⟨w.heap.size, 0, none⟩) 1 1) ((w.setCell ⟨gd, 0, none⟩ (.int .i64 0)).alloc (.cells #[.int .i64 0] 3)) := by
 have e : (w.setCell ⟨gd, 0, none⟩ (.int .i64 0)).heap.size = w.heap.size := by simp [World.setCell]
 have h1 := (Kd.R_put hds 0 0).1
 refine ⟨((Kept.refl _ (fun k => k = gd)).setCell (.inl rfl) _).alloc _, below_alloc (below_set hb hg) _, ?_, ?_⟩
 ·rw [List.length_set]
  exact Kd.R_alloc h1 _
 ·have h2 := R_one (w.setCell ⟨gd, 0, none⟩ (.int .i64 0)) 0 (fun _ => True) trivial w.heap.size (Nat.le_of_eq e.symm)
  rw [e] at h2
  exact h2
theorem rw0 {W : World} {b g c m : Nat} {ok : Nat → Prop} {xs : List Int} (hm : xs.length = m) (h : Kd.R (Kd.int .i64) 3 W b ok (.slice (some ⟨g, 0, none⟩) xs.length c) xs) : Kd.R (Kd.int .i64) 3 W b ok (.slice (some ⟨g, 0, none⟩) m c) xs := hm ▸ h
theorem LS.below {w0 w : World} {gd cd : Nat} {ds wk : List Int} {wkv : Value} {wc wd : World} (L : LS w0 w gd cd ds wk wkv wc) (hb : Below wc.heap.size wc wd) : LS w0 w gd cd ds wk wkv wd :=
 ⟨L.kept.below hb, below_step L.bel hb, Kd.R_below L.rd hb, Kd.R_below L.rw hb⟩
theorem LS.alloc {w0 w : World} {gd cd : Nat} {ds wk : List Int} {wkv : Value} {wc : World} (L : LS w0 w gd cd ds wk wkv wc) (o : Obj) : LS w0 w gd cd ds wk wkv (wc.alloc o) := L.below (below_alloc (Below.refl _ _) o)
theorem LS.pop {w0 w : World} {gd cd gw c3 : Nat} {ds wk0 : List Int} {n : Int} {wc : World} (L : LS w0 w gd cd ds (wk0 ++ [n]) (.slice (some ⟨gw, 0, none⟩) (wk0 ++ [n]).length c3) wc) : LS w0 w gd cd ds wk0 (.slice (some ⟨gw, 0, none⟩) wk0.length c3) wc := by
 refine ⟨L.kept, L.bel, L.rd, ?_⟩
 have h := Kd.R_take (m := wk0.length) L.rw (by simp)
 simpa using h
/-- In the round, behind the reading of the instruction. -/
structure LX (w0 w : World) (gd cd : Nat) (ds wk : List Int) (wkv : Value) (x : S36) (v5 : Value) (wc : World) : Prop where
 ls : LS w0 w gd cd ds wk wkv wc
 b5 : ∃ g5, v5 = .pointer (some ⟨g5, 0, none⟩) ∧ wc.heap[g5]? = some (.cells #[.int .i64 x.f0, .int .u64 x.f1, .int .i64 x.f2, .int .i64 x.f3] 36 (0, 0)) ∧ w.heap.size ≤ g5
theorem LX.below {w0 w : World} {gd cd : Nat} {ds wk : List Int} {wkv v5 : Value} {x : S36} {wc wd : World} (L : LX w0 w gd cd ds wk wkv x v5 wc) (hb : Below wc.heap.size wc wd) : LX w0 w gd cd ds wk wkv x v5 wd :=
 ⟨L.ls.below hb, let ⟨g, e, h, hg⟩ := L.b5; ⟨g, e, blk_below h hb, hg⟩⟩
theorem LX.alloc {w0 w : World} {gd cd : Nat} {ds wk : List Int} {wkv v5 : Value} {x : S36} {wc : World} (L : LX w0 w gd cd ds wk wkv x v5 wc) (o : Obj) : LX w0 w gd cd ds wk wkv x v5 (wc.alloc o) := L.below (below_alloc (Below.refl _ _) o)
/-- .. and the list of where it leads. -/
structure LT (w0 w : World) (gd cd : Nat) (ds wk : List Int) (wkv : Value) (x : S36) (v5 : Value) (tl : List Int) (v9 : Value) (wc : World) : Prop where
 lx : LX w0 w gd cd ds wk wkv x v5 wc
 rt : Kd.R (Kd.int .i64) 3 wc w.heap.size (fun _ => True) v9 tl
 ne : ∀ k, wkv.ownBlock = some k → v9.ownBlock ≠ some k
theorem LT.below {w0 w : World} {gd cd : Nat} {ds wk tl : List Int} {wkv v5 v9 : Value} {x : S36} {wc wd : World} (L : LT w0 w gd cd ds wk wkv x v5 tl v9 wc) (hb : Below wc.heap.size wc wd) : LT w0 w gd cd ds wk wkv x v5 tl v9 wd :=
 ⟨L.lx.below hb, Kd.R_below L.rt hb, L.ne⟩
theorem LT.app {w0 w : World} {gd cd : Nat} {ds wk tl : List Int} {wkv v5 v9 : Value} {x : S36} {W w1 : World} {v1 : Value} {p : Int} (L : LT w0 w gd cd ds wk wkv x v5 tl v9 W) (hg0 : gd < w.heap.size)
  (h1 : Kd.R (Kd.int .i64) 3 w1 w.heap.size (fun _ => True) v1 (tl ++ [p])) (h2 : Below w0.heap.size w0 w1) (h3 : W.grownBy w1 v9.ownBlock) (h4 : v1.ownBlock = v9.ownBlock ∨ ∃ b, v1.ownBlock = some b ∧ W.heap.size ≤ b) :
  LT w0 w gd cd ds wk wkv x v5 (tl ++ [p]) v1 w1 := by
 have hB := Kd.R_bound L.rt
 have hW := Kd.R_bound L.lx.ls.rw
 have hbase : ∀ k, v9.ownBlock = some k → w.heap.size ≤ k := fun k hk => (hB.1 k hk).2.1
 obtain ⟨g5, e5, b5, hg5⟩ := L.lx.b5
 refine ⟨⟨⟨L.lx.ls.kept.of_grown h3 (fun k hk => .inr (hbase k hk)), h2, Kd.R_grown L.lx.ls.rd h3 (fun k hk e => ?_), Kd.R_grown2 L.lx.ls.rw rfl h3 (fun k hk e => L.ne k e.symm hk)⟩, ⟨g5, e5, blk_grown b5 h3 (fun e => ?_), hg5⟩⟩, h1, fun k hk e => ?_⟩
 ·subst hk
  have := hbase k e.symm
  omega
 ·obtain ⟨_, _, q, hq, cells, hc⟩ := (hB.1 g5 e.symm).2
  have : q = 3 := by simpa [Kd.int, Kd.scalar] using hq
  subst this
  rw [b5] at hc
  injection hc with hc
  injection hc with _ hc _
  exact absurd hc (by decide)
 ·rcases h4 with h4 | ⟨b, hb, hle⟩
  ·exact L.ne k hk (by rw [← h4]; exact e)
  ·rw [hb] at e
   cases e
   have := (hW.1 _ hk).2.2.1
   omega
theorem LT.appw {w0 w : World} {gd cd : Nat} {ds wk tl : List Int} {wkv v5 v9 : Value} {x : S36} {W w1 : World} {v1 : Value} {p : Int} (L : LT w0 w gd cd ds wk wkv x v5 tl v9 W) (hg0 : gd < w.heap.size)
  (h1 : Kd.R (Kd.int .i64) 3 w1 w.heap.size (fun _ => True) v1 (wk ++ [p])) (h2 : Below w0.heap.size w0 w1) (h3 : W.grownBy w1 wkv.ownBlock) (h4 : v1.ownBlock = wkv.ownBlock ∨ ∃ b, v1.ownBlock = some b ∧ W.heap.size ≤ b) :
  LT w0 w gd cd ds (wk ++ [p]) v1 x v5 tl v9 w1 := by
 have hB := Kd.R_bound L.lx.ls.rw
 have hT := Kd.R_bound L.rt
 have hbase : ∀ k, wkv.ownBlock = some k → w.heap.size ≤ k := fun k hk => (hB.1 k hk).2.1
 obtain ⟨g5, e5, b5, hg5⟩ := L.lx.b5
 refine ⟨⟨⟨L.lx.ls.kept.of_grown h3 (fun k hk => .inr (hbase k hk)), h2, Kd.R_grown L.lx.ls.rd h3 (fun k hk e => ?_), h1⟩, ⟨g5, e5, blk_grown b5 h3 (fun e => ?_), hg5⟩⟩, Kd.R_grown2 L.rt rfl h3 (fun k hk e => L.ne k hk e.symm), fun k hk e => ?_⟩
 ·subst hk
  have := hbase k e.symm
  omega
 ·obtain ⟨_, _, q, hq, cells, hc⟩ := (hB.1 g5 e.symm).2
  have : q = 3 := by simpa [Kd.int, Kd.scalar] using hq
  subst this
  rw [b5] at hc
  injection hc with hc
  injection hc with _ hc _
  exact absurd hc (by decide)
 ·rcases h4 with h4 | ⟨b, hb, hle⟩
  ·exact L.ne k (by rw [← h4]; exact hk) e
  ·rw [hb] at hk
   cases hk
   have := (hT.1 _ e).2.2.1
   omega
theorem LT.set {w0 w : World} {gd cd : Nat} {ds wk tl : List Int} {wkv v5 v9 : Value} {x : S36} {W : World} (L : LT w0 w gd cd ds wk wkv x v5 tl v9 W) (hg0 : gd < w.heap.size) (hg1 : w0.heap.size ≤ gd) (k : Nat) (d : Int) :
  LT w0 w gd cd (ds.set k d) wk wkv x v5 tl v9 (W.setCell ⟨gd, k, none⟩ (.int .i64 d)) := by
 obtain ⟨g5, e5, b5, hg5⟩ := L.lx.b5
 have far : ∀ {v : Value} {xs : List Int}, Kd.R (Kd.int .i64) 3 W w.heap.size (fun _ => True) v xs → Kd.R (Kd.int .i64) 3 (W.setCell ⟨gd, k, none⟩ (.int .i64 d)) w.heap.size (fun _ => True) v xs := fun h =>
  Kd.R_mono (Kd.R_far (p := ⟨gd, k, none⟩) (Kd.R_mono (ok' := fun k => k ≠ gd) (Kd.R_bound h) (fun k hk => by have := hk.2.1; omega)) (fun _ hk => hk) _) (fun _ _ => trivial)
 have hp := (Kd.R_put L.lx.ls.rd (k : Int) d).1
 refine ⟨⟨⟨L.lx.ls.kept.setCell (.inl rfl) _, below_set L.lx.ls.bel hg1, ?_, far L.lx.ls.rw⟩, ⟨g5, e5, blk_far b5 (by show g5 ≠ gd; omega) _, hg5⟩⟩, far L.rt, L.ne⟩
 rw [List.length_set]
 have e : ((k : Int)).toNat = k := by simp
 rw [e] at hp
 exact hp
/-- In the inner loop. -/
def PIn (w0 w : World) (gd cd : Nat) (l : List S36) (x : S36) (v5 : Value) (tl : List Int) (v9 : Value) (dd : Int) (V : Option (List Int × List Int)) (k : Nat) (v3 v96 : Value) (wc : World) : Prop :=
 ∃ (ds wk : List Int) (j : Nat), v96 = .int .i64 j ∧ j + k = tl.length ∧ visitS l.length dd (tl.drop j) ds wk = V ∧ LT w0 w gd cd ds wk v3 x v5 tl v9 wc ∧ negs ds + wk.length ≤ l.length + 1 ∧ ds.length = l.length
def PInE (w0 w : World) (gd cd : Nat) (x : S36) (v5 : Value) (tl : List Int) (v9 : Value) (V : Option (List Int × List Int)) (v3 : Value) (wc : World) : Prop :=
 ∃ (ds wk : List Int), V = some (ds, wk) ∧ LT w0 w gd cd ds wk v3 x v5 tl v9 wc
/-- What is known of the program ahead of the loop. -/
structure LK (w0 w : World) (gp bm gd cd : Nat) (l : List S36) (vl : Value) : Prop where
 bp : w.heap[gp]? = some (.cells #[vl, .map (some bm), .slice (some ⟨gd, 0, none⟩) l.length cd] 78 (0, 0))
 rl : Rk k36 (fun k => k = gd) w vl l
 mp : Mp w bm l.length (findS l)
 ne : gp ≠ gd ∧ bm ≠ gd ∧ w0.heap.size ≤ gd ∧ gd < w.heap.size
 ok : okS l = true
 len : 0 < l.length ∧ l.length ≤ 1000
 arg : ∀ x ∈ l, 0 ≤ x.f1 ∧ x.f1 < 18446744073709551616
set_option maxHeartbeats 4000000 in
set_option maxRecDepth 100000 in
theorem look_calls (w0 w : World) (gp bm gd cd : Nat) (l : List S36) (vl : Value) (hK : LK w0 w gp bm gd cd l vl) (hb : Below w0.heap.size w0 w) (ds0 : List Int) (hds : Kd.R (Kd.int .i64) 3 w w0.heap.size (fun k => k = gd) (.slice (some ⟨gd, 0, none⟩) l.length cd) ds0) (hlen : ds0.length = l.length) (hst : ds0.set 0 0 = Core.start l)
  (f : Nat) (r : Option (List Int)) (hr : lookF l f [0] (Core.start l) = some r) :
  Calls Try.prog 49 #[.pointer (some ⟨gp, 0, none⟩)] w fun e w' => e = .returned (.bool r.isSome) ∧ Kept w w' (fun k => k = gd) ∧ Below w0.heap.size w0 w' ∧ ∀ ds, r = some ds → Kd.R (Kd.int .i64) 3 w' w0.heap.size (fun k => k = gd) (.slice (some ⟨gd, 0, none⟩) l.length cd) ds ∧ ds.length = l.length := by
 have hu78 := Try.underlying78
 have hu36 := Try.underlying36
 have hds' := Aside0.mk hds
 have hlen' := Aside0.mk hlen
 replace hst := Aside0.mk hst
 replace hr := Aside0.mk hr
 have hpos := hK.len.1
 have hsz := hb.size
 have gne := hK.ne
 replace hb := Aside0.mk hb
 have hlK := Aside0.mk hK.len
 obtain ⟨A0, c0, rfl, hc0, hC0⟩ := hK.rl.now
 obtain ⟨⟨z0, z1, z2⟩, -⟩ := cells3 hK.bp
 obtain ⟨y0, x0⟩ := R_cell hds (i := 0) (by omega)
 replace hK := Aside0.mk hK
 clear hds hC0 hc0
 have hgl : gd < w.heap.size := gne.2.2.2
 have hgp : gp < w.heap.size := blk_lt hK.out.bp
 have hw1 : (0 : Int) < (l.length : Int) := by omega
 clear hlen
 go_enter Try.func49, Try.ntmps49
 go_upto_region 3 with fail
 go_step3
 go_upto_region 3 with fail
 go_step3
 go_upto_region 3 with fail
 have LS0 := Aside0.mk (show LS w0 w gd cd (Core.start l) [0] (.slice (some ⟨w.heap.size, 0, none⟩) 1 1) ((w.setCell ⟨gd, 0, none⟩ (.int .i64 0)).alloc (.cells #[.int .i64 0] 3)) from by
  have h := hds'.out
  rw [← hlen'.out] at h
  rw [← hst.out]
  exact LS_start hb.out h gne.2.2.1)
 have inv0 := Aside0.mk (start_inv hpos)
 have neg0 := Aside0.mk (show negs (Core.start l) + [(0 : Int)].length ≤ l.length + 1 from by
  have : negs (Core.start l) ≤ (Core.start l).length := List.countP_le_length
  have e : (Core.start l).length = l.length := by simp [Core.start]
  simp only [List.length_singleton]
  omega)
 generalize (w.setCell ⟨gd, 0, none⟩ (.int .i64 0)).alloc (.cells #[.int .i64 0] 3) = W1 at *
 clear z0 z1 z2 y0 x0
 go_loopg [3] f (PLk w0 w gd cd l r)
 case atStart => exact ⟨[0], Core.start l, LS0.out, hr.out, inv0.out, neg0.out⟩
 case round =>
  clear LS0 inv0 neg0 hr hst hds' hlen'
  obtain ⟨wk, ds, L, hlk, inv, hng⟩ := hrel
  cases gk with
  | zero => exact absurd hlk (by simp [lookF])
  | succ gk =>
   rw [lookF] at hlk
   by_cases hw : wk.length = 0
   ·obtain ⟨A3, c3, rfl⟩ := Kd.R_slice L.rw
    rw [if_pos hw] at hlk
    obtain rfl := Option.some.inj hlk
    have hlt : ¬ (0 : Int) < (wk.length : Int) := by omega
    replace L := Aside0.mk L
    replace inv := Aside0.mk inv
    clear hw hlk hng
    go_wp2
    go_ret
    exact ⟨rfl, L.out.kept, L.out.bel, fun ds' e => by obtain rfl := Option.some.inj e; exact ⟨by have h := L.out.rd; rw [inv.out.len] at h; exact h, inv.out.len⟩⟩
   ·rw [if_neg hw] at hlk
    obtain ⟨wk0, k, rfl⟩ : ∃ wk0 k, wk = wk0 ++ [k] := ⟨wk.dropLast, wk.getLast (by intro h; simp [h] at hw), (List.dropLast_concat_getLast _).symm⟩
    obtain ⟨n, d, rfl, hn, h0⟩ := inv.work k (by simp)
    have hrd : rd (wk0 ++ [(n : Int)]) (((wk0 ++ [(n : Int)]).length : Int) - 1) = n := by
     unfold rd; simp
    rw [hrd, List.dropLast_concat] at hlk
    clear hrd
    obtain ⟨gw, c3, rfl, hgw, hc3, hgwl⟩ := R_own0 L.rw (by simp)
    obtain ⟨m, hm⟩ : ∃ m, (wk0 ++ [(n : Int)]).length = m := ⟨_, rfl⟩
    have hm' : m = wk0.length + 1 := by rw [← hm]; simp
    have cw := (R_cell (rw0 hm L.rw) (i := m - 1) (by rw [hm']; simp)).1
    have ew : rd (wk0 ++ [(n : Int)]) ((m - 1 : Nat) : Int) = n := by unfold rd; simp [hm']
    rw [ew] at cw
    have hm1 : (1 : Int) ≤ (m : Int) := by omega
    have hm2 : (m : Int) ≤ 1002 := by have := hlK.out.2; omega
    have hlt : (0 : Int) < (m : Int) := by omega
    have gwd : gw ≠ gd := by omega
    rw [hm]
    replace L := Aside0.mk L
    replace inv := Aside0.mk inv
    replace hlk := Aside0.mk hlk
    replace hng := Aside0.mk hng
    replace hm := Aside0.mk hm
    replace hm' := Aside0.mk hm'
    clear ew hw
    go_upto_region 4 with fail
    go_cut [4] from 18 (fun v4 wx => v4 = .int .i64 n ∧ wr = wx)
    case first =>
     go_wp2
     go_meet
     case rel => exact ⟨rfl, rfl⟩
    case rest =>
     obtain ⟨rfl, rfl⟩ := hcut
     clear cw
     go_upto_region 5 with fail
     go_cut [3] from 18 (fun v3 wx => v3 = .slice (some ⟨gw, 0, none⟩) wk0.length c3 ∧ wr = wx)
     case first =>
      have e1 : m - 1 = wk0.length := by have := hm'.out; omega
      replace e1 := Aside0.mk e1
      have hc3' : m ≤ c3 := by have := hm.out; omega
      go_wp2
      go_meet
      case rel => exact ⟨by simp [e1.out], rfl⟩
     case rest =>
      obtain ⟨rfl, rfl⟩ := hcut
      replace L := Aside0.mk (L.out.pop)
      have hnl : n < l.length := by rw [← inv.out.len]; exact (List.getElem?_eq_some_iff.1 hn).1
      obtain ⟨x, hx⟩ : ∃ x, l[n]? = some x := ⟨_, List.getElem?_eq_getElem hnl⟩
      have hnl' : (n : Int) < (l.length : Int) := by omega
      have hn1000 : (n : Int) ≤ 1000 := by have := hlK.out.2; omega
      have hd32 : d ≤ 32 := (Reach_range hK.out.ok (inv.out.sound n d hn h0)).2
      obtain ⟨A0', c0', e0, -, hC0⟩ := (hK.out.rl.kept L.out.kept).now
      cases e0
      obtain ⟨ad, rfl, q0, q1, q2, q3⟩ := at_T36 hC0 (n : Int) (by omega) (by omega)
      rw [rdT_of hx] at q0 q1 q2 q3
      simp only [Int.toNat_natCast] at q0 q1 q2 q3
      obtain ⟨⟨z0, z1, z2⟩, -⟩ := cells3 (blk_kept hK.out.bp L.out.kept hK.out.ne.1)
      rw [rdT_of hx, rd_of hn] at hlk
      replace hx := Aside0.mk hx
      replace hn := Aside0.mk hn
      clear hC0 hnl
      go_upto_region 6 with fail
      go_cut [5] from 32 (LX w0 w gd cd ds wk0 (.slice (some ⟨gw, 0, none⟩) wk0.length c3) x)
      case first =>
       go_wp2
       go_meet
       case rel => exact ⟨L.out.alloc _, _, rfl, blk_new _ _, L.out.kept.1⟩
      case rest =>
       clear q0 q1 q2 q3 z0 z1 z2 L
       obtain ⟨g5, e5, b5, hg5⟩ := hcut.b5
       subst e5
       replace hcut := Aside0.mk hcut
       obtain ⟨⟨q0, q1, q2, q3⟩, -⟩ := cells4 b5
       have hf1 := Aside0.mk (hK.out.arg x (List.mem_of_getElem? hx.out)).1
       clear b5
       go_upto_region 7 with fail
       go_cut [6, 7] from 39 (fun v6 v7 wx => v6 = .int .i64 (tk x) ∧ v7 = .int .i64 (pt x) ∧ LX w0 w gd cd ds wk0 (.slice (some ⟨gw, 0, none⟩) wk0.length c3) x (.pointer (some ⟨g5, 0, none⟩)) wx)
       case first =>
        go_wp2_with (first
         | (go_at_call 23; (with_reducible refine (mv_calls x hf1.out _).mono ?_); rintro e w5 ⟨rfl, hB⟩))
        go_meet
        case rel => exact ⟨rfl, rfl, hcut.out.below hB⟩
       case rest =>
        clear q0 q1 q2 q3
        obtain ⟨rfl, rfl, X⟩ := hcut
        clear hcut
        have t1 := tk_le (x := x)
        have t2 := tk_ge (x := x)
        have t3 := pt_le (x := x)
        have t4 := pt_ge (x := x)
        have hnd : n < ds.length := by rw [inv.out.len]; omega
        obtain ⟨y0, -⟩ := R_cell X.ls.rd (i := n) hnd
        rw [rd_of hn.out] at y0
        obtain ⟨⟨z0, z1, z2⟩, -⟩ := cells3 (blk_kept hK.out.bp X.ls.kept hK.out.ne.1)
        replace X := Aside0.mk X
        go_upto_region 8 with fail
        go_cut [8] from 44 (fun v8 wx => v8 = .int .i64 (d - tk x + pt x) ∧ wc = wx)
        case first =>
         go_wp2
         go_meet
         case rel => exact ⟨rfl, rfl⟩
        case rest =>
         obtain ⟨rfl, rfl⟩ := hcut
         go_upto_region 9 with fail
         go_cut [67] from 55 (fun v67 wx => v67 = .bool (decide (d < tk x ∨ 32 < d - tk x + pt x)) ∧ wc = wx)
         case first =>
          by_cases h1 : d < tk x
          ·have h2 := Aside0.mk (show decide (d < tk x ∨ 32 < d - tk x + pt x) = true from decide_eq_true (.inl h1))
           have d1 : decide (d < tk x) = true := by simpa using h1
           go_wp2
           go_meet
           case rel => exact ⟨by rw [h2.out], rfl⟩
          ·by_cases h3 : 32 < d - tk x + pt x
           ·have h2 := Aside0.mk (show decide (d < tk x ∨ 32 < d - tk x + pt x) = true from decide_eq_true (.inr h3))
            have d1 : decide (d < tk x) = false := by simpa using h1
            have d3 : decide (32 < d - tk x + pt x) = true := by simpa using h3
            go_wp2
            go_meet
            case rel => exact ⟨by rw [h2.out], rfl⟩
           ·have h2 := Aside0.mk (show decide (d < tk x ∨ 32 < d - tk x + pt x) = false from decide_eq_false (by omega))
            have d1 : decide (d < tk x) = false := by simpa using h1
            have d3 : decide (32 < d - tk x + pt x) = false := by simpa using h3
            go_wp2
            go_meet
            case rel => exact ⟨by rw [h2.out], rfl⟩
         case rest =>
          obtain ⟨rfl, rfl⟩ := hcut
          clear y0 z0 z1 z2
          by_cases hbad : d < tk x ∨ 32 < d - tk x + pt x
          ·rw [decide_eq_true hbad]
           have hr' : r = none := by have h := hlk.out; rw [if_pos hbad] at h; exact (Option.some.inj h).symm
           subst hr'
           clear hbad
           go_wp2
           rw [Exit.noGoto_ret]
           go_ret
           exact ⟨rfl, X.out.ls.kept, X.out.ls.bel, fun ds e => by cases e⟩
          ·rw [decide_eq_false hbad]
           have hlk2 := hlk.out
           rw [if_neg hbad] at hlk2
           replace hlk2 := Aside0.mk hlk2
           have hb1 : tk x ≤ d := by omega
           have hb2 : d - tk x + pt x ≤ 32 := by omega
           clear hlk hbad
           go_upto_region 11 with fail
           go_cut [9] from 68 (LT w0 w gd cd ds wk0 (.slice (some ⟨gw, 0, none⟩) wk0.length c3) x (.pointer (some ⟨g5, 0, none⟩)) [])
           case first =>
            go_wp2
            go_meet
            case rel => exact ⟨X.out, Kd.R_nil _ _ _ _ _, fun k _ e => by simp [Value.ownBlock] at e⟩
           case rest =>
            clear X
            obtain ⟨g5', e5, b5, hg5'⟩ := hcut.lx.b5
            cases e5
            obtain ⟨⟨q0, q1, q2, q3⟩, -⟩ := cells4 b5
            clear b5
            replace hcut := Aside0.mk hcut
            go_upto_region 12 with fail
            go_cut [75] from 68 (fun v75 wx => v75 = .bool (jmp x) ∧ wc = wx)
            case first =>
             by_cases h1 : x.f0 = 21
             ·have h2 := Aside0.mk (show jmp x = true by unfold jmp; simp [h1])
              have d1 : (x.f0 == 21) = true := by simpa using h1
              clear h1
              go_wp2
              go_meet
              case rel => exact ⟨by rw [h2.out], rfl⟩
             ·have d1 : (x.f0 == 21) = false := by simpa using h1
              by_cases h3 : x.f0 = 22
              ·have h2 := Aside0.mk (show jmp x = true by unfold jmp; simp [h3])
               have d3 : (x.f0 == 22) = true := by simpa using h3
               clear h1 h3
               go_wp2
               go_meet
               case rel => exact ⟨by rw [h2.out], rfl⟩
              ·have h2 := Aside0.mk (show jmp x = false by unfold jmp; simp [h1, h3])
               have d3 : (x.f0 == 22) = false := by simpa using h3
               clear h1 h3
               go_wp2
               go_meet
               case rel => exact ⟨by rw [h2.out], rfl⟩
            case rest =>
             obtain ⟨rfl, rfl⟩ := hcut
             go_upto_if 75 with fail
             go_cut [9] from 68 (LT w0 w gd cd ds wk0 (.slice (some ⟨gw, 0, none⟩) wk0.length c3) x (.pointer (some ⟨g5, 0, none⟩)) (if jmp x then [(((findS l x.f1).getD 0 : Nat) : Int)] else []))
             case first =>
              cases hj : jmp x with
              | false =>
               go_wp2
               go_meet
               case rel => exact (by rw [if_neg (by rw [hj]; decide)]; exact hcut.out)
              | true =>
               have T := hcut
               obtain ⟨⟨z0, z1, z2⟩, -⟩ := cells3 (blk_kept hK.out.bp T.out.lx.ls.kept hK.out.ne.1)
               have hlook := (hK.out.mp.kept T.out.lx.ls.kept hK.out.ne.2.1).look hf1.out (hK.out.arg x (List.mem_of_getElem? hx.out)).2
               have hlook' : (Instr.lookup 76 (.map (some bm)) (.int .u64 x.f1) false).run Try.prog wc.drew = .ok (.int .i64 ((findS l x.f1).getD 0 : Nat)) wc.drew :=
                (Mp.heap (W := wc) (W1 := wc.drew) (hK.out.mp.kept T.out.lx.ls.kept hK.out.ne.2.1) rfl).look hf1.out (hK.out.arg x (List.mem_of_getElem? hx.out)).2
               have hsz2 : w.heap.size ≤ wc.heap.size := T.out.lx.ls.kept.1
               replace hsz2 := Aside0.mk hsz2
               have hsz' := Aside0.mk hsz
               clear hsz
               go_wp2
               go_region_law (refine app_i64_step rfl (.tmp 76) (.tmp 84) rfl u9 [] _ rfl rfl rfl (Kd.R_drew T.out.rt) (below_drew1 T.out.lx.ls.bel) hsz'.out hsz2.out (of_decide_eq_true rfl) ?_; intro v1 w1 h1 h2 h3 h4)
               all_goals
                go_wp2
                go_meet
                case rel => exact (by rw [if_pos hj]; exact (T.out.below (below_drew1 (Below.refl _ _))).app hgl h1 h2 h3 h4)
             case rest =>
              clear q0 q1 q2 q3
              obtain ⟨g5', e5, b5, hg5'⟩ := hcut.lx.b5
              cases e5
              obtain ⟨⟨q0, q1, q2, q3⟩, -⟩ := cells4 b5
              clear b5
              replace hcut := Aside0.mk hcut
              go_upto_region 14 with fail
              go_cut [88] from 86 (fun v88 wx => v88 = .bool (x.f0 != 21) ∧ wc = wx)
              case first =>
               go_wp2
               go_meet
               case rel => exact ⟨rfl, rfl⟩
              case rest =>
               obtain ⟨rfl, rfl⟩ := hcut
               go_upto_if 88 with fail
               go_cut [9] from 68 (LT w0 w gd cd ds wk0 (.slice (some ⟨gw, 0, none⟩) wk0.length c3) x (.pointer (some ⟨g5, 0, none⟩)) (toS l n x))
               case first =>
                by_cases h21 : x.f0 = 21
                ·have d1 : (x.f0 != 21) = false := by simpa using h21
                 have et := Aside0.mk (show toS l n x = (if jmp x then [(((findS l x.f1).getD 0 : Nat) : Int)] else []) by unfold toS; rw [if_pos h21]; simp)
                 clear h21
                 go_wp2
                 go_meet
                 case rel => exact (by rw [et.out]; exact hcut.out)
                ·have d1 : (x.f0 != 21) = true := by simpa using h21
                 have et := Aside0.mk (show toS l n x = (if jmp x then [(((findS l x.f1).getD 0 : Nat) : Int)] else []) ++ [(n : Int) + 1] by unfold toS; rw [if_neg h21])
                 have hsz2 : w.heap.size ≤ wc.heap.size := hcut.out.lx.ls.kept.1
                 have hlen9 := Aside0.mk (show (if jmp x then [(((findS l x.f1).getD 0 : Nat) : Int)] else []).length < 1000000 by split <;> simp)
                 replace hsz2 := Aside0.mk hsz2
                 have hsz' := Aside0.mk hsz
                 clear hsz h21
                 go_wp2_with (first
                  | (at_builtin; refine app_i64 rfl (.tmp 89) (.tmp 92) rfl u9 _ _ rfl rfl rfl hcut.out.rt hcut.out.lx.ls.bel hsz'.out hsz2.out hlen9.out ?_; intro v1 w1 h1 h2 h3 h4))
                 go_meet
                 case rel => exact (by rw [et.out]; exact hcut.out.app hgl h1 h2 h3 h4)
               case rest =>
                clear q0 q1 q2 q3
                have T := hcut
                replace T := Aside0.mk T
                obtain ⟨A9, c9, e9⟩ := Kd.R_slice T.out.rt
                subst e9
                go_upto_block 2 with fail
                have hts : ∀ k ∈ toS l n x, 0 ≤ k ∧ k ≤ (l.length : Int) := fun k hk => by
                 obtain ⟨j, rfl, hj⟩ := toS_succs k hk
                 have := succs_le hx.out hj
                 omega
                have hdd0 : 0 ≤ d - tk x + pt x := by
                 have := pt_nonneg (okS_tk hK.out.ok hx.out)
                 omega
                have hspec : visitS l.length (d - tk x + pt x) (toS l n x) ds wk0 = none ∨ ∃ ds' wk', visitS l.length (d - tk x + pt x) (toS l n x) ds wk0 = some (ds', wk') ∧ LookInv l wk' ds' ∧ negs ds' + wk'.length = negs ds + wk0.length := by
                 have inv0 : LookInv l wk0 ds := ⟨inv.out.len, inv.out.sound, inv.out.neg, inv.out.zero, fun k hk => inv.out.work k (by simp [hk])⟩
                 have hR := inv.out.sound n d hn.out h0
                 rcases visitS_spec (n := n) hdd0 (fun j hj => Reach.step hR hx.out hb1 hb2 hj) (fun j hj => succs_le hx.out hj) (toS l n x) ds wk0 toS_succs inv0 with h | ⟨ds', wk', h1, h2, _, _, _, _, h7⟩
                 ·exact .inl h.1
                 ·exact .inr ⟨ds', wk', h1, h2, h7⟩
                have htl : (toS l n x).length ≤ 2 := by unfold toS; split <;> split <;> simp
                have hlk3 := hlk2.out
                generalize toS l n x = tl at *
                generalize d - tk x + pt x = dd at *
                obtain ⟨V, hV⟩ : ∃ V, visitS l.length dd tl ds wk0 = V := ⟨_, rfl⟩
                rw [hV] at hlk3 hspec
                replace hspec := Aside0.mk hspec
                replace hlk3 := Aside0.mk hlk3
                replace hV := Aside0.mk hV
                replace hts := Aside0.mk hts
                clear t1 t2 t3 t4 hb1 hb2 hd32 hlk2 hm1 hm2 hlt
                go_cut [3] from 97 (PInE w0 w gd cd x (.pointer (some ⟨g5, 0, none⟩)) tl (.slice A9 tl.length c9) V)
                case first =>
                 have hP0 := Aside0.mk (show negs ds + wk0.length ≤ l.length + 1 by have := hng.out; rw [List.length_append] at this; omega)
                 go_wp2
                 go_loopg [3, 96] tl.length (PIn w0 w gd cd l x (.pointer (some ⟨g5, 0, none⟩)) tl (.slice A9 tl.length c9) dd V)
                 case atStart => exact ⟨ds, wk0, 0, rfl, by omega, hV.out, T.out, hP0.out, inv.out.len⟩
                 case round =>
                  clear hP0 hV T
                  obtain ⟨ds1, wk1, j, rfl, hjk, hvis, T, hng1, hlen1⟩ := hrel
                  obtain ⟨A3, c3', rfl⟩ := Kd.R_slice T.lx.ls.rw
                  replace T := Aside0.mk T
                  cases gk with
                  | zero =>
                   have ej : j = tl.length := by omega
                   subst ej
                   rw [List.drop_length, visitS] at hvis
                   replace hvis := Aside0.mk hvis
                   have hlt : ¬ (tl.length : Int) < (tl.length : Int) := by omega
                   clear hjk
                   go_wp2
                   go_meet
                   case rel => exact ⟨ds1, wk1, hvis.out.symm, T.out⟩
                  | succ gk =>
                   have hjl : j < tl.length := by omega
                   have hlt : (j : Int) < (tl.length : Int) := by omega
                   obtain ⟨k, hk⟩ : ∃ k, tl[j]? = some k := ⟨_, List.getElem?_eq_getElem hjl⟩
                   have hdr : tl.drop j = k :: tl.drop (j + 1) := by
                    rw [List.drop_eq_getElem_cons hjl]
                    rw [List.getElem?_eq_getElem hjl] at hk
                    rw [Option.some.inj hk]
                   have hkb := hts.out k (List.mem_of_getElem? hk)
                   obtain ⟨kn, rfl⟩ := Int.eq_ofNat_of_zero_le hkb.1
                   rw [hdr, visitS] at hvis
                   obtain ⟨g9, c9', e9, -, -, -⟩ := R_own0 T.out.rt (by omega)
                   obtain ⟨rfl, rfl⟩ : A9 = some ⟨g9, 0, none⟩ ∧ c9 = c9' := by
                    injection e9 with a b c
                    exact ⟨a, c⟩
                   obtain ⟨y0, -⟩ := R_cell T.out.rt (i := j) hjl
                   rw [rd_of hk] at y0
                   replace hjk := Aside0.mk hjk
                   replace hdr := Aside0.mk hdr
                   replace hk := Aside0.mk hk
                   have hj2 : (j : Int) ≤ 2 := by omega
                   clear e9
                   go_upto_region 18 with fail
                   go_cut [11] from 97 to 138 (fun v11 wx => v11 = .int .i64 (kn : Int) ∧ wr = wx)
                   case first =>
                    go_wp2
                    go_meet
                    case rel => exact ⟨rfl, rfl⟩
                   case rest =>
                    obtain ⟨rfl, rfl⟩ := hcut
                    clear y0
                    obtain ⟨⟨z0, z1, z2⟩, -⟩ := cells3 (blk_kept hK.out.bp T.out.lx.ls.kept hK.out.ne.1)
                    by_cases h1 : (kn : Int) = l.length
                    ·rw [if_pos h1] at hvis
                     subst hvis
                     have hr' : r = none := (Option.some.inj hlk3.out).symm
                     subst hr'
                     have d1 : ((kn : Int) == (l.length : Int)) = true := by simpa using h1
                     replace h1 := Aside0.mk h1
                     go_wp2
                     go_ret
                     exact ⟨rfl, T.out.lx.ls.kept, T.out.lx.ls.bel, fun ds e => by cases e⟩
                    ·rw [if_neg h1] at hvis
                     have d1 : ((kn : Int) == (l.length : Int)) = false := by simpa using h1
                     have hkl : kn < ds1.length := by rw [hlen1]; omega
                     have hkl' : (kn : Int) < (ds1.length : Int) := by omega
                     obtain ⟨y0, f0⟩ := R_cell T.out.lx.ls.rd (i := kn) hkl
                     obtain ⟨e, he⟩ : ∃ e, rd ds1 (kn : Int) = e := ⟨_, rfl⟩
                     rw [he] at hvis y0
                     replace he := Aside0.mk he
                     replace h1 := Aside0.mk h1
                     by_cases h2 : e = dd
                     ·rw [if_pos h2] at hvis
                      replace hvis := Aside0.mk hvis
                      have d2 : (e == dd) = true := by simpa using h2
                      replace h2 := Aside0.mk h2
                      go_wp2
                      go_roundg gk
                      case measure => omega
                      case rel => exact ⟨ds1, wk1, j + 1, by go_num, by have := hjk.out; omega, hvis.out, T.out, hng1, hlen1⟩
                     ·rw [if_neg h2] at hvis
                      have d2 : (e == dd) = false := by simpa using h2
                      by_cases h3 : e ≥ 0
                      ·rw [if_pos h3] at hvis
                       subst hvis
                       have hr' : r = none := (Option.some.inj hlk3.out).symm
                       subst hr'
                       have h3' : 0 ≤ e := h3
                       clear h2 h3
                       go_wp2
                       go_ret
                       exact ⟨rfl, T.out.lx.ls.kept, T.out.lx.ls.bel, fun ds e => by cases e⟩
                      ·rw [if_neg h3] at hvis
                       have h3' : ¬ 0 ≤ e := h3
                       have en : ((kn : Int)).toNat = kn := by simp
                       rw [en] at hvis
                       replace hvis := Aside0.mk hvis
                       have hneg := Aside0.mk (negs_set (d := dd) hkl (by rw [he.out]; omega) hdd0)
                       have T2 := Aside0.mk (T.out.set hgl gne.2.2.1 kn dd)
                       have hBW := Aside0.mk (show (wr.setCell ⟨gd, kn, none⟩ (.int .i64 dd)).heap.size = wr.heap.size by simp [World.setCell])
                       have hsz2 := Aside0.mk T2.out.lx.ls.kept.1
                       have hsz' := Aside0.mk hsz
                       have hwl := Aside0.mk (show wk1.length < 1000000 by have := hlK.out.2; omega)
                       replace hng1 := Aside0.mk hng1
                       clear en h2 h3 hsz
                       go_wp2_with (first
                        | (at_builtin; refine app_i64 rfl (.tmp 134) (.tmp 136) rfl _ wk1 _ rfl hBW.out rfl T2.out.lx.ls.rw T2.out.lx.ls.bel hsz'.out hsz2.out hwl.out ?_; intro v1 w1 i1 i2 i3 i4))
                       go_roundg gk
                       case measure => omega
                       case rel => exact ⟨ds1.set kn dd, wk1 ++ [(kn : Int)], j + 1, by go_num, by have := hjk.out; omega, hvis.out, T2.out.appw hgl i1 i2 i3 i4, by have := hneg.out; have := hng1.out; rw [List.length_append, List.length_singleton]; omega, by rw [List.length_set]; exact hlen1⟩
                case rest =>
                 obtain ⟨ds2, wk2, hVe, T2⟩ := hcut
                 subst hVe
                 obtain ⟨inv2, hng2⟩ : LookInv l wk2 ds2 ∧ negs ds2 + wk2.length ≤ l.length + 1 := by
                  rcases hspec.out with h | ⟨ds', wk', h, h1, h2⟩
                  ·cases h
                  ·cases h
                   have := hng.out
                   rw [List.length_append] at this
                   exact ⟨h1, by simp only [List.length_singleton] at this; omega⟩
                 obtain ⟨A3, c3', rfl⟩ := Kd.R_slice T2.lx.ls.rw
                 replace T2 := Aside0.mk T2
                 replace inv2 := Aside0.mk inv2
                 replace hng2 := Aside0.mk hng2
                 clear T
                 go_wp2
                 all_goals
                  go_roundg gk
                  case measure => omega
                  case rel => exact ⟨wk2, ds2, T2.out.lx.ls, hlk3.out, inv2.out, hng2.out⟩
end Go.Proofs.Ytjbpljcfogekhaa.Q
namespace Go.Proofs.Ytjbpljcfogekhaa.Core
open Go.RowKit Ytjbpljcfogekhaa.Q YtjbpljcfogekhaaW.PrintWords YtjbpljcfogekhaaW.PrintLast YtjbpljcfogekhaaW.PrintMore
/-- What valid.read finds. -/
def readS (s : ByteArray) : Option (List S36 × List Int) :=
 match decAll s with
 | none => none
 | some l => if s.size < 1 ∨ 192 < s.size then none else if okS l = true then (match lookF l 400 [0] (start l) with | some (some ds) => some (l, ds) | _ => none) else none
theorem decAll_pos {s : ByteArray} {l : List S36} (h : decAll s = some l) (hs : 0 < s.size) : 0 < l.length := by
 unfold decAll at h
 obtain ⟨d, hd⟩ : ∃ d, s.size = d + 1 := ⟨s.size - 1, by omega⟩
 rw [hd, dec, if_pos (by omega)] at h
 split at h
 ·obtain ⟨m, _, h⟩ := Option.bind_eq_some_iff.1 h
  simp only [Option.some.injEq] at h
  subst h
  simp
 ·cases h
theorem decAll_length {s : ByteArray} {l : List S36} (h : decAll s = some l) : l.length ≤ s.size := dec_length s _ _ _ h
theorem decAll_range {s : ByteArray} {l : List S36} (h : decAll s = some l) : ∀ x ∈ l, 0 ≤ x.f2 ∧ x.f2 < s.size ∧ 0 ≤ x.f0 ∧ x.f0 ≤ 23 ∧ 0 ≤ x.f1 ∧ x.f1 < 18446744073709551616 ∧ 1 ≤ x.f3 ∧ x.f2 + x.f3 ≤ s.size := dec_range s _ 0 l (by omega) h
theorem decAll_places {s : ByteArray} {l : List S36} (h : decAll s = some l) : l.Pairwise fun x y => x.f2 < y.f2 := dec_places s _ 0 l (by omega) h
/-- Put in, one by one: the map of the first i instructions. -/
theorem findS_snoc {l : List S36} (hp : l.Pairwise fun x y => x.f2 < y.f2) {i : Nat} {x : S36} (hx : l[i]? = some x) (a : Int) :
  (if a = x.f2 then some i else findS (l.take i) a) = findS (l.take (i + 1)) a := by
 have hi := (List.getElem?_eq_some_iff.1 hx).1
 have e : l.take (i + 1) = l.take i ++ [x] := by
  rw [List.take_succ_eq_append_getElem hi]
  rw [List.getElem?_eq_getElem hi] at hx
  rw [Option.some.inj hx]
 have hlen : (l.take i).length = i := by simp; omega
 rw [e]
 unfold findS
 rw [List.findIdx?_append]
 by_cases ha : a = x.f2
 ·subst ha
  rw [if_pos rfl]
  have hn : (l.take i).findIdx? (fun y => y.f2 == x.f2) = none := by
   rw [List.findIdx?_eq_none_iff]
   intro y hy
   have hlt : y.f2 < x.f2 := by
    obtain ⟨j, hj, rfl⟩ := List.mem_iff_getElem.1 hy
    have hji : j < i := by omega
    have := List.pairwise_iff_getElem.1 hp j i (by omega) hi hji
    rw [List.getElem?_eq_getElem hi] at hx
    rw [Option.some.inj hx] at this
    simpa using this
   simp; omega
  rw [hn]
  simp [hlen]
 ·rw [if_neg ha]
  have : ([x] : List S36).findIdx? (fun y => y.f2 == a) = none := by
   rw [List.findIdx?_eq_none_iff]
   intro y hy
   rw [List.mem_singleton.1 hy]
   simp; omega
  rw [this]
  simp
def okx (l : List S36) (x : S36) : Bool := decide (0 ≤ tk x) && (!jmp x || (findS l x.f1).isSome)
theorem okS_all (l : List S36) : okS l = l.all (okx l) := rfl
end Go.Proofs.Ytjbpljcfogekhaa.Core
namespace Go.Proofs.Ytjbpljcfogekhaa.Q
open Go.RowKit Ytjbpljcfogekhaa.Core YtjbpljcfogekhaaW.PrintWords YtjbpljcfogekhaaW.PrintLast YtjbpljcfogekhaaW.PrintMore
theorem dec_calls (s : ByteArray) (hs : s.size ≤ 4398046511104) (W : World) : Calls Try.prog 18 #[.string s] W fun e w' => ∃ v : Value, e = .returned (.tuple #[v, .int .i64 (decRes [] (decAll s)).2]) ∧ Kd.R k36 36 w' W.heap.size (fun _ => True) v (decRes [] (decAll s)).1 ∧ Below W.heap.size W w' := by
 obtain ⟨k, hk⟩ := (Decode_evL s hs).rounds
 exact code_Decode.calls k s _ _ W hk
/-- What read hands back. -/
def ReadOk (w w' : World) (v : Value) : Option (List S36 × List Int) → Prop
 | none => v = .pointer none
 | some (l, ds) => ∃ (gp bm gd cd : Nat) (vl : Value), v = .pointer (some ⟨gp, 0, none⟩) ∧ w'.heap[gp]? = some (.cells #[vl, .map (some bm), .slice (some ⟨gd, 0, none⟩) l.length cd] 78 (0, 0)) ∧ Mp w' bm l.length (findS l) ∧
   Kd.R (Kd.int .i64) 3 w' w.heap.size (fun _ => True) (.slice (some ⟨gd, 0, none⟩) l.length cd) ds ∧ ds.length = l.length
def ReadPost (w : World) (s : ByteArray) (e : Ending) (w' : World) : Prop := ∃ v, e = .returned v ∧ Below w.heap.size w w' ∧ ReadOk w w' v (readS s)
/-- Behind Decode. -/
structure RD (w : World) (l : List S36) (v3 : Value) (wc : World) : Prop where
 rl : Kd.R k36 36 wc w.heap.size (fun _ => True) v3 l
 bel : Below w.heap.size w wc
theorem blk_two (w : World) (o o' : Obj) : ((w.alloc o).alloc o').heap[w.heap.size + 1]? = some o' := by
 have h := blk_new (w.alloc o) o'
 simp only [World.size_alloc] at h
 exact h
/-- While the map and the depths are made. -/
structure R1 (W1 : World) (l : List S36) (vl : Value) (gp bm : Nat) (i j : Nat) (wc : World) : Prop where
 bel : Below W1.heap.size W1 wc
 bp : ∃ vd, wc.heap[gp]? = some (.cells #[vl, .map (some bm), vd] 78 (0, 0)) ∧ Kd.R (Kd.int .i64) 3 wc W1.heap.size (fun _ => True) vd (List.replicate i (-1))
 mp : Mp wc bm j (findS (l.take j))
 n : W1.heap.size ≤ gp ∧ W1.heap.size ≤ bm ∧ gp ≠ bm
theorem R1.below {W1 : World} {l : List S36} {vl : Value} {gp bm i j : Nat} {wc wd : World} (r : R1 W1 l vl gp bm i j wc) (hb : Below wc.heap.size wc wd) : R1 W1 l vl gp bm i j wd :=
 ⟨below_step r.bel hb, let ⟨vd, h, hR⟩ := r.bp; ⟨vd, blk_below h hb, Kd.R_below hR hb⟩, r.mp.below hb, r.n⟩
theorem R1.start (W1 : World) (l : List S36) (vl : Value) : R1 W1 l vl (W1.heap.size + 1) W1.heap.size 0 0 ((W1.alloc (.map #[] 0)).alloc (.cells #[vl, .map (some W1.heap.size), .slice none 0 0] 78)) := by
 refine ⟨below_alloc (below_alloc (Below.refl _ _) _) _, ⟨_, blk_two _ _ _, Kd.R_nil _ _ _ _ _⟩, ?_, by omega⟩
 have h := (Mp.new W1).below (below_alloc (Below.refl _ _) (.cells #[vl, .map (some W1.heap.size), .slice none 0 0] 78))
 exact h
theorem R1.put {W1 : World} {l : List S36} {vl : Value} {gp bm i j : Nat} {wc wd : World} {F : Int → Option Nat} (r : R1 W1 l vl gp bm i j wc) (hm : Mp wd bm (j + 1) F) (hF : F = findS (l.take (j + 1))) (hg : wc.grownBy wd (some bm)) : R1 W1 l vl gp bm i (j + 1) wd := by
 obtain ⟨vd, h, hR⟩ := r.bp
 refine ⟨?_, ⟨vd, blk_grown h hg (by simpa using r.n.2.2), ?_⟩, hF ▸ hm, r.n⟩
 ·exact r.bel.grown hg r.bel.size (fun k hk => by cases hk; exact r.n.2.1)
 ·refine Kd.R_grown2 hR rfl hg (fun k hk e => ?_)
  cases hk
  have hb := Kd.R_bound hR
  obtain ⟨_, _, _, q, _, cells, hc⟩ := hb.1 _ e.symm
  obtain ⟨D, ⟨es, clock, h0, _⟩, _⟩ := r.mp
  rw [h0] at hc
  cases hc
theorem R1.app {W1 : World} {l : List S36} {vl vd : Value} {gp bm i j : Nat} {wc w1 : World} {v1 : Value} (r : R1 W1 l vl gp bm i j wc) (h : wc.heap[gp]? = some (.cells #[vl, .map (some bm), vd] 78 (0, 0))) (hR : Kd.R (Kd.int .i64) 3 wc W1.heap.size (fun _ => True) vd (List.replicate i (-1)))
    (h1 : Kd.R (Kd.int .i64) 3 w1 W1.heap.size (fun _ => True) v1 (List.replicate i (-1) ++ [-1])) (h2 : Below W1.heap.size W1 w1) (h3 : wc.grownBy w1 vd.ownBlock) :
    w1.heap[gp]? = some (.cells #[vl, .map (some bm), vd] 78 (0, 0)) ∧ R1 W1 l vl gp bm (i + 1) j (w1.setCell ⟨gp, 2, none⟩ v1) := by
  have hb := Kd.R_bound hR
  have hgp : w1.heap[gp]? = some (.cells #[vl, .map (some bm), vd] 78 (0, 0)) := blk_grown h h3 (fun e => by
    obtain ⟨_, _, _, q, hq, cells, hc⟩ := hb.1 _ e.symm
    have : q = 3 := by simpa [Kd.int, Kd.scalar] using hq
    subst this
    rw [h] at hc
    injection hc with hc
    injection hc with _ hc _
    exact absurd hc (by decide))
  have hm : Mp w1 bm j (findS (l.take j)) := r.mp.grown h3 (fun e => by
    obtain ⟨_, _, _, q, _, cells, hc⟩ := hb.1 _ e.symm
    obtain ⟨D, ⟨es, clock, h0, _⟩, _⟩ := r.mp
    rw [h0] at hc
    cases hc)
  refine ⟨hgp, below_set h2 r.n.1, ⟨v1, blk_put hgp 2 _ rfl, ?_⟩, hm.heap (Below.heap_setCell _ _ _ _ (fun e => r.n.2.2 e.symm)), r.n⟩
  rw [List.replicate_succ']
  exact Kd.R_set h1 hgp (by intro q hq; have : q = 3 := by simpa [Kd.int, Kd.scalar] using hq
                            subst this; decide) 2 v1
structure R2 (W1 : World) (l : List S36) (vl : Value) (gp bm : Nat) (x : S36) (g9 : Nat) (wc : World) : Prop where
 r : R1 W1 l vl gp bm l.length l.length wc
 b9 : wc.heap[g9]? = some (.cells #[.int .i64 x.f0, .int .u64 x.f1, .int .i64 x.f2, .int .i64 x.f3] 36 (0, 0))
theorem R2.below {W1 : World} {l : List S36} {vl : Value} {gp bm : Nat} {x : S36} {g9 : Nat} {wc wd : World} (q : R2 W1 l vl gp bm x g9 wc) (hb : Below wc.heap.size wc wd) : R2 W1 l vl gp bm x g9 wd :=
 ⟨q.r.below hb, blk_below q.b9 hb⟩
theorem readS_bad {s : ByteArray} {l : List S36} (hda : decAll s = some l) (hsz : ¬ (s.size < 1 ∨ 192 < s.size)) {x : S36} (hx : x ∈ l) (hb : okx l x = false) : readS s = none := by
 unfold readS
 rw [hda]
 simp only
 rw [if_neg hsz, if_neg]
 intro h
 rw [okS_all, List.all_eq_true] at h
 rw [h x hx] at hb
 cases hb
set_option maxHeartbeats 4000000 in
set_option maxRecDepth 100000 in
theorem read_calls (s : ByteArray) (hs : s.size ≤ 4398046511104) (w : World) : Calls Try.prog 43 #[.string s] w (ReadPost w s) := by
 have hu78 := Try.underlying78
 have hu36 := Try.underlying36
 have hmm := @run_makeMap Try.prog
 replace hs := Aside0.mk hs
 obtain ⟨⟨l, er⟩, hdr⟩ : ∃ r, decRes [] (decAll s) = r := ⟨_, rfl⟩
 replace hdr := Aside0.mk hdr
 go_enter Try.func43, Try.ntmps43
 go_upto_region 1 with fail
 go_cut [3, 4] from 14 (fun v3 v4 wx => v4 = .int .i64 er ∧ RD w l v3 wx)
 case first =>
  go_wp2_with (first
   | (go_at_call 18; (with_reducible refine (dec_calls s hs.out _).mono ?_); rintro e w5 ⟨v, rfl, hR, hB⟩; rw [hdr.out] at hR ⊢))
  go_meet
  case rel => exact ⟨rfl, hR, hB⟩
 case rest =>
  obtain ⟨rfl, D⟩ := hcut
  replace D := Aside0.mk D
  go_upto_region 2 with fail
  go_cut [30] from 14 (fun v30 wx => v30 = .bool (decide (er ≠ 0 ∨ s.size < 1 ∨ 192 < s.size)) ∧ wc = wx)
  case first =>
   by_cases h1 : er = 0
   ·have d1 : (er != 0) = false := by simpa using h1
    by_cases h2 : (s.size : Int) < 1
    ·have d2 : decide ((s.size : Int) < 1) = true := decide_eq_true h2
     have h3 := Aside0.mk (show decide (er ≠ 0 ∨ s.size < 1 ∨ 192 < s.size) = true from decide_eq_true (.inr (.inl (by omega))))
     clear h1 h2
     go_wp2
     go_meet
     case rel => exact ⟨by rw [h3.out], rfl⟩
    ·have d2 : decide ((s.size : Int) < 1) = false := decide_eq_false h2
     by_cases h4 : 192 < (s.size : Int)
     ·have d4 : decide (192 < (s.size : Int)) = true := decide_eq_true h4
      have h3 := Aside0.mk (show decide (er ≠ 0 ∨ s.size < 1 ∨ 192 < s.size) = true from decide_eq_true (.inr (.inr (by omega))))
      clear h1 h2 h4
      go_wp2
      go_meet
      case rel => exact ⟨by rw [h3.out], rfl⟩
     ·have d4 : decide (192 < (s.size : Int)) = false := decide_eq_false h4
      have h3 := Aside0.mk (show decide (er ≠ 0 ∨ s.size < 1 ∨ 192 < s.size) = false from decide_eq_false (by omega))
      clear h1 h2 h4
      go_wp2
      go_meet
      case rel => exact ⟨by rw [h3.out], rfl⟩
   ·have d1 : (er != 0) = true := by simpa using h1
    have h3 := Aside0.mk (show decide (er ≠ 0 ∨ s.size < 1 ∨ 192 < s.size) = true from decide_eq_true (.inl h1))
    clear h1
    go_wp2
    go_meet
    case rel => exact ⟨by rw [h3.out], rfl⟩
  case rest =>
   obtain ⟨rfl, rfl⟩ := hcut
   by_cases hbad : er ≠ 0 ∨ s.size < 1 ∨ 192 < s.size
   ·rw [decide_eq_true hbad]
    have hr : readS s = none := by
     have := hdr.out
     unfold readS
     cases h : decAll s with
     | none => rfl
     | some l' =>
      rw [h] at this
      simp only [decRes, Prod.mk.injEq] at this
      have h0 : er = 0 := this.2.symm
      simp only
      rw [if_pos (by omega)]
    replace hr := Aside0.mk hr
    clear hbad
    go_wp2
    go_ret
    exact ⟨_, rfl, D.out.bel, by rw [hr.out]; rfl⟩
   ·rw [decide_eq_false hbad]
    have hda : decAll s = some l := by
     have := hdr.out
     cases h : decAll s with
     | none => rw [h] at this; simp only [decRes, Prod.mk.injEq] at this; omega
     | some l' => rw [h] at this; simp only [decRes, Prod.mk.injEq, List.nil_append] at this; rw [this.1]
    have hln := decAll_length hda
    have hlp := decAll_pos hda (by omega)
    have hl192 : l.length ≤ 192 := by omega
    have hsz : ¬ (s.size < 1 ∨ 192 < s.size) := by omega
    replace hsz := Aside0.mk hsz
    have hrng := Aside0.mk (decAll_range hda)
    have hpl := Aside0.mk (decAll_places hda)
    replace hda := Aside0.mk hda
    clear hbad hln
    obtain ⟨A3, c3, rfl⟩ := Kd.R_slice D.out.rl
    obtain ⟨W1, eW1⟩ : ∃ W1 : World, W1 = wc := ⟨_, rfl⟩
    subst eW1
    go_upto_block 0 with fail
    have S0 := Aside0.mk (R1.start W1 l (.slice A3 l.length c3))
    generalize (W1.alloc (.map #[] 0)).alloc (.cells #[.slice A3 l.length c3, .map (some W1.heap.size), .slice none 0 0] 78) = W2 at *
    generalize hgp : W1.heap.size + 1 = gp at *
    generalize hbm : W1.heap.size = bm at *
    replace hgp := Aside0.mk hgp
    replace hbm := Aside0.mk hbm
    go_cut [] from 38 (R1 W1 l (.slice A3 l.length c3) gp bm l.length l.length)
    case first =>
     go_wp2
     go_loopg [37] l.length (fun k v37 wx => ∃ i : Nat, v37 = .int .i64 i ∧ i + k = l.length ∧ R1 W1 l (.slice A3 l.length c3) gp bm i i wx)
     case atStart => exact ⟨0, rfl, by omega, S0.out⟩
     case round =>
      clear S0
      obtain ⟨i, rfl, hik, r⟩ := hrel
      cases gk with
      | zero =>
       have ei : i = l.length := by omega
       subst ei
       have hlt : ¬ (l.length : Int) < (l.length : Int) := by omega
       clear hik
       go_wp2
       go_meet
       case rel => exact r
      | succ gk =>
       have hil : i < l.length := by omega
       have hlt : (i : Int) < (l.length : Int) := by omega
       have hi2 : (i : Int) ≤ 192 := by omega
       obtain ⟨x, hx⟩ : ∃ x, l[i]? = some x := ⟨_, List.getElem?_eq_getElem hil⟩
       have hC0 := (Kd.R_reads' (Kd.R_below D.out.rl r.bel)).2.2
       obtain ⟨ad, rfl, q0, q1, q2, q3⟩ := at_T36 hC0 (i : Int) (by omega) (by omega)
       rw [rdT_of hx] at q0 q1 q2 q3
       simp only [Int.toNat_natCast] at q0 q1 q2 q3
       have hxr := hrng.out x (List.mem_of_getElem? hx)
       have hs2 : x.f2 < 9223372036854775808 := by have := hs.out; omega
       have hw2 := Aside0.mk (u64_in x.f2 hxr.1 (by omega))
       have hF := Aside0.mk (findS_snoc hpl.out hx)
       replace hx := Aside0.mk hx
       replace hik := Aside0.mk hik
       replace r := Aside0.mk r
       clear hC0 hs2 hxr
       go_upto_region 7 with fail
       go_cut [6, 7] from 38 to 59 (fun v6 v7 wx => v6 = .int .i64 (i : Int) ∧ ∃ g7, v7 = .pointer (some ⟨g7, 0, none⟩) ∧ wx.heap[g7]? = some (.cells #[.int .i64 x.f0, .int .u64 x.f1, .int .i64 x.f2, .int .i64 x.f3] 36 (0, 0)) ∧ R1 W1 l (.slice (some ad) l.length c3) gp bm i i wx)
       case first =>
        go_wp2
        go_meet
        case rel => exact ⟨rfl, _, rfl, blk_new _ _, r.out.below (below_alloc (Below.refl _ _) _)⟩
       case rest =>
        clear q0 q1 q2 q3 r
        obtain ⟨rfl, g7, rfl, b7, r⟩ := hcut
        obtain ⟨⟨q0, q1, q2, q3⟩, -⟩ := cells4 b7
        obtain ⟨vd, bp, hR⟩ := r.bp
        obtain ⟨⟨z0, z1, z2⟩, -⟩ := cells3 bp
        obtain ⟨W', hrun, hM', hg'⟩ := Mp.put (W := World.drew _) (r.mp.heap rfl) (by unfold maxLen; omega) (a := x.f2) (hrng.out x (List.mem_of_getElem? hx.out)).1 (by have := (hrng.out x (List.mem_of_getElem? hx.out)).2.1; have := hs.out; omega) (i := i) (by omega)
        replace r := Aside0.mk r
        replace b7 := Aside0.mk b7
        clear bp hR
        go_upto_region 8 with fail
        go_cut [] from 38 to 59 (fun wx => R1 W1 l (.slice (some ad) l.length c3) gp bm i (i + 1) wx)
        case first =>
         have hw2' := hw2.out
         go_still_tail 8, (by kernel_rfl)
         go_wp2
         go_meet
         case rel => exact (r.out.below (below_drew1 (Below.refl _ _))).put hM' (funext hF.out) hg'
        case rest =>
         clear z0 z1 z2 q0 q1 q2 q3 hrun hM' hg' r b7
         obtain ⟨vd, bp, hR⟩ := hcut.bp
         obtain ⟨⟨z0, z1, z2⟩, -⟩ := cells3 bp
         have r := Aside0.mk hcut
         go_upto_region 9 with fail
         replace bp := Aside0.mk bp
         replace hR := Aside0.mk hR
         have hb1 := Aside0.mk r.out.bel.size
         have hl9 := Aside0.mk (show (List.replicate i (-1 : Int)).length < 1000000 by rw [List.length_replicate]; omega)
         have hrl := Aside0.mk (show (List.replicate i (-1 : Int) ++ [-1]).length = i + 1 by simp)
         clear hcut
         go_wp2_with (first
          | (at_builtin; refine app_i64 rfl (.tmp 54) (.tmp 55) rfl vd _ (-1) rfl rfl rfl hR.out r.out.bel (Nat.le_refl _) hb1.out hl9.out ?_; intro v1 w1 j1 j2 j3 j4; obtain ⟨j5, j6⟩ := r.out.app bp.out hR.out j1 j2 j3; obtain ⟨A1, c1, rfl⟩ := Kd.R_slice j1; obtain ⟨⟨y0, y1, y2⟩, e0, e1, e2⟩ := cells3 j5; rw [hrl.out] at j6; replace j6 := Aside0.mk j6; clear j1 j2 j3 j4 j5))
         go_roundg gk
         case measure => omega
         case rel => exact ⟨i + 1, by go_num, by have := hik.out; omega, j6.out⟩
    case rest =>
     clear S0
     replace hcut := Aside0.mk hcut
     go_upto_block 2 with fail
     go_cut [] from 63 (fun wx => okS l = true ∧ R1 W1 l (.slice A3 l.length c3) gp bm l.length l.length wx)
     case first =>
      go_wp2
      go_loopg [62] l.length (fun k v62 wx => ∃ j : Nat, v62 = .int .i64 j ∧ j + k = l.length ∧ (∀ y ∈ l.take j, okx l y = true) ∧ R1 W1 l (.slice A3 l.length c3) gp bm l.length l.length wx)
      case atStart => exact ⟨0, rfl, by omega, by simp, hcut.out⟩
      case round =>
       clear hcut
       obtain ⟨j, rfl, hjk, hok, r⟩ := hrel
       cases gk with
       | zero =>
        have ej : j = l.length := by omega
        subst ej
        have hlt : ¬ (l.length : Int) < (l.length : Int) := by omega
        rw [List.take_length] at hok
        have hok' := Aside0.mk (show okS l = true by rw [okS_all, List.all_eq_true]; exact hok)
        clear hjk hok
        go_wp2
        go_meet
        case rel => exact ⟨hok'.out, r⟩
       | succ gk =>
        have hjl : j < l.length := by omega
        have hlt : (j : Int) < (l.length : Int) := by omega
        have hj2 : (j : Int) ≤ 192 := by omega
        obtain ⟨x, hx⟩ : ∃ x, l[j]? = some x := ⟨_, List.getElem?_eq_getElem hjl⟩
        have hC0 := (Kd.R_reads' (Kd.R_below D.out.rl r.bel)).2.2
        obtain ⟨ad, rfl, q0, q1, q2, q3⟩ := at_T36 hC0 (j : Int) (by omega) (by omega)
        rw [rdT_of hx] at q0 q1 q2 q3
        simp only [Int.toNat_natCast] at q0 q1 q2 q3
        have hxm := Aside0.mk (List.mem_of_getElem? hx)
        have hok2 := Aside0.mk (show okx l x = true → ∀ y ∈ l.take (j + 1), okx l y = true by
         intro h y hy
         rw [List.take_succ_eq_append_getElem hjl] at hy
         rcases List.mem_append.1 hy with hy | hy
         ·exact hok y hy
         ·rw [List.getElem?_eq_getElem hjl] at hx
          rw [List.mem_singleton.1 hy, Option.some.inj hx]
          exact h)
        have hf1 := Aside0.mk (hrng.out x hxm.out)
        replace hx := Aside0.mk hx
        replace hjk := Aside0.mk hjk
        replace r := Aside0.mk r
        clear hC0 hok
        go_upto_region 13 with fail
        go_cut [9] from 63 to 95 (fun v9 wx => ∃ g9, v9 = .pointer (some ⟨g9, 0, none⟩) ∧ R2 W1 l (.slice (some ad) l.length c3) gp bm x g9 wx)
        case first =>
         go_wp2
         go_meet
         case rel => exact ⟨_, rfl, r.out.below (below_alloc (Below.refl _ _) _), blk_new _ _⟩
        case rest =>
         clear q0 q1 q2 q3 r
         obtain ⟨g9, rfl, r⟩ := hcut
         obtain ⟨⟨q0, q1, q2, q3⟩, -⟩ := cells4 r.b9
         replace r := Aside0.mk r
         go_upto_region 14 with fail
         go_cut [10, 11] from 63 to 95 (fun v10 v11 wx => v10 = .int .i64 (tk x) ∧ v11 = .int .i64 (pt x) ∧ R2 W1 l (.slice (some ad) l.length c3) gp bm x g9 wx)
         case first =>
          go_wp2_with (first
           | (go_at_call 23; (with_reducible refine (mv_calls x hf1.out.2.2.2.2.1 _).mono ?_); rintro e w5 ⟨rfl, hB⟩))
          go_meet
          case rel => exact ⟨rfl, rfl, r.out.below hB⟩
         case rest =>
          clear q0 q1 q2 q3 r
          obtain ⟨rfl, rfl, r⟩ := hcut
          obtain ⟨⟨q0, q1, q2, q3⟩, -⟩ := cells4 r.b9
          obtain ⟨vd, bp, hR⟩ := r.r.bp
          obtain ⟨⟨z0, z1, z2⟩, -⟩ := cells3 bp
          have hmp := Aside0.mk (show Mp _ bm l.length (findS l) from by have h := r.r.mp; rw [List.take_length] at h; exact h)
          replace r := Aside0.mk r
          clear bp hR
          by_cases ht : tk x < 0
          ·have hr := Aside0.mk (readS_bad hda.out hsz.out hxm.out (by unfold okx; simp; omega))
           go_wp2
           go_ret
           exact ⟨_, rfl, below_step D.out.bel r.out.r.bel, by rw [hr.out]; rfl⟩
          ·go_upto_region 17 with fail
           have hlook : ∀ n, (Instr.lookup 76 (.map (some bm)) (.int .u64 x.f1) true).run Try.prog (World.drewN _ n) = .ok (.tuple #[.int .i64 ((findS l x.f1).getD 0 : Nat), .bool (findS l x.f1).isSome]) (World.drewN _ n) := fun n =>
            Mp.look_ok (W := World.drewN _ n) (hmp.out.below (pw_below_drewN (Below.refl _ _) n)) hf1.out.2.2.2.2.1 hf1.out.2.2.2.2.2.1
           go_cut [12, 13] from 73 to 95 (fun v12 v13 wx => v13 = .bool (findS l x.f1).isSome ∧ R2 W1 l (.slice (some ad) l.length c3) gp bm x g9 wx)
           case first =>
            go_quiet (fail)
            go_wp2
            go_meet
            case rel => exact ⟨rfl, r.out.below (pw_below_drewN (Below.refl _ _) _)⟩
           case rest =>
            clear q0 q1 q2 q3 z0 z1 z2 r hlook hmp
            obtain ⟨rfl, r⟩ := hcut
            obtain ⟨⟨q0, q1, q2, q3⟩, -⟩ := cells4 r.b9
            replace r := Aside0.mk r
            have hox := Aside0.mk (show okx l x = (!jmp x || (findS l x.f1).isSome) by unfold okx; rw [decide_eq_true (by omega)]; simp)
            go_upto_region 18 with fail
            go_cut [13, 94] from 83 to 95 (fun _ v94 wx => v94 = .bool (!okx l x) ∧ R2 W1 l (.slice (some ad) l.length c3) gp bm x g9 wx)
            case first =>
             cases hs1 : (findS l x.f1).isSome with
             | true =>
              have he := Aside0.mk (show (!okx l x) = false by rw [hox.out, hs1]; simp)
              go_wp2
              go_meet
              case rel => exact ⟨by rw [he.out], r.out⟩
             | false =>
              by_cases h1 : x.f0 = 21
              ·have he := Aside0.mk (show (!okx l x) = true by rw [hox.out, hs1]; unfold jmp; simp [h1])
               have d1 : (x.f0 == 21) = true := by simpa using h1
               clear h1
               go_wp2
               go_meet
               case rel => exact ⟨by rw [he.out], r.out⟩
              ·have d1 : (x.f0 == 21) = false := by simpa using h1
               by_cases h3 : x.f0 = 22
               ·have he := Aside0.mk (show (!okx l x) = true by rw [hox.out, hs1]; unfold jmp; simp [h3])
                have d3 : (x.f0 == 22) = true := by simpa using h3
                clear h1 h3
                go_wp2
                go_meet
                case rel => exact ⟨by rw [he.out], r.out⟩
               ·have he := Aside0.mk (show (!okx l x) = false by rw [hox.out, hs1]; unfold jmp; simp [h1, h3])
                have d3 : (x.f0 == 22) = false := by simpa using h3
                clear h1 h3
                go_wp2
                go_meet
                case rel => exact ⟨by rw [he.out], r.out⟩
            case rest =>
             clear q0 q1 q2 q3 r
             obtain ⟨rfl, r⟩ := hcut
             replace r := Aside0.mk r
             cases hb : okx l x with
             | false =>
              have hr := Aside0.mk (readS_bad hda.out hsz.out hxm.out hb)
              replace hb := Aside0.mk hb
              go_wp2
              go_ret
              exact ⟨_, rfl, below_step D.out.bel r.out.r.bel, by rw [hr.out]; rfl⟩
             | true =>
              replace hb := Aside0.mk hb
              go_wp2
              go_roundg gk
              case measure => omega
              case rel => exact ⟨j + 1, by go_num, by have := hjk.out; omega, hok2.out hb.out, r.out.r⟩
     case rest =>
      obtain ⟨hok, r⟩ := hcut
      obtain ⟨vd, bp, hR⟩ := r.bp
      obtain ⟨gd, cd, rfl, hgd, hcd, hgdl⟩ := R_own0 hR (by rw [List.length_replicate]; exact hlp)
      rw [List.length_replicate] at bp hR hcd
      have hmp : Mp wc bm l.length (findS l) := by have h := r.mp; rw [List.take_length] at h; exact h
      have n1 : gp ≠ gd := fun e => by
       obtain ⟨_, _, _, q, hq, cells, hc⟩ := (Kd.R_bound hR).1 gd rfl
       have : q = 3 := by simpa [Kd.int, Kd.scalar] using hq
       subst this
       rw [← e, bp] at hc
       injection hc with hc
       injection hc with _ hc _
       exact absurd hc (by decide)
      have n2 : bm ≠ gd := fun e => by
       obtain ⟨_, _, _, q, hq, cells, hc⟩ := (Kd.R_bound hR).1 gd rfl
       obtain ⟨D, ⟨es, clock, h0, _⟩, _⟩ := hmp
       rw [← e, h0] at hc
       cases hc
      have hlkp : LK W1 wc gp bm gd cd l (.slice A3 l.length c3) := ⟨bp, Rk.came (Kd.heap_iso _ (Kd.heap_pair (Kd.heap_int _) (Kd.heap_pair (Kd.heap_int _) (Kd.heap_pair (Kd.heap_int _) (Kd.heap_int _))))) (Kd.R_reads' D.out.rl).2.2 (Kd.R_reads' D.out.rl).2.1 r.bel (fun k hk => by rw [hk]; exact hgd), hmp, ⟨n1, n2, hgd, hgdl⟩, hok, ⟨hlp, by omega⟩, fun x hx => ⟨(hrng.out x hx).2.2.2.2.1, (hrng.out x hx).2.2.2.2.2.1⟩⟩
      obtain ⟨q, hq, _⟩ := look_right hok hlp 400 (by omega)
      have hds0 : Kd.R (Kd.int .i64) 3 wc W1.heap.size (fun k => k = gd) (.slice (some ⟨gd, 0, none⟩) l.length cd) (List.replicate l.length (-1)) := Kd.R_mono (Kd.R_tight rfl hR) (fun k hk => by
       have := hk.symm
       simp [Value.ownBlock] at this
       exact this.symm)
      have hrs := Aside0.mk (show readS s = q.map (fun ds => (l, ds)) by
       unfold readS
       rw [hda.out]
       simp only
       rw [if_neg hsz.out, if_pos hok, hq]
       cases q <;> rfl)
      have hcall := Aside0.mk (look_calls W1 wc gp bm gd cd l _ hlkp r.bel _ hds0 (by rw [List.length_replicate]) rfl 400 q hq)
      replace bp := Aside0.mk bp
      replace hmp := Aside0.mk hmp
      replace n1 := Aside0.mk n1
      replace n2 := Aside0.mk n2
      clear hR hlkp hds0 hq r hcut hok
      cases q with
      | none =>
       go_wp2_with (first
        | (go_at_call 49; (with_reducible refine hcall.out.mono ?_); rintro e w5 ⟨rfl, hk, hB, hds⟩))
       go_ret
       exact ⟨_, rfl, below_step D.out.bel hB, by rw [hrs.out]; rfl⟩
      | some ds =>
       go_wp2_with (first
        | (go_at_call 49; (with_reducible refine hcall.out.mono ?_); rintro e w5 ⟨rfl, hk, hB, hds⟩; replace hds := Aside0.mk hds))
       go_ret
       refine ⟨_, rfl, below_step D.out.bel hB, ?_⟩
       rw [hrs.out]
       obtain ⟨h1, h2⟩ := hds.out ds rfl
       exact ⟨gp, bm, gd, cd, _, rfl, blk_kept bp.out hk n1.out, hmp.out.kept hk n2.out, Kd.R_mono (Kd.R_lower h1 D.out.bel.size) (fun _ _ => trivial), h2⟩
end Go.Proofs.Ytjbpljcfogekhaa.Q
namespace Go.Proofs.Ytjbpljcfogekhaa.Q
open Go.RowKit Ytjbpljcfogekhaa.Core YtjbpljcfogekhaaW.PrintWords YtjbpljcfogekhaaW.PrintLast YtjbpljcfogekhaaW.PrintMore
def checkS (s : ByteArray) : Int := if (readS s).isSome then 0 else 8
def depthsS (s : ByteArray) : List Int × Int := depRes ((readS s).map Prod.snd)
def entryS (s : ByteArray) (at_ : Int) : Bool := match readS s with
 | none => false
 | some (l, ds) => if at_ < 0 then false else match findS l at_ with
  | some n => rd ds (n : Int) == 0
  | none => false
set_option maxHeartbeats 4000000 in
set_option maxRecDepth 100000 in
theorem check_calls (s : ByteArray) (hs : s.size ≤ 4398046511104) (w : World) : Calls Try.prog 27 #[.string s] w fun e w' => e = .returned (.int .i64 (checkS s)) ∧ Below w.heap.size w w' := by
 have hc := Aside0.mk (read_calls s hs w)
 go_enter Try.func27, Try.ntmps27
 cases hr : readS s with
 | none =>
  have e0 := Aside0.mk (show checkS s = 8 by unfold checkS; rw [hr]; rfl)
  replace hr := Aside0.mk hr
  go_wp2_with (first
   | (go_at_call 43; (with_reducible refine hc.out.mono ?_); rintro e w5 ⟨v, rfl, hB, hk⟩; rw [hr.out] at hk; simp only [ReadOk] at hk; subst hk))
  go_ret
  exact ⟨by rw [e0.out]; rfl, hB⟩
 | some p =>
  obtain ⟨l, ds⟩ := p
  have e0 := Aside0.mk (show checkS s = 0 by unfold checkS; rw [hr]; rfl)
  replace hr := Aside0.mk hr
  go_wp2_with (first
   | (go_at_call 43; (with_reducible refine hc.out.mono ?_); rintro e w5 ⟨v, rfl, hB, hk⟩; rw [hr.out] at hk; obtain ⟨gp, bm, gd, cd, vl, rfl, hk⟩ := hk; clear hk))
  go_ret
  exact ⟨by rw [e0.out]; rfl, hB⟩
set_option maxHeartbeats 4000000 in
set_option maxRecDepth 100000 in
theorem depths_calls (s : ByteArray) (hs : s.size ≤ 4398046511104) (w : World) : Calls Try.prog 29 #[.string s] w fun e w' => ∃ v : Value, e = .returned (.tuple #[v, .int .i64 (depthsS s).2]) ∧ Kd.R (Kd.int .i64) 3 w' w.heap.size (fun _ => True) v (depthsS s).1 ∧ Below w.heap.size w w' := by
 have hc := Aside0.mk (read_calls s hs w)
 have hu78 := Try.underlying78
 go_enter Try.func29, Try.ntmps29
 cases hr : readS s with
 | none =>
  have e0 := Aside0.mk (show depthsS s = ([], 8) by unfold depthsS; rw [hr]; rfl)
  replace hr := Aside0.mk hr
  go_wp2_with (first
   | (go_at_call 43; (with_reducible refine hc.out.mono ?_); rintro e w5 ⟨v, rfl, hB, hk⟩; rw [hr.out] at hk; simp only [ReadOk] at hk; subst hk))
  go_ret2
  rw [e0.out]
  exact ⟨_, rfl, Kd.R_nil _ _ _ _ _, hB⟩
 | some p =>
  obtain ⟨l, ds⟩ := p
  have e0 := Aside0.mk (show depthsS s = (ds, 0) by unfold depthsS; rw [hr]; rfl)
  replace hr := Aside0.mk hr
  go_wp2_with (first
   | (go_at_call 43; (with_reducible refine hc.out.mono ?_); rintro e w5 ⟨v, rfl, hB, hk⟩; rw [hr.out] at hk; obtain ⟨gp, bm, gd, cd, vl, rfl, bp, hm, hR, hl⟩ := hk; obtain ⟨⟨z0, z1, z2⟩, -⟩ := cells3 bp; clear bp hm; replace hl := Aside0.mk hl; replace hR := Aside0.mk hR))
  go_ret2
  rw [e0.out]
  refine ⟨_, rfl, ?_, hB⟩
  have h := hR.out
  exact h
set_option maxHeartbeats 4000000 in
set_option maxRecDepth 100000 in
theorem entry_calls (s : ByteArray) (hs : s.size ≤ 4398046511104) (at_ : Int) (ha : at_ < 9223372036854775808) (w : World) : Calls Try.prog 32 #[.string s, .int .i64 at_] w fun e w' => e = .returned (.bool (entryS s at_)) ∧ Below w.heap.size w w' := by
 have hc := Aside0.mk (read_calls s hs w)
 have hu78 := Try.underlying78
 cases hr : readS s with
 | none =>
  have e0 := Aside0.mk (show entryS s at_ = false by unfold entryS; rw [hr])
  replace hr := Aside0.mk hr
  go_enter Try.func32, Try.ntmps32
  go_wp2_with (first
   | (go_at_call 43; (with_reducible refine hc.out.mono ?_); rintro e w5 ⟨v, rfl, hB, hk⟩; rw [hr.out] at hk; simp only [ReadOk] at hk; subst hk))
  go_ret
  exact ⟨by rw [e0.out]; rfl, hB⟩
 | some p =>
  obtain ⟨l, ds⟩ := p
  by_cases hneg : at_ < 0
  ·have e0 := Aside0.mk (show entryS s at_ = false by unfold entryS; rw [hr]; simp only; rw [if_pos hneg])
   replace hr := Aside0.mk hr
   have d1 : decide (at_ < 0) = true := decide_eq_true hneg
   go_enter Try.func32, Try.ntmps32
   go_wp2_with (first
    | (go_at_call 43; (with_reducible refine hc.out.mono ?_); rintro e w5 ⟨v, rfl, hB, hk⟩; rw [hr.out] at hk; obtain ⟨gp, bm, gd, cd, vl, rfl, hk⟩ := hk; clear hk))
   go_ret
   exact ⟨by rw [e0.out]; rfl, hB⟩
  ·have d1 : decide (at_ < 0) = false := decide_eq_false hneg
   have hw := u64_in at_ (by omega) (by omega)
   have hu := Aside0.mk (show 0 ≤ at_ ∧ at_ < 18446744073709551616 by omega)
   cases hf : findS l at_ with
   | none =>
    have e0 := Aside0.mk (show entryS s at_ = false by unfold entryS; rw [hr]; simp only; rw [if_neg hneg, hf])
    have hf' := Aside0.mk (show (findS l at_).isSome = false by rw [hf]; rfl)
    replace hf := Aside0.mk hf
    replace hr := Aside0.mk hr
    clear hneg
    go_enter Try.func32, Try.ntmps32
    go_wp2_with (first
     | (go_at_call 43; (with_reducible refine hc.out.mono ?_); rintro e w5 ⟨v, rfl, hB, hk⟩; rw [hr.out] at hk; obtain ⟨gp, bm, gd, cd, vl, rfl, bp, hm, hR, hl⟩ := hk; obtain ⟨⟨z0, z1, z2⟩, -⟩ := cells3 bp; have hlook := hm.look_ok hu.out.1 hu.out.2; rw [hf'.out] at hlook; clear bp hm hl hR))
    go_ret
    exact ⟨by rw [e0.out]; rfl, hB⟩
   | some n =>
    have e0 := Aside0.mk (show entryS s at_ = (rd ds (n : Int) == 0) by unfold entryS; rw [hr]; simp only; rw [if_neg hneg, hf])
    have hf' := Aside0.mk (show (findS l at_).isSome = true by rw [hf]; rfl)
    have hf'' := Aside0.mk (show (findS l at_).getD 0 = n by rw [hf]; rfl)
    have hnl := findS_lt hf
    have hnl' : (n : Int) < (l.length : Int) := by omega
    replace hf := Aside0.mk hf
    replace hr := Aside0.mk hr
    clear hneg
    go_enter Try.func32, Try.ntmps32
    go_wp2_with (first
     | (go_at_call 43; (with_reducible refine hc.out.mono ?_); rintro e w5 ⟨v, rfl, hB, hk⟩; rw [hr.out] at hk; obtain ⟨gp, bm, gd, cd, vl, rfl, bp, hm, hR, hl⟩ := hk; obtain ⟨⟨z0, z1, z2⟩, -⟩ := cells3 bp; have hlook := hm.look_ok hu.out.1 hu.out.2; rw [hf'.out, hf''.out] at hlook; rw [← hl] at hR; obtain ⟨y0, -⟩ := R_cell hR (i := n) (by omega); clear bp hm hR; replace hl := Aside0.mk hl))
    go_ret
    exact ⟨by rw [e0.out]; rfl, hB⟩
end Go.Proofs.Ytjbpljcfogekhaa.Q
namespace Go.Proofs.Ytjbpljcfogekhaa.Q
open Go.RowKit Ytjbpljcfogekhaa.Core YtjbpljcfogekhaaW.PrintWords YtjbpljcfogekhaaW.PrintLast YtjbpljcfogekhaaW.PrintMore
def valid_Depths.f (_ : Nat) (a0 : ByteArray) : Option (List Int × Int) := if a0.size ≤ 4398046511104 then some (depthsS a0) else none
theorem valid_Depths.mono : ∀ a0 k, LeO (valid_Depths.f k a0) (valid_Depths.f (k + 1) a0) := fun _ _ => LeO.refl _
theorem valid_Depths.calls (k : Nat) (a0 : ByteArray) (r1 : List Int) (r2 : Int) (w : World) (h : valid_Depths.f k a0 = some (r1, r2)) :
  Calls Try.prog 29 #[.string a0] w fun e w' => ∃ v0_ : Value, e = .returned (.tuple #[v0_, .int .i64 r2]) ∧ Kd.R (Kd.int .i64) 3 w' w.heap.size (fun _ => True) v0_ r1 ∧ Below w.heap.size w w' := by
 unfold valid_Depths.f at h
 split at h
 ·rename_i hs
  have e := Option.some.inj h
  have e1 : r1 = (depthsS a0).1 := by rw [e]
  have e2 : r2 = (depthsS a0).2 := by rw [e]
  subst e1
  subst e2
  exact depths_calls a0 hs w
 ·cases h
end Go.Proofs.Ytjbpljcfogekhaa.Q
namespace Go.Proofs.Ytjbpljcfogekhaa.Q
open Go.RowKit Ytjbpljcfogekhaa.Core YtjbpljcfogekhaaW.PrintWords YtjbpljcfogekhaaW.PrintLast YtjbpljcfogekhaaW.PrintMore
def valid_Entry.f (_ : Nat) (a0 : ByteArray) (a1 : Int) : Option Bool := if a0.size ≤ 4398046511104 ∧ a1 < 9223372036854775808 then some (entryS a0 a1) else none
theorem valid_Entry.mono : ∀ a0 a1 k, LeO (valid_Entry.f k a0 a1) (valid_Entry.f (k + 1) a0 a1) := fun _ _ _ => LeO.refl _
theorem valid_Entry.calls (k : Nat) (a0 : ByteArray) (a1 : Int) (r : Bool) (w : World) (h : valid_Entry.f k a0 a1 = some r) :
  Calls Try.prog 32 #[.string a0, .int .i64 a1] w fun e w' => e = .returned (.bool r) ∧ Below w.heap.size w w' := by
 unfold valid_Entry.f at h
 split at h
 ·rename_i hs
  obtain rfl := Option.some.inj h
  exact entry_calls a0 hs.1 a1 hs.2 w
 ·cases h
end Go.Proofs.Ytjbpljcfogekhaa.Q
namespace Go.Proofs.Ytjbpljcfogekhaa.Q
open Go.RowKit Ytjbpljcfogekhaa.Core YtjbpljcfogekhaaW.PrintWords YtjbpljcfogekhaaW.PrintLast YtjbpljcfogekhaaW.PrintMore
def valid_Check.f (_ : Nat) (a0 : ByteArray) : Option Int := if a0.size ≤ 4398046511104 then some (checkS a0) else none
theorem valid_Check.mono : ∀ a0 k, LeO (valid_Check.f k a0) (valid_Check.f (k + 1) a0) := fun _ _ => LeO.refl _
theorem valid_Check.calls (k : Nat) (a0 : ByteArray) (r : Int) (w : World) (h : valid_Check.f k a0 = some r) :
  Calls Try.prog 27 #[.string a0] w fun e w' => e = .returned (.int .i64 r) ∧ Below w.heap.size w w' := by
 unfold valid_Check.f at h
 split at h
 ·rename_i hs
  obtain rfl := Option.some.inj h
  exact check_calls a0 hs w
 ·cases h
end Go.Proofs.Ytjbpljcfogekhaa.Q
namespace Go.Proofs.Ytjbpljcfogekhaa.Q
open Go.RowKit YtjbpljcfogekhaaW.PrintWords YtjbpljcfogekhaaW.PrintLast YtjbpljcfogekhaaW.PrintMore
attribute [local go_sem] max2_int min2_int max_two min_two max_three min_three max_four min_four
def janusref01_Ints.l0 : Nat → List Int → List Int → Int → Option (Bool)
 | 0, _, _, _ => none
 | k + 1, x0, x1, x5 => if x5 < (x0.length : Int) then (if 0 ≤ x5 then (if x5 < (x1.length : Int) then (if (rd x0 x5) = (rd x1 x5) then (janusref01_Ints.l0 k x0 x1 (wrap64 (x5 + 1))) else (some false)) else (none)) else (none)) else (some true)
def janusref01_Ints.f (k : Nat) (l0 : List Int) (l1 : List Int) : Option (Bool) := if (l0.length : Int) = (l1.length : Int) then (janusref01_Ints.l0 k l0 l1 0) else (some false)
theorem janusref01_Ints.mono_l : ∀ k, (∀ y0 y1 y2, LeO (janusref01_Ints.l0 k y0 y1 y2) (janusref01_Ints.l0 (k + 1) y0 y1 y2))
 | 0 => fun _ _ _ r h => by simp [janusref01_Ints.l0] at h
 | k + 1 => by
  have ih0 := janusref01_Ints.mono_l k
  ·intro y0 y1 y2
   unfold janusref01_Ints.l0
   repeat' first
   | (with_reducible exact ih0 _ _ _)
   | (with_reducible exact LeO.refl _)
   | (with_reducible exact LeO.none _)
   | (with_reducible refine LeO.ite ?_ ?_)
   | (with_reducible refine LeO.bind ?_ (fun _ => ?_))
   | exact ih0 _ _ _
   | exact LeO.none _
   | refine LeO.ite ?_ ?_
   | refine LeO.bind ?_ (fun _ => ?_)
theorem janusref01_Ints.mono : ∀ a0 a1 k, LeO (janusref01_Ints.f k a0 a1) (janusref01_Ints.f (k + 1) a0 a1) := by
 intro a0 a1 k
 have ih0 := janusref01_Ints.mono_l k
 unfold janusref01_Ints.f
 repeat' first
   | (with_reducible exact ih0 _ _ _)
   | (with_reducible exact LeO.refl _)
   | (with_reducible exact LeO.none _)
   | (with_reducible refine LeO.ite ?_ ?_)
   | (with_reducible refine LeO.bind ?_ (fun _ => ?_))
   | exact ih0 _ _ _
   | exact LeO.none _
   | refine LeO.ite ?_ ?_
   | refine LeO.bind ?_ (fun _ => ?_)
set_option maxHeartbeats 8000000 in
set_option maxRecDepth 100000 in
theorem janusref01_Ints.calls (k : Nat) (A0 : Option Addr) (c0 : Nat) (l0 : List Int) (A1 : Option Addr) (c1 : Nat) (l1 : List Int) (r : Bool) (w : World) (hr0 : Kd.C (Kd.int .i64) w A0 l0.length l0) (hc0 : l0.length ≤ c0) (hr1 : Kd.C (Kd.int .i64) w A1 l1.length l1) (hc1 : l1.length ≤ c1) (h : janusref01_Ints.f k l0 l1 = some r) :
  Calls Try.prog 31 #[.slice A0 l0.length c0, .slice A1 l1.length c1] w fun e w' => e = .returned (.bool r) ∧ Drawn0 w w' := by
 have HR0 := Aside0.mk hr0
 have HC0 := Aside0.mk hc0
 clear hr0 hc0
 have HR1 := Aside0.mk hr1
 have HC1 := Aside0.mk hc1
 clear hr1 hc1
 have H : (if (l0.length : Int) = (l1.length : Int) then (janusref01_Ints.l0 k l0 l1 0) else (some false)) = some r := h
 clear h
 by_cases c3 : (l0.length : Int) = (l1.length : Int)
 ·rw [if_pos c3] at H
  have c3b0 : ((l0.length : Int) == (l1.length : Int)) = true := beq_iff_eq.mpr c3
  have c3b1 : ((l0.length : Int) != (l1.length : Int)) = false := bne_eq_false_iff_eq.mpr c3
  have c3b2 : (l0.length == l1.length) = true := by first | simpa using c3 | (simp at c3 ⊢; omega)
  clear c3
  have H' := Aside0.mk H
  clear H
  go_enter Try.func31, Try.ntmps31
  go_wp2
  repeat (go_quiet (fail); try go_wp2)
  go_loopg [5] k (fun kq v5 w' => ∃ (x5_1 : Int), v5 = .int .i64 x5_1 ∧ Aside0 (janusref01_Ints.l0 kq l0 l1 x5_1 = some r) ∧ Aside0 (kq ≤ k) ∧ Drawn0 w w')
  case atStart => exact ⟨(0), (by first | rfl | (simp; done) | (simp [*]; done)), H', ⟨Nat.le_refl _⟩, by repeat (first | exact Drawn0.refl _ | apply Drawn0.step)⟩
  case round =>
   clear H'
   try clear c1
   try clear p2
   try clear c3
   try clear c3b0
   try clear c3b1
   try clear c3b2
   obtain ⟨x5_1, rfl, HA, HK1, ⟨m1, rfl⟩⟩ := hrel
   cases gk with
   | zero => exact absurd HA.out (by simp [janusref01_Ints.l0])
   | succ k1 =>
    have H := HA.out
    clear HA
    simp only [janusref01_Ints.l0] at H
    by_cases c4 : x5_1 < (l0.length : Int)
    ·rw [if_pos c4] at H
     have c4b0 : decide (x5_1 < (l0.length : Int)) = true := decide_eq_true c4
     clear c4
     by_cases c5 : 0 ≤ x5_1
     ·rw [if_pos c5] at H
      have c5b0 : decide (0 ≤ x5_1) = true := decide_eq_true c5
      clear c5
      by_cases c6 : x5_1 < (l1.length : Int)
      ·rw [if_pos c6] at H
       have c6b0 : decide (x5_1 < (l1.length : Int)) = true := decide_eq_true c6
       clear c6
       by_cases c7 : (rd l0 x5_1) = (rd l1 x5_1)
       ·rw [if_pos c7] at H
        have c7b0 : ((rd l0 x5_1) == (rd l1 x5_1)) = true := beq_iff_eq.mpr c7
        have c7b1 : ((rd l0 x5_1) != (rd l1 x5_1)) = false := bne_eq_false_iff_eq.mpr c7
        clear c7
        have H' := Aside0.mk H
        clear H
        have p266 : 0 ≤ (x5_1 : Int) := of_decide_eq_true (by first | (with_reducible assumption) | assumption)
        have q266 : x5_1 < (l0.length : Int) := of_decide_eq_true (by first | (with_reducible assumption) | assumption)
        obtain ⟨ad266, e266, hx266_0⟩ := Kd.at_int HR0.out x5_1 p266 q266
        cases e266
        replace p266 := eq_true p266
        replace q266 := eq_true q266
        have p267 : 0 ≤ (x5_1 : Int) := of_decide_eq_true (by first | (with_reducible assumption) | assumption)
        have q267 : x5_1 < (l1.length : Int) := of_decide_eq_true (by first | (with_reducible assumption) | assumption)
        obtain ⟨ad267, e267, hx267_0⟩ := Kd.at_int HR1.out x5_1 p267 q267
        cases e267
        replace p267 := eq_true p267
        replace q267 := eq_true q267
        go_wp2
        repeat (go_quiet (fail); try go_wp2)
        go_roundg k1
        case measure => have := HK1.out; omega
        case rel => exact ⟨(wrap64 (x5_1 + 1)), (by first | rfl | (simp; done) | (simp [*]; done)), H', ⟨by have := HK1.out; omega⟩, by repeat (first | exact Drawn0.refl _ | apply Drawn0.step)⟩
       ·rw [if_neg c7] at H
        have c7b0 : ((rd l0 x5_1) == (rd l1 x5_1)) = false := beq_eq_false_iff_ne.mpr c7
        have c7b1 : ((rd l0 x5_1) != (rd l1 x5_1)) = true := bne_iff_ne.mpr c7
        obtain rfl := Option.some.inj H
        have p266 : 0 ≤ (x5_1 : Int) := of_decide_eq_true (by first | (with_reducible assumption) | assumption)
        have q266 : x5_1 < (l0.length : Int) := of_decide_eq_true (by first | (with_reducible assumption) | assumption)
        obtain ⟨ad266, e266, hx266_0⟩ := Kd.at_int HR0.out x5_1 p266 q266
        cases e266
        replace p266 := eq_true p266
        replace q266 := eq_true q266
        have p267 : 0 ≤ (x5_1 : Int) := of_decide_eq_true (by first | (with_reducible assumption) | assumption)
        have q267 : x5_1 < (l1.length : Int) := of_decide_eq_true (by first | (with_reducible assumption) | assumption)
        obtain ⟨ad267, e267, hx267_0⟩ := Kd.at_int HR1.out x5_1 p267 q267
        cases e267
        replace p267 := eq_true p267
        replace q267 := eq_true q267
        go_wp2
        repeat (go_quiet (fail); try go_wp2)
        go_ret
        exact ⟨by first | rfl | (simp; done) | (simp [*]; done) | (simp; unfold wrap64; omega), by repeat (first | exact Drawn0.refl _ | apply Drawn0.step)⟩
      ·rw [if_neg c6] at H
       exact absurd H (by simp)
     ·rw [if_neg c5] at H
      exact absurd H (by simp)
    ·rw [if_neg c4] at H
     have c4b0 : decide (x5_1 < (l0.length : Int)) = false := decide_eq_false c4
     clear c4
     obtain rfl := Option.some.inj H
     go_wp2
     repeat (go_quiet (fail); try go_wp2)
     go_ret
     exact ⟨by first | rfl | (simp; done) | (simp [*]; done) | (simp; unfold wrap64; omega), by repeat (first | exact Drawn0.refl _ | apply Drawn0.step)⟩
 ·rw [if_neg c3] at H
  have c3b0 : ((l0.length : Int) == (l1.length : Int)) = false := beq_eq_false_iff_ne.mpr c3
  have c3b1 : ((l0.length : Int) != (l1.length : Int)) = true := bne_iff_ne.mpr c3
  have c3b2 : (l0.length == l1.length) = false := by first | simpa using c3 | (simp at c3 ⊢; omega)
  obtain rfl := Option.some.inj H
  go_enter Try.func31, Try.ntmps31
  go_wp2
  repeat (go_quiet (fail); try go_wp2)
  go_ret
  exact ⟨by first | rfl | (simp; done) | (simp [*]; done) | (simp; unfold wrap64; omega), by repeat (first | exact Drawn0.refl _ | apply Drawn0.step)⟩
end Go.Proofs.Ytjbpljcfogekhaa.Q
namespace Go.Proofs.Ytjbpljcfogekhaa.Q
open Go.RowKit YtjbpljcfogekhaaW.PrintWords YtjbpljcfogekhaaW.PrintLast YtjbpljcfogekhaaW.PrintMore
attribute [local go_sem] max2_int min2_int max_two min_two max_three min_three max_four min_four
def januslaw06_awake.f (k : Nat)  : Option (Bool) := (valid_Depths.f k (⟨#[0, 0, 23, 1, 3, 21, 0, 0]⟩ : ByteArray)).bind fun bt268 => ((valid_Check.f k (⟨#[0, 0, 23, 1, 3, 21, 0, 0]⟩ : ByteArray)).bind fun t272 => (if t272 = 0 then (if bt268.2 = 0 then ((janusref01_Ints.f k bt268.1 (([0, 1, 1, 0] : List Int))).bind fun t276 => (if t276 = true then ((valid_Entry.f k (⟨#[0, 0, 23, 1, 3, 21, 0, 0]⟩ : ByteArray) 0).bind fun t277 => (if t277 = true then ((valid_Entry.f k (⟨#[0, 0, 23, 1, 3, 21, 0, 0]⟩ : ByteArray) 5).bind fun t278 => (if t278 = true then ((valid_Entry.f k (⟨#[0, 0, 23, 1, 3, 21, 0, 0]⟩ : ByteArray) 4).bind fun t279 => (if t279 = true then (none) else ((valid_Check.f k (⟨#[3]⟩ : ByteArray)).bind fun t280 => (if t280 = 8 then ((valid_Check.f k (⟨#[0, 0]⟩ : ByteArray)).bind fun t281 => (if t281 = 8 then ((valid_Check.f k (⟨#[21, 1, 0]⟩ : ByteArray)).bind fun t282 => (if t282 = 8 then ((valid_Check.f k (⟨#[]⟩ : ByteArray)).bind fun t283 => (some (t283 == 8))) else (none))) else (none))) else (none))))) else (none))) else (none))) else (none))) else (none)) else (none)))
theorem januslaw06_awake.mono : ∀ k, LeO (januslaw06_awake.f k ) (januslaw06_awake.f (k + 1) ) := by
 intro  k
 unfold januslaw06_awake.f
 repeat' first
   | (with_reducible exact janusref01_Ints.mono _ _ _)
   | (with_reducible exact valid_Check.mono _ _)
   | (with_reducible exact valid_Depths.mono _ _)
   | (with_reducible exact valid_Entry.mono _ _ _)
   | (with_reducible exact LeO.refl _)
   | (with_reducible exact LeO.none _)
   | (with_reducible refine LeO.ite ?_ ?_)
   | (with_reducible refine LeO.bind ?_ (fun _ => ?_))
   | exact janusref01_Ints.mono _ _ _
   | exact valid_Check.mono _ _
   | exact valid_Depths.mono _ _
   | exact valid_Entry.mono _ _ _
   | exact LeO.none _
   | refine LeO.ite ?_ ?_
   | refine LeO.bind ?_ (fun _ => ?_)
set_option maxHeartbeats 8000000 in
set_option maxRecDepth 100000 in
theorem januslaw06_awake.calls (k : Nat)  (r : Bool) (w : World) (h : januslaw06_awake.f k  = some r) :
  Calls Try.prog 28 #[] w fun e w' => e = .returned (.bool r) ∧ Below w.heap.size w w' := by
 have HB := Aside0.mk (Below.refl w.heap.size w)
 have H : ((valid_Depths.f k (⟨#[0, 0, 23, 1, 3, 21, 0, 0]⟩ : ByteArray)).bind fun bt268 => ((valid_Check.f k (⟨#[0, 0, 23, 1, 3, 21, 0, 0]⟩ : ByteArray)).bind fun t272 => (if t272 = 0 then (if bt268.2 = 0 then ((janusref01_Ints.f k bt268.1 (([0, 1, 1, 0] : List Int))).bind fun t276 => (if t276 = true then ((valid_Entry.f k (⟨#[0, 0, 23, 1, 3, 21, 0, 0]⟩ : ByteArray) 0).bind fun t277 => (if t277 = true then ((valid_Entry.f k (⟨#[0, 0, 23, 1, 3, 21, 0, 0]⟩ : ByteArray) 5).bind fun t278 => (if t278 = true then ((valid_Entry.f k (⟨#[0, 0, 23, 1, 3, 21, 0, 0]⟩ : ByteArray) 4).bind fun t279 => (if t279 = true then (none) else ((valid_Check.f k (⟨#[3]⟩ : ByteArray)).bind fun t280 => (if t280 = 8 then ((valid_Check.f k (⟨#[0, 0]⟩ : ByteArray)).bind fun t281 => (if t281 = 8 then ((valid_Check.f k (⟨#[21, 1, 0]⟩ : ByteArray)).bind fun t282 => (if t282 = 8 then ((valid_Check.f k (⟨#[]⟩ : ByteArray)).bind fun t283 => (some (t283 == 8))) else (none))) else (none))) else (none))))) else (none))) else (none))) else (none))) else (none)) else (none)))) = some r := h
 clear h
 replace H := Option.bind_eq_some_iff.mp H
 obtain ⟨⟨t268, t269⟩, A10, H⟩ := H
 replace H : ((valid_Check.f k (⟨#[0, 0, 23, 1, 3, 21, 0, 0]⟩ : ByteArray)).bind fun t272 => (if t272 = 0 then (if t269 = 0 then ((janusref01_Ints.f k t268 (([0, 1, 1, 0] : List Int))).bind fun t276 => (if t276 = true then ((valid_Entry.f k (⟨#[0, 0, 23, 1, 3, 21, 0, 0]⟩ : ByteArray) 0).bind fun t277 => (if t277 = true then ((valid_Entry.f k (⟨#[0, 0, 23, 1, 3, 21, 0, 0]⟩ : ByteArray) 5).bind fun t278 => (if t278 = true then ((valid_Entry.f k (⟨#[0, 0, 23, 1, 3, 21, 0, 0]⟩ : ByteArray) 4).bind fun t279 => (if t279 = true then (none) else ((valid_Check.f k (⟨#[3]⟩ : ByteArray)).bind fun t280 => (if t280 = 8 then ((valid_Check.f k (⟨#[0, 0]⟩ : ByteArray)).bind fun t281 => (if t281 = 8 then ((valid_Check.f k (⟨#[21, 1, 0]⟩ : ByteArray)).bind fun t282 => (if t282 = 8 then ((valid_Check.f k (⟨#[]⟩ : ByteArray)).bind fun t283 => (some (t283 == 8))) else (none))) else (none))) else (none))))) else (none))) else (none))) else (none))) else (none)) else (none))) = some r := H
 have A1 := Aside0.mk A10
 clear A10
 replace H := Option.bind_eq_some_iff.mp H
 obtain ⟨t272, A20, H⟩ := H
 replace H : (if t272 = 0 then (if t269 = 0 then ((janusref01_Ints.f k t268 (([0, 1, 1, 0] : List Int))).bind fun t276 => (if t276 = true then ((valid_Entry.f k (⟨#[0, 0, 23, 1, 3, 21, 0, 0]⟩ : ByteArray) 0).bind fun t277 => (if t277 = true then ((valid_Entry.f k (⟨#[0, 0, 23, 1, 3, 21, 0, 0]⟩ : ByteArray) 5).bind fun t278 => (if t278 = true then ((valid_Entry.f k (⟨#[0, 0, 23, 1, 3, 21, 0, 0]⟩ : ByteArray) 4).bind fun t279 => (if t279 = true then (none) else ((valid_Check.f k (⟨#[3]⟩ : ByteArray)).bind fun t280 => (if t280 = 8 then ((valid_Check.f k (⟨#[0, 0]⟩ : ByteArray)).bind fun t281 => (if t281 = 8 then ((valid_Check.f k (⟨#[21, 1, 0]⟩ : ByteArray)).bind fun t282 => (if t282 = 8 then ((valid_Check.f k (⟨#[]⟩ : ByteArray)).bind fun t283 => (some (t283 == 8))) else (none))) else (none))) else (none))))) else (none))) else (none))) else (none))) else (none)) else (none)) = some r := H
 have A2 := Aside0.mk A20
 clear A20
 by_cases c3 : t272 = 0
 ·rw [if_pos c3] at H
  have c3b0 : (t272 == 0) = true := beq_iff_eq.mpr c3
  have c3b1 : (t272 != 0) = false := bne_eq_false_iff_eq.mpr c3
  clear c3
  by_cases c4 : t269 = 0
  ·rw [if_pos c4] at H
   have c4b0 : (t269 == 0) = true := beq_iff_eq.mpr c4
   have c4b1 : (t269 != 0) = false := bne_eq_false_iff_eq.mpr c4
   clear c4
   obtain ⟨y273, hy273⟩ : ∃ y_ : List Int, y_ = (([0, 1, 1, 0] : List Int)) := ⟨_, rfl⟩
   replace H : ((janusref01_Ints.f k t268 y273).bind fun t276 => (if t276 = true then ((valid_Entry.f k (⟨#[0, 0, 23, 1, 3, 21, 0, 0]⟩ : ByteArray) 0).bind fun t277 => (if t277 = true then ((valid_Entry.f k (⟨#[0, 0, 23, 1, 3, 21, 0, 0]⟩ : ByteArray) 5).bind fun t278 => (if t278 = true then ((valid_Entry.f k (⟨#[0, 0, 23, 1, 3, 21, 0, 0]⟩ : ByteArray) 4).bind fun t279 => (if t279 = true then (none) else ((valid_Check.f k (⟨#[3]⟩ : ByteArray)).bind fun t280 => (if t280 = 8 then ((valid_Check.f k (⟨#[0, 0]⟩ : ByteArray)).bind fun t281 => (if t281 = 8 then ((valid_Check.f k (⟨#[21, 1, 0]⟩ : ByteArray)).bind fun t282 => (if t282 = 8 then ((valid_Check.f k (⟨#[]⟩ : ByteArray)).bind fun t283 => (some (t283 == 8))) else (none))) else (none))) else (none))))) else (none))) else (none))) else (none))) = some r := by first | (rw [hy273]; with_reducible exact H) | (have H2_ := (Option.bind_some _ _).symm.trans H; rw [hy273]; with_reducible exact H2_) | (have H2_ := (Option.bind_some _ _).symm.trans H; with_reducible exact H2_) | with_reducible exact H | (rw [hy273]; exact H) | exact H
   have Ny273 := Aside0.mk hy273
   clear hy273
   replace H := Option.bind_eq_some_iff.mp H
   obtain ⟨t276, A50, H⟩ := H
   replace H : (if t276 = true then ((valid_Entry.f k (⟨#[0, 0, 23, 1, 3, 21, 0, 0]⟩ : ByteArray) 0).bind fun t277 => (if t277 = true then ((valid_Entry.f k (⟨#[0, 0, 23, 1, 3, 21, 0, 0]⟩ : ByteArray) 5).bind fun t278 => (if t278 = true then ((valid_Entry.f k (⟨#[0, 0, 23, 1, 3, 21, 0, 0]⟩ : ByteArray) 4).bind fun t279 => (if t279 = true then (none) else ((valid_Check.f k (⟨#[3]⟩ : ByteArray)).bind fun t280 => (if t280 = 8 then ((valid_Check.f k (⟨#[0, 0]⟩ : ByteArray)).bind fun t281 => (if t281 = 8 then ((valid_Check.f k (⟨#[21, 1, 0]⟩ : ByteArray)).bind fun t282 => (if t282 = 8 then ((valid_Check.f k (⟨#[]⟩ : ByteArray)).bind fun t283 => (some (t283 == 8))) else (none))) else (none))) else (none))))) else (none))) else (none))) else (none)) = some r := H
   have A5 := Aside0.mk A50
   clear A50
   by_cases c6 : t276 = true
   ·subst c6
    have H1 : ((valid_Entry.f k (⟨#[0, 0, 23, 1, 3, 21, 0, 0]⟩ : ByteArray) 0).bind fun t277 => (if t277 = true then ((valid_Entry.f k (⟨#[0, 0, 23, 1, 3, 21, 0, 0]⟩ : ByteArray) 5).bind fun t278 => (if t278 = true then ((valid_Entry.f k (⟨#[0, 0, 23, 1, 3, 21, 0, 0]⟩ : ByteArray) 4).bind fun t279 => (if t279 = true then (none) else ((valid_Check.f k (⟨#[3]⟩ : ByteArray)).bind fun t280 => (if t280 = 8 then ((valid_Check.f k (⟨#[0, 0]⟩ : ByteArray)).bind fun t281 => (if t281 = 8 then ((valid_Check.f k (⟨#[21, 1, 0]⟩ : ByteArray)).bind fun t282 => (if t282 = 8 then ((valid_Check.f k (⟨#[]⟩ : ByteArray)).bind fun t283 => (some (t283 == 8))) else (none))) else (none))) else (none))))) else (none))) else (none))) = some r := by rw [if_pos rfl] at H; exact H
    clear H
    have H := H1
    clear H1
    replace H := Option.bind_eq_some_iff.mp H
    obtain ⟨t277, A70, H⟩ := H
    replace H : (if t277 = true then ((valid_Entry.f k (⟨#[0, 0, 23, 1, 3, 21, 0, 0]⟩ : ByteArray) 5).bind fun t278 => (if t278 = true then ((valid_Entry.f k (⟨#[0, 0, 23, 1, 3, 21, 0, 0]⟩ : ByteArray) 4).bind fun t279 => (if t279 = true then (none) else ((valid_Check.f k (⟨#[3]⟩ : ByteArray)).bind fun t280 => (if t280 = 8 then ((valid_Check.f k (⟨#[0, 0]⟩ : ByteArray)).bind fun t281 => (if t281 = 8 then ((valid_Check.f k (⟨#[21, 1, 0]⟩ : ByteArray)).bind fun t282 => (if t282 = 8 then ((valid_Check.f k (⟨#[]⟩ : ByteArray)).bind fun t283 => (some (t283 == 8))) else (none))) else (none))) else (none))))) else (none))) else (none)) = some r := H
    have A7 := Aside0.mk A70
    clear A70
    by_cases c8 : t277 = true
    ·subst c8
     have H1 : ((valid_Entry.f k (⟨#[0, 0, 23, 1, 3, 21, 0, 0]⟩ : ByteArray) 5).bind fun t278 => (if t278 = true then ((valid_Entry.f k (⟨#[0, 0, 23, 1, 3, 21, 0, 0]⟩ : ByteArray) 4).bind fun t279 => (if t279 = true then (none) else ((valid_Check.f k (⟨#[3]⟩ : ByteArray)).bind fun t280 => (if t280 = 8 then ((valid_Check.f k (⟨#[0, 0]⟩ : ByteArray)).bind fun t281 => (if t281 = 8 then ((valid_Check.f k (⟨#[21, 1, 0]⟩ : ByteArray)).bind fun t282 => (if t282 = 8 then ((valid_Check.f k (⟨#[]⟩ : ByteArray)).bind fun t283 => (some (t283 == 8))) else (none))) else (none))) else (none))))) else (none))) = some r := by rw [if_pos rfl] at H; exact H
     clear H
     have H := H1
     clear H1
     replace H := Option.bind_eq_some_iff.mp H
     obtain ⟨t278, A90, H⟩ := H
     replace H : (if t278 = true then ((valid_Entry.f k (⟨#[0, 0, 23, 1, 3, 21, 0, 0]⟩ : ByteArray) 4).bind fun t279 => (if t279 = true then (none) else ((valid_Check.f k (⟨#[3]⟩ : ByteArray)).bind fun t280 => (if t280 = 8 then ((valid_Check.f k (⟨#[0, 0]⟩ : ByteArray)).bind fun t281 => (if t281 = 8 then ((valid_Check.f k (⟨#[21, 1, 0]⟩ : ByteArray)).bind fun t282 => (if t282 = 8 then ((valid_Check.f k (⟨#[]⟩ : ByteArray)).bind fun t283 => (some (t283 == 8))) else (none))) else (none))) else (none))))) else (none)) = some r := H
     have A9 := Aside0.mk A90
     clear A90
     by_cases c10 : t278 = true
     ·subst c10
      have H1 : ((valid_Entry.f k (⟨#[0, 0, 23, 1, 3, 21, 0, 0]⟩ : ByteArray) 4).bind fun t279 => (if t279 = true then (none) else ((valid_Check.f k (⟨#[3]⟩ : ByteArray)).bind fun t280 => (if t280 = 8 then ((valid_Check.f k (⟨#[0, 0]⟩ : ByteArray)).bind fun t281 => (if t281 = 8 then ((valid_Check.f k (⟨#[21, 1, 0]⟩ : ByteArray)).bind fun t282 => (if t282 = 8 then ((valid_Check.f k (⟨#[]⟩ : ByteArray)).bind fun t283 => (some (t283 == 8))) else (none))) else (none))) else (none))))) = some r := by rw [if_pos rfl] at H; exact H
      clear H
      have H := H1
      clear H1
      replace H := Option.bind_eq_some_iff.mp H
      obtain ⟨t279, A110, H⟩ := H
      replace H : (if t279 = true then (none) else ((valid_Check.f k (⟨#[3]⟩ : ByteArray)).bind fun t280 => (if t280 = 8 then ((valid_Check.f k (⟨#[0, 0]⟩ : ByteArray)).bind fun t281 => (if t281 = 8 then ((valid_Check.f k (⟨#[21, 1, 0]⟩ : ByteArray)).bind fun t282 => (if t282 = 8 then ((valid_Check.f k (⟨#[]⟩ : ByteArray)).bind fun t283 => (some (t283 == 8))) else (none))) else (none))) else (none)))) = some r := H
      have A11 := Aside0.mk A110
      clear A110
      by_cases c12 : t279 = true
      ·subst c12
       have H1 : (none) = some r := by rw [if_pos rfl] at H; exact H
       clear H
       have H := H1
       clear H1
       exact absurd H (by simp)
      ·replace c12 := Bool.eq_false_iff.mpr c12
       subst c12
       have H1 : ((valid_Check.f k (⟨#[3]⟩ : ByteArray)).bind fun t280 => (if t280 = 8 then ((valid_Check.f k (⟨#[0, 0]⟩ : ByteArray)).bind fun t281 => (if t281 = 8 then ((valid_Check.f k (⟨#[21, 1, 0]⟩ : ByteArray)).bind fun t282 => (if t282 = 8 then ((valid_Check.f k (⟨#[]⟩ : ByteArray)).bind fun t283 => (some (t283 == 8))) else (none))) else (none))) else (none))) = some r := by rw [if_neg (show ¬ (false = true) by decide)] at H; exact H
       clear H
       have H := H1
       clear H1
       replace H := Option.bind_eq_some_iff.mp H
       obtain ⟨t280, A130, H⟩ := H
       replace H : (if t280 = 8 then ((valid_Check.f k (⟨#[0, 0]⟩ : ByteArray)).bind fun t281 => (if t281 = 8 then ((valid_Check.f k (⟨#[21, 1, 0]⟩ : ByteArray)).bind fun t282 => (if t282 = 8 then ((valid_Check.f k (⟨#[]⟩ : ByteArray)).bind fun t283 => (some (t283 == 8))) else (none))) else (none))) else (none)) = some r := H
       have A13 := Aside0.mk A130
       clear A130
       by_cases c14 : t280 = 8
       ·rw [if_pos c14] at H
        have c14b0 : (t280 == 8) = true := beq_iff_eq.mpr c14
        have c14b1 : (t280 != 8) = false := bne_eq_false_iff_eq.mpr c14
        clear c14
        replace H := Option.bind_eq_some_iff.mp H
        obtain ⟨t281, A150, H⟩ := H
        replace H : (if t281 = 8 then ((valid_Check.f k (⟨#[21, 1, 0]⟩ : ByteArray)).bind fun t282 => (if t282 = 8 then ((valid_Check.f k (⟨#[]⟩ : ByteArray)).bind fun t283 => (some (t283 == 8))) else (none))) else (none)) = some r := H
        have A15 := Aside0.mk A150
        clear A150
        by_cases c16 : t281 = 8
        ·rw [if_pos c16] at H
         have c16b0 : (t281 == 8) = true := beq_iff_eq.mpr c16
         have c16b1 : (t281 != 8) = false := bne_eq_false_iff_eq.mpr c16
         clear c16
         replace H := Option.bind_eq_some_iff.mp H
         obtain ⟨t282, A170, H⟩ := H
         replace H : (if t282 = 8 then ((valid_Check.f k (⟨#[]⟩ : ByteArray)).bind fun t283 => (some (t283 == 8))) else (none)) = some r := H
         have A17 := Aside0.mk A170
         clear A170
         by_cases c18 : t282 = 8
         ·rw [if_pos c18] at H
          have c18b0 : (t282 == 8) = true := beq_iff_eq.mpr c18
          have c18b1 : (t282 != 8) = false := bne_eq_false_iff_eq.mpr c18
          clear c18
          replace H := Option.bind_eq_some_iff.mp H
          obtain ⟨t283, A190, H⟩ := H
          replace H : (some (t283 == 8)) = some r := H
          have A19 := Aside0.mk A190
          clear A190
          obtain rfl := Option.some.inj H
          go_enter Try.func28, Try.ntmps28
          go_wp2_with (first | ((with_reducible refine gate_callee (f := 29) rfl ?_); refine goesL_ (some 6) rfl rfl Try.func29 (by kernel_rfl) rfl #[.string (⟨#[0, 0, 23, 1, 3, 21, 0, 0]⟩ : ByteArray)] rfl (by (try simp only [List.map_toArray, List.map_cons, List.map_nil]); first | done | rfl | (simp only [List.length_drop, List.length_take]; rfl)) ?_; (with_reducible refine (valid_Depths.calls k (⟨#[0, 0, 23, 1, 3, 21, 0, 0]⟩ : ByteArray) t268 t269 _ A1.out).mono ?_); rintro e w20 ⟨v270, rfl, ho0, hb⟩; refine ⟨_, rfl, ?_⟩; have n0_ := Aside0.mk (Kd.R_lower ho0 (below_size (by repeat (first | (with_reducible first | exact HB.out | apply below_alloc | apply pw_below_drewN | apply below_drew1) | exact HB.out)))); have n1_ := Aside0.mk (below_step (by repeat (first | (with_reducible first | exact HB.out | apply below_alloc | apply pw_below_drewN | apply below_drew1) | exact HB.out)) hb); clear HB; have HO271 := n0_; have HB := n1_; clear n0_ n1_; (try clear hb); (try clear hb2); (try clear hk); (try clear hi); (try clear ho0)) | ((with_reducible refine gate_callee (f := 27) rfl ?_); refine goesL_ (some 10) rfl rfl Try.func27 (by kernel_rfl) rfl #[.string (⟨#[0, 0, 23, 1, 3, 21, 0, 0]⟩ : ByteArray)] rfl (by (try simp only [List.map_toArray, List.map_cons, List.map_nil]); first | done | rfl | (simp only [List.length_drop, List.length_take]; rfl)) ?_; (with_reducible refine (valid_Check.calls k (⟨#[0, 0, 23, 1, 3, 21, 0, 0]⟩ : ByteArray) t272 _ A2.out).mono ?_); rintro e w21 ⟨rfl, hb⟩; refine ⟨_, rfl, ?_⟩; have n0_ := Aside0.mk (Kd.R_below (by (with_reducible repeat (first | apply Kd.R_alloc | apply Kd.R_drewN | apply Kd.R_drew)); exact HO271.out) hb); have n1_ := Aside0.mk (below_step (by repeat (first | (with_reducible first | exact HB.out | apply below_alloc | apply pw_below_drewN | apply below_drew1) | exact HB.out)) hb); clear HO271; clear HB; have HO271 := n0_; have HB := n1_; clear n0_ n1_; (try clear hb); (try clear hb2); (try clear hk); (try clear hi)) | ((with_reducible refine gate_dst (N := 18) rfl ?_); (try (refine gate_guard (by rfl) ?_; dsimp only)); refine Kd.R_lit (Kd.int .i64) _ 3 ?hg (N := 18) ?hd (xs := ([0, 1, 1, 0] : List Int)) (inner := [.int .i64 0, .int .i64 1, .int .i64 1, .int .i64 0]) (ok := fun _ => True) (okp := fun _ => True) ?hr ?hp (fun _ hk => hk) trivial (Below.refl _ _) (Nat.le_refl _) (by simp) ?_; (case hd => rfl); (case hg => rfl); (case hr => first | (go_simp; done) | (go_simp; rfl)); (case hp => exact (Reps.one (show Kd.M (Kd.int .i64) _ _ _ 0 [.int .i64 0] from rfl) (Reps.one (show Kd.M (Kd.int .i64) _ _ _ 1 [.int .i64 1] from rfl) (Reps.one (show Kd.M (Kd.int .i64) _ _ _ 1 [.int .i64 1] from rfl) (Reps.one (show Kd.M (Kd.int .i64) _ _ _ 0 [.int .i64 0] from rfl) (Reps.none _ _)))))); intro v274 w22 ho23 hb hg_ hnew_; clear hg_ hnew_; (first | rw [← Ny273.out] at ho23 | (simp only [Int.reduceToNat] at ho23; rw [← Ny273.out] at ho23)); have n0_ := Aside0.mk (Kd.R_elder' (by (with_reducible repeat (first | apply Kd.R_alloc | apply Kd.R_drewN | apply Kd.R_drew)); exact HO271.out) (Kd.R_base ho23) hb); have n1_ := Aside0.mk (Kd.R_lower (Kd.R_new' ho23 (Kd.R_lt (by (with_reducible repeat (first | apply Kd.R_alloc | apply Kd.R_drewN | apply Kd.R_drew)); exact HO271.out))) (below_size (by repeat (first | (with_reducible first | exact HB.out | apply below_alloc | apply pw_below_drewN | apply below_drew1) | exact HB.out)))); have n2_ := Aside0.mk (below_step (by repeat (first | (with_reducible first | exact HB.out | apply below_alloc | apply pw_below_drewN | apply below_drew1) | exact HB.out)) hb); clear HO271; clear HB; have HO271 := n0_; have HO275 := n1_; have HB := n2_; clear n0_ n1_ n2_; clear hb ho23; obtain ⟨Ao24, co24, eo24⟩ := Kd.R_slice HO271.out; subst eo24; obtain ⟨Ao25, co25, eo25⟩ := Kd.R_slice HO275.out; subst eo25) | (go_at_call 31; (with_reducible refine (janusref01_Ints.calls k _ _ t268 _ _ y273 true _ ?side1 ?side2 ?side3 ?side4 A5.out).mono ?_); (case side1 => repeat (first | exact (Kd.R_reads' HO271.out).2.2 | (with_reducible refine Kd.C_alloc ?_ _) | (with_reducible refine Kd.C_drewN ?_ _) | (with_reducible refine Kd.C_drew ?_))); (case side2 => exact (Kd.R_reads' HO271.out).2.1); (case side3 => repeat (first | exact (Kd.R_reads' HO275.out).2.2 | (with_reducible refine Kd.C_alloc ?_ _) | (with_reducible refine Kd.C_drewN ?_ _) | (with_reducible refine Kd.C_drew ?_))); (case side4 => exact (Kd.R_reads' HO275.out).2.1); rintro e w' ⟨rfl, ⟨nd, rfl⟩⟩) | (go_at_call 32; (with_reducible refine (valid_Entry.calls k (⟨#[0, 0, 23, 1, 3, 21, 0, 0]⟩ : ByteArray) 0 true _ A7.out).mono ?_); rintro e w26 ⟨rfl, hb⟩; have n0_ := Aside0.mk (Kd.R_below (by (with_reducible repeat (first | apply Kd.R_alloc | apply Kd.R_drewN | apply Kd.R_drew)); exact HO271.out) hb); have n1_ := Aside0.mk (Kd.R_below (by (with_reducible repeat (first | apply Kd.R_alloc | apply Kd.R_drewN | apply Kd.R_drew)); exact HO275.out) hb); have n2_ := Aside0.mk (below_step (by repeat (first | (with_reducible first | exact HB.out | apply below_alloc | apply pw_below_drewN | apply below_drew1) | exact HB.out)) hb); clear HO271; clear HO275; clear HB; have HO271 := n0_; have HO275 := n1_; have HB := n2_; clear n0_ n1_ n2_; (try clear hb); (try clear hb2); (try clear hk); (try clear hi)) | (go_at_call 32; (with_reducible refine (valid_Entry.calls k (⟨#[0, 0, 23, 1, 3, 21, 0, 0]⟩ : ByteArray) 5 true _ A9.out).mono ?_); rintro e w27 ⟨rfl, hb⟩; have n0_ := Aside0.mk (Kd.R_below (by (with_reducible repeat (first | apply Kd.R_alloc | apply Kd.R_drewN | apply Kd.R_drew)); exact HO271.out) hb); have n1_ := Aside0.mk (Kd.R_below (by (with_reducible repeat (first | apply Kd.R_alloc | apply Kd.R_drewN | apply Kd.R_drew)); exact HO275.out) hb); have n2_ := Aside0.mk (below_step (by repeat (first | (with_reducible first | exact HB.out | apply below_alloc | apply pw_below_drewN | apply below_drew1) | exact HB.out)) hb); clear HO271; clear HO275; clear HB; have HO271 := n0_; have HO275 := n1_; have HB := n2_; clear n0_ n1_ n2_; (try clear hb); (try clear hb2); (try clear hk); (try clear hi)) | (go_at_call 32; (with_reducible refine (valid_Entry.calls k (⟨#[0, 0, 23, 1, 3, 21, 0, 0]⟩ : ByteArray) 4 false _ A11.out).mono ?_); rintro e w28 ⟨rfl, hb⟩; have n0_ := Aside0.mk (Kd.R_below (by (with_reducible repeat (first | apply Kd.R_alloc | apply Kd.R_drewN | apply Kd.R_drew)); exact HO271.out) hb); have n1_ := Aside0.mk (Kd.R_below (by (with_reducible repeat (first | apply Kd.R_alloc | apply Kd.R_drewN | apply Kd.R_drew)); exact HO275.out) hb); have n2_ := Aside0.mk (below_step (by repeat (first | (with_reducible first | exact HB.out | apply below_alloc | apply pw_below_drewN | apply below_drew1) | exact HB.out)) hb); clear HO271; clear HO275; clear HB; have HO271 := n0_; have HO275 := n1_; have HB := n2_; clear n0_ n1_ n2_; (try clear hb); (try clear hb2); (try clear hk); (try clear hi)) | (go_at_call 27; (with_reducible refine (valid_Check.calls k (⟨#[3]⟩ : ByteArray) t280 _ A13.out).mono ?_); rintro e w29 ⟨rfl, hb⟩; have n0_ := Aside0.mk (Kd.R_below (by (with_reducible repeat (first | apply Kd.R_alloc | apply Kd.R_drewN | apply Kd.R_drew)); exact HO271.out) hb); have n1_ := Aside0.mk (Kd.R_below (by (with_reducible repeat (first | apply Kd.R_alloc | apply Kd.R_drewN | apply Kd.R_drew)); exact HO275.out) hb); have n2_ := Aside0.mk (below_step (by repeat (first | (with_reducible first | exact HB.out | apply below_alloc | apply pw_below_drewN | apply below_drew1) | exact HB.out)) hb); clear HO271; clear HO275; clear HB; have HO271 := n0_; have HO275 := n1_; have HB := n2_; clear n0_ n1_ n2_; (try clear hb); (try clear hb2); (try clear hk); (try clear hi)) | (go_at_call 27; (with_reducible refine (valid_Check.calls k (⟨#[0, 0]⟩ : ByteArray) t281 _ A15.out).mono ?_); rintro e w30 ⟨rfl, hb⟩; have n0_ := Aside0.mk (Kd.R_below (by (with_reducible repeat (first | apply Kd.R_alloc | apply Kd.R_drewN | apply Kd.R_drew)); exact HO271.out) hb); have n1_ := Aside0.mk (Kd.R_below (by (with_reducible repeat (first | apply Kd.R_alloc | apply Kd.R_drewN | apply Kd.R_drew)); exact HO275.out) hb); have n2_ := Aside0.mk (below_step (by repeat (first | (with_reducible first | exact HB.out | apply below_alloc | apply pw_below_drewN | apply below_drew1) | exact HB.out)) hb); clear HO271; clear HO275; clear HB; have HO271 := n0_; have HO275 := n1_; have HB := n2_; clear n0_ n1_ n2_; (try clear hb); (try clear hb2); (try clear hk); (try clear hi)) | (go_at_call 27; (with_reducible refine (valid_Check.calls k (⟨#[21, 1, 0]⟩ : ByteArray) t282 _ A17.out).mono ?_); rintro e w31 ⟨rfl, hb⟩; have n0_ := Aside0.mk (Kd.R_below (by (with_reducible repeat (first | apply Kd.R_alloc | apply Kd.R_drewN | apply Kd.R_drew)); exact HO271.out) hb); have n1_ := Aside0.mk (Kd.R_below (by (with_reducible repeat (first | apply Kd.R_alloc | apply Kd.R_drewN | apply Kd.R_drew)); exact HO275.out) hb); have n2_ := Aside0.mk (below_step (by repeat (first | (with_reducible first | exact HB.out | apply below_alloc | apply pw_below_drewN | apply below_drew1) | exact HB.out)) hb); clear HO271; clear HO275; clear HB; have HO271 := n0_; have HO275 := n1_; have HB := n2_; clear n0_ n1_ n2_; (try clear hb); (try clear hb2); (try clear hk); (try clear hi)) | (go_at_call 27; (with_reducible refine (valid_Check.calls k (⟨#[]⟩ : ByteArray) t283 _ A19.out).mono ?_); rintro e w32 ⟨rfl, hb⟩; have n0_ := Aside0.mk (Kd.R_below (by (with_reducible repeat (first | apply Kd.R_alloc | apply Kd.R_drewN | apply Kd.R_drew)); exact HO271.out) hb); have n1_ := Aside0.mk (Kd.R_below (by (with_reducible repeat (first | apply Kd.R_alloc | apply Kd.R_drewN | apply Kd.R_drew)); exact HO275.out) hb); have n2_ := Aside0.mk (below_step (by repeat (first | (with_reducible first | exact HB.out | apply below_alloc | apply pw_below_drewN | apply below_drew1) | exact HB.out)) hb); clear HO271; clear HO275; clear HB; have HO271 := n0_; have HO275 := n1_; have HB := n2_; clear n0_ n1_ n2_; (try clear hb); (try clear hb2); (try clear hk); (try clear hi)))
          go_ret
          exact ⟨by first | rfl | (simp [errW_none, errW_some] <;> rfl) | (simp [*, errW_none, errW_some] <;> rfl), by repeat (first | (with_reducible first | exact HB.out | apply below_alloc | apply pw_below_drewN | apply below_drew1) | exact HB.out)⟩
         ·rw [if_neg c18] at H
          exact absurd H (by simp)
        ·rw [if_neg c16] at H
         exact absurd H (by simp)
       ·rw [if_neg c14] at H
        exact absurd H (by simp)
     ·replace c10 := Bool.eq_false_iff.mpr c10
      subst c10
      have H1 : (none) = some r := by rw [if_neg (show ¬ (false = true) by decide)] at H; exact H
      clear H
      have H := H1
      clear H1
      exact absurd H (by simp)
    ·replace c8 := Bool.eq_false_iff.mpr c8
     subst c8
     have H1 : (none) = some r := by rw [if_neg (show ¬ (false = true) by decide)] at H; exact H
     clear H
     have H := H1
     clear H1
     exact absurd H (by simp)
   ·replace c6 := Bool.eq_false_iff.mpr c6
    subst c6
    have H1 : (none) = some r := by rw [if_neg (show ¬ (false = true) by decide)] at H; exact H
    clear H
    have H := H1
    clear H1
    exact absurd H (by simp)
  ·rw [if_neg c4] at H
   exact absurd H (by simp)
 ·rw [if_neg c3] at H
  exact absurd H (by simp)
end Go.Proofs.Ytjbpljcfogekhaa.Q
namespace Go.Proofs.Ytjbpljcfogekhaa.Core
open Go.RowKit Ytjbpljcfogekhaa.Q YtjbpljcfogekhaaW.PrintWords YtjbpljcfogekhaaW.PrintLast YtjbpljcfogekhaaW.PrintMore
theorem awake06 : Ev (fun k => januslaw06_awake.f k) true := Ev.of januslaw06_awake.mono (k := 60) (by decide +kernel)
structure Ready (s : ByteArray) (l : List S36) (ds : List Int) : Prop where
 dec : decAll s = some l
 size : ¬ (s.size < 1 ∨ 192 < s.size)
 ok : okS l = true
 found : Core.Found l ds
 good : ¬ Bad l
theorem readS_some {s : ByteArray} {l : List S36} {ds : List Int} (h : readS s = some (l, ds)) : Ready s l ds := by
 unfold readS at h
 cases hd : decAll s with
 | none => rw [hd] at h; cases h
 | some l' =>
  rw [hd] at h
  simp only at h
  split at h
  ·cases h
  ·rename_i hsz
   split at h
   ·rename_i hok
    have hlp := decAll_pos hd (by omega)
    have hln := decAll_length hd
    obtain ⟨r, hr, hR⟩ := look_right hok hlp 400 (by omega)
    rw [hr] at h
    cases r with
    | none => cases h
    | some ds' =>
     simp only [Option.some.injEq, Prod.mk.injEq] at h
     obtain ⟨rfl, rfl⟩ := h
     cases hR with
     | yes F hB => exact ⟨hd, hsz, hok, F, hB⟩
   ·cases h
theorem depths_none' {s : ByteArray} (h : readS s = none) : depthsS s = ([], 8) := by unfold depthsS; rw [h]; rfl
theorem findS_of {l : List S36} (hp : l.Pairwise fun x y => x.f2 < y.f2) {j : Nat} {x : S36} (hx : l[j]? = some x) : findS l x.f2 = some j := by
 have h := findS_snoc hp hx x.f2
 rw [if_pos rfl] at h
 unfold findS at h ⊢
 have hj := (List.getElem?_eq_some_iff.1 hx).1
 rw [List.findIdx?_eq_some_iff_getElem]
 refine ⟨hj, ?_, ?_⟩
 ·rw [List.getElem?_eq_getElem hj] at hx
  rw [Option.some.inj hx]; simp
 ·intro i hi
  have := List.pairwise_iff_getElem.1 hp i j (by omega) hj hi
  rw [List.getElem?_eq_getElem hj] at hx
  rw [Option.some.inj hx] at this
  simp; omega
theorem depthsS_some {s : ByteArray} {l : List S36} {ds : List Int} (h : readS s = some (l, ds)) : depthsS s = (ds, 0) := by unfold depthsS; rw [h]; rfl
end Go.Proofs.Ytjbpljcfogekhaa.Core
namespace Go.Proofs.Ytjbpljcfogekhaa.Core
open Go.RowKit Ytjbpljcfogekhaa.Q YtjbpljcfogekhaaW.PrintWords YtjbpljcfogekhaaW.PrintLast YtjbpljcfogekhaaW.PrintMore
/-- A text's bytes as numbers. -/
def nums8 (s : ByteArray) : List Int := s.data.toList.map fun u => (u.toNat : Int)
theorem nums8_length (s : ByteArray) : (nums8 s).length = s.size := by
 unfold nums8
 rw [List.length_map, Array.length_toList]
 rfl
theorem nums8_get (s : ByteArray) (i : Nat) (h : i < s.size) : (nums8 s)[i]? = some (bt s i) := by
 have h2 : i < s.data.toList.length := by rw [Array.length_toList]; exact h
 unfold nums8 bt
 rw [List.getElem?_map, List.getElem?_eq_getElem h2, dif_pos (by simpa using h)]
 simp only [Option.map_some, Int.toNat_natCast]
 rfl
theorem nums8_str (bs : List Int) (h : ∀ b ∈ bs, 0 ≤ b ∧ b < 256) : nums8 (strOfNums bs) = bs := by
 unfold nums8 strOfNums
 simp only [List.map_map]
 have : ∀ b ∈ bs, ((fun u : UInt8 => (u.toNat : Int)) ∘ fun n : Int => UInt8.ofNat n.toNat) b = b := by
  intro b hb
  have := h b hb
  simp only [Function.comp, UInt8.toNat_ofNat']
  omega
 exact (List.map_congr_left this).trans (List.map_id _)
/-- A piece of the text. -/
theorem bytesAt_drop (s : ByteArray) : ∀ (n p : Nat), p + n ≤ s.size → bytesAt s (p : Int) n = ((nums8 s).drop p).take n
 | 0, p, h => by simp [bytesAt]
 | n + 1, p, h => by
  have hp : p < (nums8 s).length := by rw [nums8_length]; omega
  have e := nums8_get s p (by omega)
  rw [List.getElem?_eq_getElem hp, Option.some.injEq] at e
  rw [bytesAt, List.drop_eq_getElem_cons hp, List.take_succ_cons, e]
  have := bytesAt_drop s n (p + 1) (by omega)
  rw [show ((p + 1 : Nat) : Int) = (p : Int) + 1 from by omega] at this
  rw [this]
theorem bt_drop (s : ByteArray) (p : Nat) (a : Int) (l : List Int) (h : (nums8 s).drop p = a :: l) : p < s.size ∧ bt s (p : Int) = a ∧ (nums8 s).drop (p + 1) = l := by
 have hp : p < (nums8 s).length := by
  rcases Nat.lt_or_ge p (nums8 s).length with h1 | h1
  ·exact h1
  ·rw [List.drop_of_length_le h1] at h; cases h
 rw [List.drop_eq_getElem_cons hp] at h
 injection h with h1 h2
 have hp' : p < s.size := by rw [← nums8_length]; exact hp
 have e := nums8_get s p hp'
 rw [List.getElem?_eq_getElem hp, Option.some.injEq] at e
 exact ⟨hp', by rw [← e, h1], h2⟩
def place : Int → List S36 → List S36
 | _, [] => []
 | p, x :: l => ⟨x.f0, x.f1, p, 1 + opw x.f0⟩ :: place (p + (1 + opw x.f0)) l
theorem place_length : ∀ (l : List S36) (p : Int), (place p l).length = l.length
 | [], _ => rfl
 | x :: l, p => by rw [place, List.length_cons, List.length_cons, place_length l]
theorem encOne_some {x : S36} {a : List Int} (h : encOne x = some a) : 0 ≤ opw x.f0 ∧ a = x.f0 :: leB (opw x.f0).toNat x.f1 ∧ x.f1 / 256 ^ (opw x.f0).toNat = 0 := by
 unfold encOne at h
 split at h
 ·cases h
 ·split at h
  ·rename_i hz
   have := opw_op (op := x.f0) (by omega)
   rw [Int.emod_eq_of_lt (by omega) (by omega)] at h
   exact ⟨by omega, (Option.some.inj h).symm, hz⟩
  ·cases h
theorem encAll_range : ∀ (l : List S36) (bs : List Int), encAll l = some bs → ∀ b ∈ bs, 0 ≤ b ∧ b < 256
 | [], bs, h, b, hb => by simp [encAll] at h; subst h; cases hb
 | x :: l, bs, h, b, hb => by
  rw [encAll] at h
  obtain ⟨a, ha, h⟩ := Option.bind_eq_some_iff.1 h
  obtain ⟨c, hc, h⟩ := Option.bind_eq_some_iff.1 h
  obtain rfl := Option.some.inj h
  obtain ⟨h0, rfl, _⟩ := encOne_some ha
  have := opw_op h0
  rcases List.mem_append.1 hb with hb | hb
  ·rcases List.mem_cons.1 hb with rfl | hb
   ·omega
   ·exact leB_range _ _ b hb
  ·exact encAll_range l c hc b hb
theorem encAll_length : ∀ (l : List S36) (bs : List Int), encAll l = some bs → bs.length ≤ 9 * l.length
 | [], bs, h => by simp [encAll] at h; subst h; simp
 | x :: l, bs, h => by
  rw [encAll] at h
  obtain ⟨a, ha, h⟩ := Option.bind_eq_some_iff.1 h
  obtain ⟨c, hc, h⟩ := Option.bind_eq_some_iff.1 h
  obtain rfl := Option.some.inj h
  obtain ⟨h0, rfl, _⟩ := encOne_some ha
  have := opw_le x.f0
  have := encAll_length l c hc
  simp [leB_length]
  omega
/-- One instruction is read as it was written. -/
theorem one_back (s : ByteArray) (p : Nat) (x : S36) (a c : List Int) (h0 : 0 ≤ x.f1) (ha : encOne x = some a) (hd : (nums8 s).drop p = a ++ c) :
  p < s.size ∧ oneS s (p : Int) = (x.f0, x.f1, (p : Int), 1 + opw x.f0, 0) ∧ (nums8 s).drop (p + a.length) = c ∧ (a.length : Int) = 1 + opw x.f0 := by
 obtain ⟨hw, rfl, hz⟩ := encOne_some ha
 have hlen : ((nums8 s).drop p).length = s.size - p := by rw [List.length_drop, nums8_length]
 rw [List.cons_append] at hd
 obtain ⟨hp, hb, hd1⟩ := bt_drop s p _ _ hd
 have hl2 : (x.f0 :: leB (opw x.f0).toNat x.f1 : List Int).length = 1 + (opw x.f0).toNat := by rw [List.length_cons, leB_length]; omega
 have hsz : 1 + (opw x.f0).toNat ≤ s.size - p := by
  rw [← hlen, hd, List.length_cons, List.length_append, leB_length]
  omega
 refine ⟨hp, ?_, ?_, by rw [hl2]; omega⟩
 ·unfold oneS
  rw [if_neg (by omega), hb, if_neg (by omega)]
  have e := bytesAt_drop s (opw x.f0).toNat (p + 1) (by omega)
  rw [hd1] at e
  rw [show ((p + 1 : Nat) : Int) = (p : Int) + 1 from by omega] at e
  rw [e, List.take_append_of_le_length (by rw [leB_length]; omega), List.take_of_length_le (by rw [leB_length]; omega), leN_leB _ _ h0]
  have h4 := Int.emod_add_mul_ediv x.f1 (256 ^ (opw x.f0).toNat)
  rw [hz] at h4
  rw [show x.f1 % 256 ^ (opw x.f0).toNat = x.f1 from by omega]
 ·rw [hl2, show p + (1 + (opw x.f0).toNat) = p + 1 + (opw x.f0).toNat from by omega, ← List.drop_drop, hd1]
  rw [List.drop_append_of_le_length (by rw [leB_length]; omega), List.drop_of_length_le (by rw [leB_length]; omega), List.nil_append]
theorem dec_enc (s : ByteArray) : ∀ (l : List S36) (d p : Nat) (bs : List Int), (∀ x ∈ l, 0 ≤ x.f1) → encAll l = some bs → p ≤ s.size → (nums8 s).drop p = bs → s.size - p ≤ d → dec s d (p : Int) = some (place (p : Int) l)
 | [], d, p, bs, hw, he, hp, hd, hn => by
  simp [encAll] at he
  subst he
  have hlen : ((nums8 s).drop p).length = s.size - p := by rw [List.length_drop, nums8_length]
  rw [hd] at hlen
  simp at hlen
  cases d with
  | zero => rfl
  | succ d => rw [dec, if_neg (by omega)]; rfl
 | x :: l, d, p, bs, hw, he, hp, hd, hn => by
  rw [encAll] at he
  obtain ⟨a, ha, h⟩ := Option.bind_eq_some_iff.1 he
  obtain ⟨c, hc, h⟩ := Option.bind_eq_some_iff.1 h
  obtain rfl := Option.some.inj h
  obtain ⟨hlt, h1, h2, h3⟩ := one_back s p x a c (hw x (List.mem_cons_self ..)) ha hd
  have hpos := (encOne_some ha).1
  cases d with
  | zero => omega
  | succ d =>
   rw [dec, if_pos (by omega), h1, if_pos rfl]
   have hlen : ((nums8 s).drop (p + a.length)).length = s.size - (p + a.length) := by rw [List.length_drop, nums8_length]
   have hle : p + a.length ≤ s.size := by
    have e : ((nums8 s).drop p).length = s.size - p := by rw [List.length_drop, nums8_length]
    rw [hd, List.length_append] at e
    omega
   have ih := dec_enc s l d (p + a.length) c (fun y hy => hw y (List.mem_cons_of_mem _ hy)) hc hle h2 (by omega)
   rw [show ((p + a.length : Nat) : Int) = (p : Int) + (1 + opw x.f0) from by omega] at ih
   simp only
   rw [ih]
   rfl
/-- .. and the other way. -/
theorem enc_dec (s : ByteArray) : ∀ (d p : Nat) (m : List S36), p ≤ s.size → s.size - p ≤ d → dec s d (p : Int) = some m → encAll m = some ((nums8 s).drop p)
  | 0, p, m, hp, hd, h => by
    rw [dec] at h
    obtain rfl := Option.some.inj h
    rw [List.drop_of_length_le (by rw [nums8_length]; omega)]
    rfl
  | d + 1, p, m, hp, hd, h => by
    rw [dec] at h
    by_cases hlt : (p : Int) < s.size
    · rw [if_pos hlt] at h
      by_cases hz : (oneS s (p : Int)).2.2.2.2 = 0
      · rw [if_pos hz] at h
        obtain ⟨m', hm', h⟩ := Option.bind_eq_some_iff.1 h
        obtain rfl := Option.some.inj h
        unfold oneS at hz hm' ⊢
        rw [if_neg (by omega)] at hz hm' ⊢
        by_cases hbad : opw (bt s (p : Int)) < 0 ∨ (s.size : Int) - (p : Int) - 1 < opw (bt s (p : Int))
        · rw [if_pos hbad] at hz
          simp at hz
        · rw [if_neg hbad] at hm' ⊢
          simp only [mkIns]
          have hw : 0 ≤ opw (bt s (p : Int)) := by omega
          have hop := opw_op hw
          have hp2 : p < (nums8 s).length := by rw [nums8_length]; omega
          have e := nums8_get s p (by omega)
          rw [List.getElem?_eq_getElem hp2, Option.some.injEq] at e
          obtain ⟨n, hn⟩ := Int.eq_ofNat_of_zero_le hw
          rw [hn] at hm' hbad ⊢
          simp only [Int.toNat_natCast] at hm' ⊢
          have hb := bytesAt_drop s n (p + 1) (by omega)
          rw [show ((p + 1 : Nat) : Int) = (p : Int) + 1 from by omega] at hb
          have hr := bytesAt_range s n ((p : Int) + 1)
          have hrr := leN_range _ hr
          have hl := leB_leN _ hr
          rw [bytesAt_length] at hrr hl
          have ih := enc_dec s d (p + 1 + n) m' (by omega) (by omega) (by
            rw [show ((p + 1 + n : Nat) : Int) = (p : Int) + (1 + (n : Int)) from by omega]
            exact hm')
          rw [encAll]
          unfold encOne
          simp only [hn, Int.toNat_natCast]
          rw [if_neg (by omega), if_pos (Int.ediv_eq_zero_of_lt hrr.1 hrr.2), hl, Int.emod_eq_of_lt (by omega) (by omega), ih]
          simp only [Option.bind_some, Option.some.injEq]
          have hj := List.take_append_drop n ((nums8 s).drop (p + 1))
          rw [List.drop_drop] at hj
          rw [hb, List.drop_eq_getElem_cons hp2, e, List.cons_append, hj]
      · rw [if_neg hz] at h
        cases h
    · rw [if_neg hlt] at h
      obtain rfl := Option.some.inj h
      rw [List.drop_of_length_le (by rw [nums8_length]; omega)]
      rfl
end Go.Proofs.Ytjbpljcfogekhaa.Core
namespace Go.Proofs.Ytjbpljcfogekhaa.Core
open Go.RowKit Ytjbpljcfogekhaa.Q YtjbpljcfogekhaaW.PrintWords YtjbpljcfogekhaaW.PrintLast YtjbpljcfogekhaaW.PrintMore
theorem encAll_app : ∀ (l m : List S36) (a b : List Int), encAll l = some a → encAll m = some b → encAll (l ++ m) = some (a ++ b)
 | [], m, a, b, h, h' => by
  simp only [encAll, Option.some.injEq] at h
  subst h
  exact h'
 | x :: l, m, a, b, h, h' => by
  rw [encAll] at h
  obtain ⟨c, hc, h⟩ := Option.bind_eq_some_iff.1 h
  obtain ⟨e, he, h⟩ := Option.bind_eq_some_iff.1 h
  obtain rfl := Option.some.inj h
  rw [List.cons_append, encAll, hc, encAll_app l m e b he h', List.append_assoc]
  rfl
theorem place_app : ∀ (l m : List S36) (p : Int), ∃ q, place p (l ++ m) = place p l ++ place q m
 | [], m, p => ⟨p, rfl⟩
 | x :: l, m, p => by
  obtain ⟨q, hq⟩ := place_app l m (p + (1 + opw x.f0))
  exact ⟨q, by rw [List.cons_append, place, hq, place, List.cons_append]⟩
theorem place_get : ∀ (l : List S36) (p : Int) (y : S36), y ∈ place p l → ∃ x ∈ l, y.f0 = x.f0 ∧ y.f1 = x.f1
 | [], p, y, h => by simp [place] at h
 | x :: l, p, y, h => by
  rw [place] at h
  rcases List.mem_cons.1 h with rfl | h
  ·exact ⟨x, List.mem_cons_self .., rfl, rfl⟩
  ·obtain ⟨x', h1, h2⟩ := place_get l _ y h
   exact ⟨x', List.mem_cons_of_mem _ h1, h2⟩
theorem nums8_app (s t : ByteArray) : nums8 (s ++ t) = nums8 s ++ nums8 t := by
 unfold nums8
 rw [ByteArray.data_append, Array.toList_append, List.map_append]
theorem findS_app {l m : List S36} {a : Int} {k : Nat} (h : findS l a = some k) : findS (l ++ m) a = some k := by
 unfold findS at h ⊢
 rw [List.findIdx?_append, h]
 rfl
/-- what is put behind -/
structure Dead (more : List S36) : Prop where
 ok : ∀ x ∈ more, 0 ≤ tk x
 jmp : ∀ x ∈ more, jmp x = true → x.f1 = 0
theorem dead_dec {s t : ByteArray} {l more : List S36} {bs : List Int} (hd : decAll s = some l) (he : encAll more = some bs) (ht : t = strOfNums bs) (hw : ∀ x ∈ more, 0 ≤ x.f1) :
  ∃ m, decAll (s ++ t) = some (l ++ m) ∧ m.length = more.length ∧ ∀ y ∈ m, ∃ x ∈ more, y.f0 = x.f0 ∧ y.f1 = x.f1 := by
 have e1 := enc_dec s s.size 0 l (by omega) (by omega) hd
 simp only [List.drop_zero] at e1
 have hwl : ∀ x ∈ l, 0 ≤ x.f1 := fun x hx => by have := decAll_range hd x hx; omega
 have e2 : decAll s = some (place 0 l) := dec_enc s l s.size 0 (nums8 s) hwl e1 (by omega) (by simp) (by omega)
 rw [hd] at e2
 have e3 := Option.some.inj e2
 have hb := nums8_str bs (encAll_range more bs he)
 have e4 := encAll_app l more _ _ e1 he
 have e5 : decAll (s ++ t) = some (place 0 (l ++ more)) := dec_enc (s ++ t) (l ++ more) (s ++ t).size 0 (nums8 s ++ bs) (fun x hx => by
  rcases List.mem_append.1 hx with h | h
  ·exact hwl x h
  ·exact hw x h) e4 (by omega) (by rw [List.drop_zero, nums8_app, ht, hb]) (by omega)
 obtain ⟨q, hq⟩ := place_app l more 0
 rw [hq, ← e3] at e5
 exact ⟨_, e5, place_length _ _, fun y hy => place_get more q y hy⟩
theorem tk_same {x y : S36} (h0 : y.f0 = x.f0) (h1 : y.f1 = x.f1) : tk y = tk x := by unfold tk; rw [h0, h1]
theorem reach_back {s : ByteArray} {l m : List S36} {ds : List Int} (R : Ready s l ds) : ∀ {i : Nat} {d : Int}, Reach (l ++ m) i d → Reach l i d := by
 intro i d h
 induction h with
 | start => exact .start
 | @step i d x j hr hx h1 h2 hj ih =>
  have hi : i < l.length := by have := (List.getElem?_eq_some_iff.1 (R.found.all _ _ ih)).1; rw [R.found.len] at this; exact this
  rw [List.getElem?_append_left hi] at hx
  refine .step ih hx h1 h2 ?_
  unfold succs at hj ⊢
  rcases List.mem_append.1 hj with h | h
  ·split at h
   ·rename_i hjm
    obtain ⟨k, hk⟩ := okS_jmp R.ok hx hjm
    rw [findS_app hk] at h
    exact List.mem_append.2 (.inl (by rw [if_pos hjm, hk]; exact h))
   ·simp at h
  ·exact List.mem_append.2 (.inr h)
theorem reach_on {s : ByteArray} {l m : List S36} {ds : List Int} (R : Ready s l ds) : ∀ {i : Nat} {d : Int}, Reach l i d → Reach (l ++ m) i d := by
 intro i d h
 induction h with
 | start => exact .start
 | @step i d x j hr hx h1 h2 hj ih =>
  have hi := (List.getElem?_eq_some_iff.1 hx).1
  refine .step ih (by rw [List.getElem?_append_left hi]; exact hx) h1 h2 ?_
  unfold succs at hj ⊢
  rcases List.mem_append.1 hj with h | h
  ·split at h
   ·rename_i hjm
    obtain ⟨k, hk⟩ := okS_jmp R.ok hx hjm
    rw [hk] at h
    exact List.mem_append.2 (.inl (by rw [if_pos hjm, findS_app hk]; exact h))
   ·simp at h
  ·exact List.mem_append.2 (.inr h)
theorem dead_found {s : ByteArray} {l m : List S36} {ds : List Int} (R : Ready s l ds) : Found (l ++ m) (ds ++ List.replicate m.length (-1)) where
 len := by simp [R.found.len]
 iff i d h h0 := by
  by_cases hi : i < ds.length
  ·rw [List.getElem?_append_left hi] at h
   exact reach_on R (R.found.iff i d h h0)
  ·rw [List.getElem?_append_right (by omega)] at h
   have := List.mem_replicate.1 (List.mem_of_getElem? h)
   omega
 neg i d h h0 := by
  by_cases hi : i < ds.length
  ·rw [List.getElem?_append_left hi] at h
   exact R.found.neg i d h h0
  ·rw [List.getElem?_append_right (by omega)] at h
   exact (List.mem_replicate.1 (List.mem_of_getElem? h)).2
 all i d h := by
  have := R.found.all i d (reach_back R h)
  rw [List.getElem?_append_left (List.getElem?_eq_some_iff.1 this).1]
  exact this
theorem dead_good {s : ByteArray} {l m : List S36} {ds : List Int} (R : Ready s l ds) : ¬ Bad (l ++ m) := by
 rintro (⟨hr, hx, h⟩ | ⟨hr⟩ | ⟨h1, h2, hne⟩)
 ·have hb := reach_back R hr
  have hi := (List.getElem?_eq_some_iff.1 (R.found.all _ _ hb)).1
  rw [R.found.len] at hi
  rw [List.getElem?_append_left hi] at hx
  exact R.good (.stack hb hx h)
 ·have hi := (List.getElem?_eq_some_iff.1 (R.found.all _ _ (reach_back R hr))).1
  rw [R.found.len, List.length_append] at hi
  omega
 ·exact R.good (.two (reach_back R h1) (reach_back R h2) hne)
/-- CODE THAT CAN'T BE REACHED: the depths are as they were, and -1 behind. -/
theorem dead_depths {s t : ByteArray} {l more : List S36} {ds : List Int} {bs : List Int} (R : Ready s l ds) (he : encAll more = some bs) (ht : t = strOfNums bs) (hw : ∀ x ∈ more, 0 ≤ x.f1) (D : Dead more) (hsz : (s ++ t).size ≤ 192) :
  depthsS (s ++ t) = (ds ++ List.replicate more.length (-1), 0) := by
 obtain ⟨m, hdec, hml, hm⟩ := dead_dec R.dec he ht hw
 have h0 : 0 < l.length := decAll_pos R.dec (by have := R.size; omega)
 have hx0 := List.getElem?_eq_getElem h0
 have hz : (l[0]).f2 = 0 := by
  have e1 := enc_dec s s.size 0 l (by omega) (by omega) R.dec
  simp only [List.drop_zero] at e1
  have e2 : decAll s = some (place 0 l) := dec_enc s l s.size 0 (nums8 s) (fun x hx => by have := decAll_range R.dec x hx; omega) e1 (by omega) (by simp) (by omega)
  rw [R.dec] at e2
  have e3 := Option.some.inj e2
  cases l with
  | nil => simp at h0
  | cons x l' =>
   rw [place] at e3
   have := (List.cons.inj e3).1
   simp only [List.getElem_cons_zero]
   rw [this]
 have hpl := dec_places s _ _ _ (by omega) R.dec
 have hf0 : findS l 0 = some 0 := by
  have := findS_of hpl hx0
  rw [hz] at this
  exact this
 have hok : okS (l ++ m) = true := by
  unfold okS
  rw [List.all_eq_true]
  intro y hy
  simp only [Bool.and_eq_true, decide_eq_true_eq]
  rcases List.mem_append.1 hy with h | h
  ·have hyy := List.all_eq_true.1 R.ok y h
   simp only [Bool.and_eq_true, decide_eq_true_eq] at hyy
   refine ⟨hyy.1, ?_⟩
   cases hj : jmp y with
   | false => rfl
   | true =>
    have := hyy.2
    rw [hj] at this
    simp only [Bool.not_true, Bool.false_or] at this
    obtain ⟨k, hk⟩ := Option.isSome_iff_exists.1 this
    rw [findS_app hk]; rfl
  ·obtain ⟨x, hx, e0, e1⟩ := hm y h
   refine ⟨by rw [tk_same e0 e1]; exact D.ok x hx, ?_⟩
   cases hj : jmp y with
   | false => rfl
   | true =>
    have : y.f1 = 0 := by rw [e1]; exact D.jmp x hx (by rw [← hj]; unfold jmp; rw [e0])
    rw [this, findS_app hf0]; rfl
 have hln := decAll_length hdec
 have hsz1 := R.size
 have hsz2 : s.size ≤ (s ++ t).size := by rw [ByteArray.size_append]; omega
 obtain ⟨r, hr, hR⟩ := look_right hok (by rw [List.length_append]; omega) 400 (by omega)
 have er := hR.one (.yes (dead_found R) (dead_good R))
 unfold depthsS readS
 rw [hdec]
 simp only
 rw [if_neg (by omega), if_pos hok, hr, er, hml]
 rfl
/-- what ends not in a jump does not end at all where it may be run -/
theorem dead_last {s : ByteArray} {l : List S36} {ds : List Int} (R : Ready s l ds) {n : Nat} {x : S36} (hx : l[n]? = some x) (hn : n + 1 = l.length) (hj : x.f0 ≠ 21) : rd ds (n : Int) < 0 := by
 by_cases h : rd ds (n : Int) < 0
 ·exact h
 ·have hd := rd_get (ds := ds) (i := n) (by rw [R.found.len]; omega)
  have hr := R.found.iff n _ hd (by omega)
  have h1 : tk x ≤ rd ds (n : Int) := by
   by_cases h : tk x ≤ rd ds (n : Int)
   ·exact h
   ·exact absurd (Bad.stack hr hx (.inl (by omega))) R.good
  have h2 : rd ds (n : Int) - tk x + pt x ≤ 32 := by
   by_cases h : rd ds (n : Int) - tk x + pt x ≤ 32
   ·exact h
   ·exact absurd (Bad.stack hr hx (.inr (by omega))) R.good
  have hR := Reach.step hr hx h1 h2 (show n + 1 ∈ succs l n x by unfold succs; rw [if_neg hj]; simp)
  rw [hn] at hR
  exact absurd (Bad.end_ hR) R.good
end Go.Proofs.Ytjbpljcfogekhaa.Core
namespace Go.Proofs.Ytjbpljcfogekhaa.Core
open Go.RowKit Ytjbpljcfogekhaa.Q YtjbpljcfogekhaaW.PrintWords YtjbpljcfogekhaaW.PrintLast YtjbpljcfogekhaaW.PrintMore
end Go.Proofs.Ytjbpljcfogekhaa.Core
namespace Go.Proofs.Ytjbpljcfogekhaa.Q
open Go.RowKit Ytjbpljcfogekhaa.Core YtjbpljcfogekhaaW.PrintWords YtjbpljcfogekhaaW.PrintLast YtjbpljcfogekhaaW.PrintMore
theorem rdec_calls (s : ByteArray) (hs : s.size ≤ 4398046511104) (W : World) : Calls Try.prog 19 #[.string s] W fun e w' => ∃ v : Value, e = .returned (.tuple #[v, .int .i64 (decRes [] (decAll s)).2]) ∧ Kd.R k36 36 w' W.heap.size (fun _ => True) v (decRes [] (decAll s)).1 ∧ Below W.heap.size W w' := by
 obtain ⟨k, hk⟩ := (RDecode_evL s hs).rounds
 exact janusref05_Decode.calls k s _ _ W hk
theorem rmv_calls (x : S36) (h : 0 ≤ x.f1) (W : World) : Calls Try.prog 24 #[.agg #[.int .i64 x.f0, .int .u64 x.f1, .int .i64 x.f2, .int .i64 x.f3]] W fun e w' => e = .returned (.tuple #[.int .i64 (tk x), .int .i64 (pt x)]) ∧ Below W.heap.size W w' := by
 obtain ⟨k, hk⟩ := (RMoves_ev x.f0 x.f1 x.f2 x.f3 h).rounds
 exact janusref05_Moves.calls k x.f0 x.f1 x.f2 x.f3 (tk x) (pt x) W hk
def RefPost (w : World) (s : ByteArray) (e : Ending) (w' : World) : Prop := ∃ v : Value, e = .returned (.tuple #[v, .int .i64 (depthsS s).2]) ∧ Kd.R (Kd.int .i64) 3 w' w.heap.size (fun _ => True) v (depthsS s).1 ∧ Below w.heap.size w w'
theorem RefPost.no {w w' : World} {s : ByteArray} (h : depthsS s = ([], 8)) (hb : Below w.heap.size w w') : RefPost w s (.returned (.tuple #[.slice none 0 0, .int .i64 8])) w' := by
 refine ⟨_, by rw [h], ?_, hb⟩
 rw [h]
 exact Kd.R_nil _ _ _ _ _
/-- The instructions and the depths. -/
structure RS (w : World) (l : List S36) (v4 v6 : Value) (ds : List Int) (wc : World) : Prop where
 rl : Kd.R k36 36 wc w.heap.size (fun _ => True) v4 l
 rd : Kd.R (Kd.int .i64) 3 wc w.heap.size (fun _ => True) v6 ds
 bel : Below w.heap.size w wc
theorem RS.below {w : World} {l : List S36} {v4 v6 : Value} {ds : List Int} {wc wd : World} (r : RS w l v4 v6 ds wc) (hb : Below wc.heap.size wc wd) : RS w l v4 v6 ds wd :=
 ⟨Kd.R_below r.rl hb, Kd.R_below r.rd hb, below_step r.bel hb⟩
theorem RS.alloc {w : World} {l : List S36} {v4 v6 : Value} {ds : List Int} {wc : World} (r : RS w l v4 v6 ds wc) (o : Obj) : RS w l v4 v6 ds (wc.alloc o) := r.below (below_alloc (Below.refl _ _) o)
theorem k36_typed {W : World} {base : Nat} {ok : Nat → Prop} {v : Value} {l : List S36} (h : Kd.R k36 36 W base ok v l) {k : Nat} (hk : v.ownBlock = some k) : ∃ cells, W.heap[k]? = some (.cells cells 36 (0, 0)) := by
 obtain ⟨_, inner, ho, _⟩ := h
 exact own_typed ho k hk
theorem i64_typed {W : World} {base : Nat} {ok : Nat → Prop} {v : Value} {l : List Int} (h : Kd.R (Kd.int .i64) 3 W base ok v l) {k : Nat} (hk : v.ownBlock = some k) : ∃ cells, W.heap[k]? = some (.cells cells 3 (0, 0)) := by
 obtain ⟨_, inner, ho, _⟩ := h
 exact own_typed ho k hk
theorem rows_ne {W : World} {b1 b2 : Nat} {ok1 ok2 : Nat → Prop} {v u : Value} {l : List S36} {xs : List Int} (h : Kd.R k36 36 W b1 ok1 v l) (h' : Kd.R (Kd.int .i64) 3 W b2 ok2 u xs) (k : Nat) (hk : u.ownBlock = some k) : some k ≠ v.ownBlock := fun e => by
 obtain ⟨c1, h1⟩ := k36_typed h e.symm
 obtain ⟨c2, h2⟩ := i64_typed h' hk
 rw [h1] at h2
 injection h2 with h2
 injection h2 with _ h2 _
 exact absurd h2 (by decide)
theorem RS.app {w : World} {l : List S36} {v4 v6 : Value} {ds : List Int} {wc w1 : World} {v1 : Value} {p : Int} (r : RS w l v4 v6 ds wc) (h1 : Kd.R (Kd.int .i64) 3 w1 w.heap.size (fun _ => True) v1 (ds ++ [p])) (h2 : Below w.heap.size w w1) (h3 : wc.grownBy w1 v6.ownBlock) : RS w l v4 v1 (ds ++ [p]) w1 :=
 ⟨Kd.R_grown2 r.rl rfl h3 (fun k hk => rows_ne r.rl r.rd k hk), h1, h2⟩
theorem RS.set {w : World} {l : List S36} {v4 : Value} {ds : List Int} {wc : World} {g n c : Nat} (r : RS w l v4 (.slice (some ⟨g, 0, none⟩) n c) ds wc) (k : Nat) (d : Int) : RS w l v4 (.slice (some ⟨g, 0, none⟩) n c) (ds.set k d) (wc.setCell ⟨g, k, none⟩ (.int .i64 d)) := by
 obtain ⟨cells, hc⟩ := i64_typed r.rd (k := g) rfl
 have hb := (Kd.R_bound r.rd).1 g rfl
 have hp := Kd.R_putn r.rd (k : Int) d
 have e : ((k : Int)).toNat = k := by simp
 rw [e] at hp
 refine ⟨Kd.R_set r.rl hc (fun q hq => ?_) k _, hp, below_set r.bel hb.2.1⟩
 have : q = 36 := by simpa [k36, Kd.iso, Kd.pair, Kd.int, Kd.scalar] using hq
 subst this
 decide
/-- .. and the list of where one leads. -/
structure RT (w : World) (l : List S36) (v4 : Value) (g6 n6 c6 : Nat) (ds tl : List Int) (v15 : Value) (wc : World) : Prop where
 rs : RS w l v4 (.slice (some ⟨g6, 0, none⟩) n6 c6) ds wc
 rt : Kd.R (Kd.int .i64) 3 wc w.heap.size (fun _ => True) v15 tl
 ne : ∀ k, v15.ownBlock = some k → k ≠ g6
theorem RT.below {w : World} {l : List S36} {v4 v15 : Value} {g6 n6 c6 : Nat} {ds tl : List Int} {wc wd : World} (r : RT w l v4 g6 n6 c6 ds tl v15 wc) (hb : Below wc.heap.size wc wd) : RT w l v4 g6 n6 c6 ds tl v15 wd :=
 ⟨r.rs.below hb, Kd.R_below r.rt hb, r.ne⟩
theorem RT.app {w : World} {l : List S36} {v4 v15 : Value} {g6 n6 c6 : Nat} {ds tl : List Int} {W w1 : World} {v1 : Value} {p : Int} (r : RT w l v4 g6 n6 c6 ds tl v15 W)
  (h1 : Kd.R (Kd.int .i64) 3 w1 w.heap.size (fun _ => True) v1 (tl ++ [p])) (h2 : Below w.heap.size w w1) (h3 : W.grownBy w1 v15.ownBlock) (h4 : v1.ownBlock = v15.ownBlock ∨ ∃ b, v1.ownBlock = some b ∧ W.heap.size ≤ b) : RT w l v4 g6 n6 c6 ds (tl ++ [p]) v1 w1 := by
 have hg := ((Kd.R_bound r.rs.rd).1 g6 rfl).2.2.1
 refine ⟨⟨Kd.R_grown2 r.rs.rl rfl h3 (fun k hk => rows_ne r.rs.rl r.rt k hk), Kd.R_grown2 r.rs.rd rfl h3 (fun k hk e => ?_), h2⟩, h1, fun k hk => ?_⟩
 ·have := r.ne k hk
  simp [Value.ownBlock] at e
  omega
 ·rcases h4 with h4 | ⟨b, hb, hle⟩
  ·exact r.ne k (by rw [← h4]; exact hk)
  ·rw [hb] at hk
   cases hk
   omega
theorem RT.set {w : World} {l : List S36} {v4 v15 : Value} {g6 n6 c6 : Nat} {ds tl : List Int} {W : World} (r : RT w l v4 g6 n6 c6 ds tl v15 W) (k : Nat) (d : Int) : RT w l v4 g6 n6 c6 (ds.set k d) tl v15 (W.setCell ⟨g6, k, none⟩ (.int .i64 d)) :=
 ⟨r.rs.set k d, Kd.R_mono (Kd.R_far (p := ⟨g6, k, none⟩) (Kd.R_mono (ok' := fun k => k ≠ g6) (Kd.R_tight rfl r.rt) (fun k hk => r.ne k hk.symm)) (fun _ hk => hk) _) (fun _ _ => trivial), r.ne⟩
end Go.Proofs.Ytjbpljcfogekhaa.Q
