/- januslaw07.VmSafe: part 3 of 7: what the walks and the plain law need, in order. -/
import Derived.Test.YtjbpljcfogekhaaVs2
import Derived.WalkSpells
import Derived.Lib.SliceRun
import Derived.Outline
import Derived.Laws.EntriesVeiled
import Derived.Deep.RegionHeld3
import Derived.Maps.Own
import Derived.Maps.OwnOps
import Derived.Maps.OwnSet
import Derived.Maps.Views
import Derived.StillTailTactics
import Derived.Deep.RegionLaw
import Derived.Deep.CutRange
import Derived.WalkMore
set_option linter.unusedVariables false
set_option linter.unusedSimpArgs false
namespace Go.Proofs.Ytjbpljcfogekhaa.Q
open Go.RowKit YtjbpljcfogekhaaW.PrintWords YtjbpljcfogekhaaW.PrintLast YtjbpljcfogekhaaW.PrintMore
attribute [local go_sem] max2_int min2_int max_two min_two max_three min_three max_four min_four
mutual
def janusref05_Moves.j0 : Nat → Bool → Int → Int → Int → Int → Option (Int × Int)
 | 0, _, _, _, _, _ => none
 | k + 1, x4, x234000, x234001, x234002, x234003 => if x4 = true then (some (0, 1)) else (if x234000 = 2 then (some (1, 2)) else (if x234000 = 3 then (janusref05_Moves.j1 k true x234000 x234001 x234002 x234003) else (janusref05_Moves.j1 k (x234000 == 22) x234000 x234001 x234002 x234003)))
def janusref05_Moves.j1 : Nat → Bool → Int → Int → Int → Int → Option (Int × Int)
 | 0, _, _, _, _, _ => none
 | k + 1, x17, x234000, x234001, x234002, x234003 => if x17 = true then (some (1, 0)) else (if x234000 = 4 then (some (2, 2)) else (if x234000 = 5 then (some (2, 3)) else (if x234000 ≥ 6 then (janusref05_Moves.j2 k (decide (x234000 ≤ 17)) x234000 x234001 x234002 x234003) else (janusref05_Moves.j2 k false x234000 x234001 x234002 x234003))))
def janusref05_Moves.j2 : Nat → Bool → Int → Int → Int → Int → Option (Int × Int)
 | 0, _, _, _, _, _ => none
 | k + 1, x34, x234000, x234001, x234002, x234003 => if x34 = true then (some (2, 1)) else (if x234000 = 18 then (janusref05_Moves.j3 k true x234000 x234001 x234002 x234003) else (janusref05_Moves.j3 k (x234000 == 19) x234000 x234001 x234002 x234003))
def janusref05_Moves.j3 : Nat → Bool → Int → Int → Int → Int → Option (Int × Int)
 | 0, _, _, _, _, _ => none
 | k + 1, x43, x234000, x234001, x234002, x234003 => if x43 = true then (some (1, 1)) else (if x234000 = 20 then (some (2, 0)) else (if x234000 = 21 then (some (0, 0)) else (if x234000 = 23 then (if x234001 ≤ 255 then ((janusref05_Args.f k (wrap64 (x234001))).bind fun t234 => (if t234 ≥ 0 then ((janusref05_Args.f k (wrap64 (x234001))).bind fun t235 => (some (t235, 1))) else (some ((-1), (-1))))) else (some ((-1), (-1)))) else (some ((-1), (-1))))))
end
def janusref05_Moves.f (k : Nat) (a0_0 : Int) (a0_1 : Int) (a0_2 : Int) (a0_3 : Int) : Option (Int × Int) := if a0_0 = 0 then (janusref05_Moves.j0 k true a0_0 a0_1 a0_2 a0_3) else (janusref05_Moves.j0 k (a0_0 == 1) a0_0 a0_1 a0_2 a0_3)
set_option maxHeartbeats 8000000 in
set_option maxRecDepth 100000 in
theorem janusref05_Moves.calls (k : Nat) (a0_0 : Int) (a0_1 : Int) (a0_2 : Int) (a0_3 : Int) (r1 : Int) (r2 : Int) (w : World) (h : janusref05_Moves.f k a0_0 a0_1 a0_2 a0_3 = some (r1, r2)) :
  Calls Try.prog 24 #[.agg #[.int .i64 a0_0, .int .u64 a0_1, .int .i64 a0_2, .int .i64 a0_3]] w fun e w' => e = .returned (.tuple #[.int .i64 r1, .int .i64 r2]) ∧ Below w.heap.size w w' := by
 have hu36 := Try.underlying36
 have HB := Aside0.mk (Below.refl w.heap.size w)
 have H : (if a0_0 = 0 then (janusref05_Moves.j0 k true a0_0 a0_1 a0_2 a0_3) else (janusref05_Moves.j0 k (a0_0 == 1) a0_0 a0_1 a0_2 a0_3)) = some (r1, r2) := h
 clear h
 have HC2 := Aside0.mk H
 clear H
 go_enter Try.func24, Try.ntmps24
 go_upto_region 1 with (first | ((with_reducible refine gate_dst (N := 1) rfl ?_); refine box_event ?hg (N := 1) ?hd (cs := #[.int .i64 a0_0, .int .u64 a0_1, .int .i64 a0_2, .int .i64 a0_3]) (t := 36) ?hr ?_; (case hd => rfl); (case hg => rfl); (case hr => first | (go_simp; done) | (go_simp; rfl)); intro gb233 hg w3 hbox hb; have n0_ := Aside0.mk (below_step (by repeat (first | (with_reducible first | exact HB.out | apply below_alloc | apply pw_below_drewN | apply below_drew1) | exact HB.out)) hb); have n1_ := Aside0.mk (hbox); have n2_ := Aside0.mk ((by rw [hg]; exact (below_size (by repeat (first | (with_reducible first | exact HB.out | apply below_alloc | apply pw_below_drewN | apply below_drew1) | exact HB.out))) : w.heap.size ≤ gb233)); have n3_ := Aside0.mk ((by rw [hg]; exact (below_size (by repeat (first | (with_reducible first | exact HB.out | apply below_alloc | apply pw_below_drewN | apply below_drew1) | exact HB.out))) : w.heap.size ≤ gb233)); clear HB; have HB := n0_; have BK233 := n1_; have GW233 := n2_; have GE233 := n3_; clear n0_ n1_ n2_ n3_; clear hb hbox hg))
 (try simp only [Act.put, List.setIfInBounds_toArray, List.set_cons_zero, List.set_cons_succ])
 go_cut [4] (fun v4 wc => ∃ (kq : Nat) (x4_1 : Bool), v4 = .bool x4_1 ∧ Aside0 (janusref05_Moves.j0 kq x4_1 a0_0 a0_1 a0_2 a0_3 = some (r1, r2)) ∧ Aside0 (kq ≤ k) ∧ Aside0 (wc.heap[gb233]? = some (.cells #[.int .i64 a0_0, .int .u64 a0_1, .int .i64 a0_2, .int .i64 a0_3] 36 (0, 0))) ∧ Aside0 (Below w.heap.size w wc))
 case first =>
  have H := HC2.out
  clear HC2
  by_cases c4 : a0_0 = 0
  ·rw [if_pos c4] at H
   have c4b0 : (a0_0 == 0) = true := beq_iff_eq.mpr c4
   have c4b1 : (a0_0 != 0) = false := bne_eq_false_iff_eq.mpr c4
   clear c4
   (first | rw [c4b0] | (simp only [i64_w, i32_w]; rw [c4b0]) | skip)
   have H' := Aside0.mk H
   clear H
   have hcz5_0 : w3.cell? ⟨gb233, 0, none⟩ = some (.int .i64 a0_0) := (blk_cell BK233.out 0).trans rfl
   have hcz5_1 : w3.cell? ⟨gb233, 1, none⟩ = some (.int .u64 a0_1) := (blk_cell BK233.out 1).trans rfl
   have hcz5_2 : w3.cell? ⟨gb233, 2, none⟩ = some (.int .i64 a0_2) := (blk_cell BK233.out 2).trans rfl
   have hcz5_3 : w3.cell? ⟨gb233, 3, none⟩ = some (.int .i64 a0_3) := (blk_cell BK233.out 3).trans rfl
   have hfz5_0 := blk_frozen BK233.out 0
   have hfz5_1 := blk_frozen BK233.out 1
   have hfz5_2 := blk_frozen BK233.out 2
   have hfz5_3 := blk_frozen BK233.out 3
   go_wp2
   go_meet
   case rel => exact ⟨_, (true), (by first | rfl | (simp; done) | (simp [*]; done)), H', ⟨by first | omega | exact Nat.le_refl _⟩, ⟨by (with_reducible repeat (first | refine blk_drewN ?_ _ | refine blk_drew ?_ | refine blk_alloc ?_ _)); exact BK233.out⟩, ⟨by repeat (first | (with_reducible first | exact HB.out | apply below_alloc | apply pw_below_drewN | apply below_drew1 | refine below_set ?_ GE233.out) | exact HB.out)⟩⟩
  ·rw [if_neg c4] at H
   have c4b0 : (a0_0 == 0) = false := beq_eq_false_iff_ne.mpr c4
   have c4b1 : (a0_0 != 0) = true := bne_iff_ne.mpr c4
   (first | rw [c4b0] | (simp only [i64_w, i32_w]; rw [c4b0]) | skip)
   have H' := Aside0.mk H
   clear H
   have hcz6_0 : w3.cell? ⟨gb233, 0, none⟩ = some (.int .i64 a0_0) := (blk_cell BK233.out 0).trans rfl
   have hcz6_1 : w3.cell? ⟨gb233, 1, none⟩ = some (.int .u64 a0_1) := (blk_cell BK233.out 1).trans rfl
   have hcz6_2 : w3.cell? ⟨gb233, 2, none⟩ = some (.int .i64 a0_2) := (blk_cell BK233.out 2).trans rfl
   have hcz6_3 : w3.cell? ⟨gb233, 3, none⟩ = some (.int .i64 a0_3) := (blk_cell BK233.out 3).trans rfl
   have hfz6_0 := blk_frozen BK233.out 0
   have hfz6_1 := blk_frozen BK233.out 1
   have hfz6_2 := blk_frozen BK233.out 2
   have hfz6_3 := blk_frozen BK233.out 3
   go_wp2
   go_meet
   case rel => exact ⟨_, ((a0_0 == 1)), (by first | rfl | (simp; done) | (simp [*]; done)), H', ⟨by first | omega | exact Nat.le_refl _⟩, ⟨by (with_reducible repeat (first | refine blk_drewN ?_ _ | refine blk_drew ?_ | refine blk_alloc ?_ _)); exact BK233.out⟩, ⟨by repeat (first | (with_reducible first | exact HB.out | apply below_alloc | apply pw_below_drewN | apply below_drew1 | refine below_set ?_ GE233.out) | exact HB.out)⟩⟩
 case rest =>
  clear HC2
  try clear c2
  try clear p2
  try clear c4
  try clear c4b0
  try clear c4b1
  try clear hcz5_0
  try clear hcz5_1
  try clear hcz5_2
  try clear hcz5_3
  try clear hcz6_0
  try clear hcz6_1
  try clear hcz6_2
  try clear hcz6_3
  try clear hfz5_0
  try clear hfz5_1
  try clear hfz5_2
  try clear hfz5_3
  try clear hfz6_0
  try clear hfz6_1
  try clear hfz6_2
  try clear hfz6_3
  obtain ⟨kq, x4_1, rfl, HA, HJ1, BK233, HB⟩ := hcut
  cases kq with
  | zero => exact absurd HA.out (by simp [janusref05_Moves.j0])
  | succ kj1 =>
   have H := HA.out
   clear HA
   simp only [janusref05_Moves.j0] at H
   by_cases c7 : x4_1 = true
   ·subst c7
    have H1 : (some (0, 1)) = some (r1, r2) := by rw [if_pos rfl] at H; exact H
    clear H
    have H := H1
    clear H1
    simp only [Option.some.injEq, Prod.mk.injEq] at H
    obtain ⟨rfl, rfl⟩ := H
    go_wp2
    go_ret2
    exact ⟨by first | rfl | (simp [errW_none, errW_some] <;> rfl) | (simp [*, errW_none, errW_some] <;> rfl), by repeat (first | (with_reducible first | exact HB.out | apply below_alloc | apply pw_below_drewN | apply below_drew1 | refine below_set ?_ GE233.out) | exact HB.out)⟩
   ·replace c7 := Bool.eq_false_iff.mpr c7
    subst c7
    have H1 : (if a0_0 = 2 then (some (1, 2)) else (if a0_0 = 3 then (janusref05_Moves.j1 kj1 true a0_0 a0_1 a0_2 a0_3) else (janusref05_Moves.j1 kj1 (a0_0 == 22) a0_0 a0_1 a0_2 a0_3))) = some (r1, r2) := by rw [if_neg (show ¬ (false = true) by decide)] at H; exact H
    clear H
    have H := H1
    clear H1
    by_cases c8 : a0_0 = 2
    ·rw [if_pos c8] at H
     have c8b0 : (a0_0 == 2) = true := beq_iff_eq.mpr c8
     have c8b1 : (a0_0 != 2) = false := bne_eq_false_iff_eq.mpr c8
     clear c8
     simp only [Option.some.injEq, Prod.mk.injEq] at H
     obtain ⟨rfl, rfl⟩ := H
     have hcz9_0 : wc.cell? ⟨gb233, 0, none⟩ = some (.int .i64 a0_0) := (blk_cell BK233.out 0).trans rfl
     have hcz9_1 : wc.cell? ⟨gb233, 1, none⟩ = some (.int .u64 a0_1) := (blk_cell BK233.out 1).trans rfl
     have hcz9_2 : wc.cell? ⟨gb233, 2, none⟩ = some (.int .i64 a0_2) := (blk_cell BK233.out 2).trans rfl
     have hcz9_3 : wc.cell? ⟨gb233, 3, none⟩ = some (.int .i64 a0_3) := (blk_cell BK233.out 3).trans rfl
     have hfz9_0 := blk_frozen BK233.out 0
     have hfz9_1 := blk_frozen BK233.out 1
     have hfz9_2 := blk_frozen BK233.out 2
     have hfz9_3 := blk_frozen BK233.out 3
     go_wp2
     go_ret2
     exact ⟨by first | rfl | (simp [errW_none, errW_some] <;> rfl) | (simp [*, errW_none, errW_some] <;> rfl), by repeat (first | (with_reducible first | exact HB.out | apply below_alloc | apply pw_below_drewN | apply below_drew1 | refine below_set ?_ GE233.out) | exact HB.out)⟩
    ·rw [if_neg c8] at H
     have c8b0 : (a0_0 == 2) = false := beq_eq_false_iff_ne.mpr c8
     have c8b1 : (a0_0 != 2) = true := bne_iff_ne.mpr c8
     have HC10 := Aside0.mk H
     clear H
     have hcz11_0 : wc.cell? ⟨gb233, 0, none⟩ = some (.int .i64 a0_0) := (blk_cell BK233.out 0).trans rfl
     have hcz11_1 : wc.cell? ⟨gb233, 1, none⟩ = some (.int .u64 a0_1) := (blk_cell BK233.out 1).trans rfl
     have hcz11_2 : wc.cell? ⟨gb233, 2, none⟩ = some (.int .i64 a0_2) := (blk_cell BK233.out 2).trans rfl
     have hcz11_3 : wc.cell? ⟨gb233, 3, none⟩ = some (.int .i64 a0_3) := (blk_cell BK233.out 3).trans rfl
     have hfz11_0 := blk_frozen BK233.out 0
     have hfz11_1 := blk_frozen BK233.out 1
     have hfz11_2 := blk_frozen BK233.out 2
     have hfz11_3 := blk_frozen BK233.out 3
     go_upto_region 5 with (fail)
     go_cut [17] (fun v17 wc => ∃ (kq : Nat) (x17_9 : Bool), v17 = .bool x17_9 ∧ Aside0 (janusref05_Moves.j1 kq x17_9 a0_0 a0_1 a0_2 a0_3 = some (r1, r2)) ∧ Aside0 (kq ≤ kj1) ∧ Aside0 (wc.heap[gb233]? = some (.cells #[.int .i64 a0_0, .int .u64 a0_1, .int .i64 a0_2, .int .i64 a0_3] 36 (0, 0))) ∧ Aside0 (Below w.heap.size w wc))
     case first =>
      have H := HC10.out
      clear HC10
      by_cases c12 : a0_0 = 3
      ·rw [if_pos c12] at H
       have c12b0 : (a0_0 == 3) = true := beq_iff_eq.mpr c12
       have c12b1 : (a0_0 != 3) = false := bne_eq_false_iff_eq.mpr c12
       clear c12
       (first | rw [c12b0] | (simp only [i64_w, i32_w]; rw [c12b0]) | skip)
       have H' := Aside0.mk H
       clear H
       have hcz13_0 : wc.cell? ⟨gb233, 0, none⟩ = some (.int .i64 a0_0) := (blk_cell BK233.out 0).trans rfl
       have hcz13_1 : wc.cell? ⟨gb233, 1, none⟩ = some (.int .u64 a0_1) := (blk_cell BK233.out 1).trans rfl
       have hcz13_2 : wc.cell? ⟨gb233, 2, none⟩ = some (.int .i64 a0_2) := (blk_cell BK233.out 2).trans rfl
       have hcz13_3 : wc.cell? ⟨gb233, 3, none⟩ = some (.int .i64 a0_3) := (blk_cell BK233.out 3).trans rfl
       have hfz13_0 := blk_frozen BK233.out 0
       have hfz13_1 := blk_frozen BK233.out 1
       have hfz13_2 := blk_frozen BK233.out 2
       have hfz13_3 := blk_frozen BK233.out 3
       go_wp2
       go_meet
       case rel => exact ⟨_, (true), (by first | rfl | (simp; done) | (simp [*]; done)), H', ⟨by have := HJ1.out; first | omega | exact Nat.le_refl _⟩, ⟨by (with_reducible repeat (first | refine blk_drewN ?_ _ | refine blk_drew ?_ | refine blk_alloc ?_ _)); exact BK233.out⟩, ⟨by repeat (first | (with_reducible first | exact HB.out | apply below_alloc | apply pw_below_drewN | apply below_drew1 | refine below_set ?_ GE233.out) | exact HB.out)⟩⟩
      ·rw [if_neg c12] at H
       have c12b0 : (a0_0 == 3) = false := beq_eq_false_iff_ne.mpr c12
       have c12b1 : (a0_0 != 3) = true := bne_iff_ne.mpr c12
       (first | rw [c12b0] | (simp only [i64_w, i32_w]; rw [c12b0]) | skip)
       have H' := Aside0.mk H
       clear H
       have hcz14_0 : wc.cell? ⟨gb233, 0, none⟩ = some (.int .i64 a0_0) := (blk_cell BK233.out 0).trans rfl
       have hcz14_1 : wc.cell? ⟨gb233, 1, none⟩ = some (.int .u64 a0_1) := (blk_cell BK233.out 1).trans rfl
       have hcz14_2 : wc.cell? ⟨gb233, 2, none⟩ = some (.int .i64 a0_2) := (blk_cell BK233.out 2).trans rfl
       have hcz14_3 : wc.cell? ⟨gb233, 3, none⟩ = some (.int .i64 a0_3) := (blk_cell BK233.out 3).trans rfl
       have hfz14_0 := blk_frozen BK233.out 0
       have hfz14_1 := blk_frozen BK233.out 1
       have hfz14_2 := blk_frozen BK233.out 2
       have hfz14_3 := blk_frozen BK233.out 3
       go_wp2
       go_meet
       case rel => exact ⟨_, ((a0_0 == 22)), (by first | rfl | (simp; done) | (simp [*]; done)), H', ⟨by have := HJ1.out; first | omega | exact Nat.le_refl _⟩, ⟨by (with_reducible repeat (first | refine blk_drewN ?_ _ | refine blk_drew ?_ | refine blk_alloc ?_ _)); exact BK233.out⟩, ⟨by repeat (first | (with_reducible first | exact HB.out | apply below_alloc | apply pw_below_drewN | apply below_drew1 | refine below_set ?_ GE233.out) | exact HB.out)⟩⟩
     case rest =>
      clear HC10
      try clear c1
      try clear c2
      try clear p2
      try clear c4
      try clear c4b0
      try clear c4b1
      try clear c7
      try clear c8
      try clear c8b0
      try clear c8b1
      try clear c12
      try clear c12b0
      try clear c12b1
      try clear hcz11_0
      try clear hcz11_1
      try clear hcz11_2
      try clear hcz11_3
      try clear hcz13_0
      try clear hcz13_1
      try clear hcz13_2
      try clear hcz13_3
      try clear hcz14_0
      try clear hcz14_1
      try clear hcz14_2
      try clear hcz14_3
      try clear hcz5_0
      try clear hcz5_1
      try clear hcz5_2
      try clear hcz5_3
      try clear hcz6_0
      try clear hcz6_1
      try clear hcz6_2
      try clear hcz6_3
      try clear hcz9_0
      try clear hcz9_1
      try clear hcz9_2
      try clear hcz9_3
      try clear hfz11_0
      try clear hfz11_1
      try clear hfz11_2
      try clear hfz11_3
      try clear hfz13_0
      try clear hfz13_1
      try clear hfz13_2
      try clear hfz13_3
      try clear hfz14_0
      try clear hfz14_1
      try clear hfz14_2
      try clear hfz14_3
      try clear hfz5_0
      try clear hfz5_1
      try clear hfz5_2
      try clear hfz5_3
      try clear hfz6_0
      try clear hfz6_1
      try clear hfz6_2
      try clear hfz6_3
      try clear hfz9_0
      try clear hfz9_1
      try clear hfz9_2
      try clear hfz9_3
      try clear p2
      obtain ⟨kq, x17_9, rfl, HA, HJ9, BK233, HB⟩ := hcut
      cases kq with
      | zero => exact absurd HA.out (by simp [janusref05_Moves.j1])
      | succ kj9 =>
       have H := HA.out
       clear HA
       simp only [janusref05_Moves.j1] at H
       by_cases c15 : x17_9 = true
       ·subst c15
        have H1 : (some (1, 0)) = some (r1, r2) := by rw [if_pos rfl] at H; exact H
        clear H
        have H := H1
        clear H1
        simp only [Option.some.injEq, Prod.mk.injEq] at H
        obtain ⟨rfl, rfl⟩ := H
        go_wp2
        go_ret2
        exact ⟨by first | rfl | (simp [errW_none, errW_some] <;> rfl) | (simp [*, errW_none, errW_some] <;> rfl), by repeat (first | (with_reducible first | exact HB.out | apply below_alloc | apply pw_below_drewN | apply below_drew1 | refine below_set ?_ GE233.out) | exact HB.out)⟩
       ·replace c15 := Bool.eq_false_iff.mpr c15
        subst c15
        have H1 : (if a0_0 = 4 then (some (2, 2)) else (if a0_0 = 5 then (some (2, 3)) else (if a0_0 ≥ 6 then (janusref05_Moves.j2 kj9 (decide (a0_0 ≤ 17)) a0_0 a0_1 a0_2 a0_3) else (janusref05_Moves.j2 kj9 false a0_0 a0_1 a0_2 a0_3)))) = some (r1, r2) := by rw [if_neg (show ¬ (false = true) by decide)] at H; exact H
        clear H
        have H := H1
        clear H1
        by_cases c16 : a0_0 = 4
        ·rw [if_pos c16] at H
         have c16b0 : (a0_0 == 4) = true := beq_iff_eq.mpr c16
         have c16b1 : (a0_0 != 4) = false := bne_eq_false_iff_eq.mpr c16
         clear c16
         simp only [Option.some.injEq, Prod.mk.injEq] at H
         obtain ⟨rfl, rfl⟩ := H
         have hcz17_0 : wc.cell? ⟨gb233, 0, none⟩ = some (.int .i64 a0_0) := (blk_cell BK233.out 0).trans rfl
         have hcz17_1 : wc.cell? ⟨gb233, 1, none⟩ = some (.int .u64 a0_1) := (blk_cell BK233.out 1).trans rfl
         have hcz17_2 : wc.cell? ⟨gb233, 2, none⟩ = some (.int .i64 a0_2) := (blk_cell BK233.out 2).trans rfl
         have hcz17_3 : wc.cell? ⟨gb233, 3, none⟩ = some (.int .i64 a0_3) := (blk_cell BK233.out 3).trans rfl
         have hfz17_0 := blk_frozen BK233.out 0
         have hfz17_1 := blk_frozen BK233.out 1
         have hfz17_2 := blk_frozen BK233.out 2
         have hfz17_3 := blk_frozen BK233.out 3
         go_wp2
         go_ret2
         exact ⟨by first | rfl | (simp [errW_none, errW_some] <;> rfl) | (simp [*, errW_none, errW_some] <;> rfl), by repeat (first | (with_reducible first | exact HB.out | apply below_alloc | apply pw_below_drewN | apply below_drew1 | refine below_set ?_ GE233.out) | exact HB.out)⟩
        ·rw [if_neg c16] at H
         have c16b0 : (a0_0 == 4) = false := beq_eq_false_iff_ne.mpr c16
         have c16b1 : (a0_0 != 4) = true := bne_iff_ne.mpr c16
         by_cases c18 : a0_0 = 5
         ·rw [if_pos c18] at H
          have c18b0 : (a0_0 == 5) = true := beq_iff_eq.mpr c18
          have c18b1 : (a0_0 != 5) = false := bne_eq_false_iff_eq.mpr c18
          clear c18
          simp only [Option.some.injEq, Prod.mk.injEq] at H
          obtain ⟨rfl, rfl⟩ := H
          have hcz19_0 : wc.cell? ⟨gb233, 0, none⟩ = some (.int .i64 a0_0) := (blk_cell BK233.out 0).trans rfl
          have hcz19_1 : wc.cell? ⟨gb233, 1, none⟩ = some (.int .u64 a0_1) := (blk_cell BK233.out 1).trans rfl
          have hcz19_2 : wc.cell? ⟨gb233, 2, none⟩ = some (.int .i64 a0_2) := (blk_cell BK233.out 2).trans rfl
          have hcz19_3 : wc.cell? ⟨gb233, 3, none⟩ = some (.int .i64 a0_3) := (blk_cell BK233.out 3).trans rfl
          have hfz19_0 := blk_frozen BK233.out 0
          have hfz19_1 := blk_frozen BK233.out 1
          have hfz19_2 := blk_frozen BK233.out 2
          have hfz19_3 := blk_frozen BK233.out 3
          go_wp2
          go_ret2
          exact ⟨by first | rfl | (simp [errW_none, errW_some] <;> rfl) | (simp [*, errW_none, errW_some] <;> rfl), by repeat (first | (with_reducible first | exact HB.out | apply below_alloc | apply pw_below_drewN | apply below_drew1 | refine below_set ?_ GE233.out) | exact HB.out)⟩
         ·rw [if_neg c18] at H
          have c18b0 : (a0_0 == 5) = false := beq_eq_false_iff_ne.mpr c18
          have c18b1 : (a0_0 != 5) = true := bne_iff_ne.mpr c18
          have HC20 := Aside0.mk H
          clear H
          have hcz21_0 : wc.cell? ⟨gb233, 0, none⟩ = some (.int .i64 a0_0) := (blk_cell BK233.out 0).trans rfl
          have hcz21_1 : wc.cell? ⟨gb233, 1, none⟩ = some (.int .u64 a0_1) := (blk_cell BK233.out 1).trans rfl
          have hcz21_2 : wc.cell? ⟨gb233, 2, none⟩ = some (.int .i64 a0_2) := (blk_cell BK233.out 2).trans rfl
          have hcz21_3 : wc.cell? ⟨gb233, 3, none⟩ = some (.int .i64 a0_3) := (blk_cell BK233.out 3).trans rfl
          have hfz21_0 := blk_frozen BK233.out 0
          have hfz21_1 := blk_frozen BK233.out 1
          have hfz21_2 := blk_frozen BK233.out 2
          have hfz21_3 := blk_frozen BK233.out 3
          go_upto_region 11 with (fail)
          go_cut [34] (fun v34 wc => ∃ (kq : Nat) (x34_19 : Bool), v34 = .bool x34_19 ∧ Aside0 (janusref05_Moves.j2 kq x34_19 a0_0 a0_1 a0_2 a0_3 = some (r1, r2)) ∧ Aside0 (kq ≤ kj9) ∧ Aside0 (wc.heap[gb233]? = some (.cells #[.int .i64 a0_0, .int .u64 a0_1, .int .i64 a0_2, .int .i64 a0_3] 36 (0, 0))) ∧ Aside0 (Below w.heap.size w wc))
          case first =>
           have H := HC20.out
           clear HC20
           by_cases c22 : a0_0 ≥ 6
           ·rw [if_pos c22] at H
            have c22b0 : decide (6 ≤ a0_0) = true := decide_eq_true c22
            clear c22
            (first | rw [c22b0] | (simp only [i64_w, i32_w]; rw [c22b0]) | skip)
            have H' := Aside0.mk H
            clear H
            have hcz23_0 : wc.cell? ⟨gb233, 0, none⟩ = some (.int .i64 a0_0) := (blk_cell BK233.out 0).trans rfl
            have hcz23_1 : wc.cell? ⟨gb233, 1, none⟩ = some (.int .u64 a0_1) := (blk_cell BK233.out 1).trans rfl
            have hcz23_2 : wc.cell? ⟨gb233, 2, none⟩ = some (.int .i64 a0_2) := (blk_cell BK233.out 2).trans rfl
            have hcz23_3 : wc.cell? ⟨gb233, 3, none⟩ = some (.int .i64 a0_3) := (blk_cell BK233.out 3).trans rfl
            have hfz23_0 := blk_frozen BK233.out 0
            have hfz23_1 := blk_frozen BK233.out 1
            have hfz23_2 := blk_frozen BK233.out 2
            have hfz23_3 := blk_frozen BK233.out 3
            go_wp2
            go_meet
            case rel => exact ⟨_, (decide (a0_0 ≤ 17)), (by first | rfl | (simp; done) | (simp [*]; done)), H', ⟨by have := HJ1.out; have := HJ9.out; first | omega | exact Nat.le_refl _⟩, ⟨by (with_reducible repeat (first | refine blk_drewN ?_ _ | refine blk_drew ?_ | refine blk_alloc ?_ _)); exact BK233.out⟩, ⟨by repeat (first | (with_reducible first | exact HB.out | apply below_alloc | apply pw_below_drewN | apply below_drew1 | refine below_set ?_ GE233.out) | exact HB.out)⟩⟩
           ·rw [if_neg c22] at H
            have c22b0 : decide (6 ≤ a0_0) = false := decide_eq_false c22
            clear c22
            (first | rw [c22b0] | (simp only [i64_w, i32_w]; rw [c22b0]) | skip)
            have H' := Aside0.mk H
            clear H
            have hcz24_0 : wc.cell? ⟨gb233, 0, none⟩ = some (.int .i64 a0_0) := (blk_cell BK233.out 0).trans rfl
            have hcz24_1 : wc.cell? ⟨gb233, 1, none⟩ = some (.int .u64 a0_1) := (blk_cell BK233.out 1).trans rfl
            have hcz24_2 : wc.cell? ⟨gb233, 2, none⟩ = some (.int .i64 a0_2) := (blk_cell BK233.out 2).trans rfl
            have hcz24_3 : wc.cell? ⟨gb233, 3, none⟩ = some (.int .i64 a0_3) := (blk_cell BK233.out 3).trans rfl
            have hfz24_0 := blk_frozen BK233.out 0
            have hfz24_1 := blk_frozen BK233.out 1
            have hfz24_2 := blk_frozen BK233.out 2
            have hfz24_3 := blk_frozen BK233.out 3
            go_wp2
            go_meet
            case rel => exact ⟨_, (false), (by first | rfl | (simp; done) | (simp [*]; done)), H', ⟨by have := HJ1.out; have := HJ9.out; first | omega | exact Nat.le_refl _⟩, ⟨by (with_reducible repeat (first | refine blk_drewN ?_ _ | refine blk_drew ?_ | refine blk_alloc ?_ _)); exact BK233.out⟩, ⟨by repeat (first | (with_reducible first | exact HB.out | apply below_alloc | apply pw_below_drewN | apply below_drew1 | refine below_set ?_ GE233.out) | exact HB.out)⟩⟩
          case rest =>
           clear HC20
           try clear c1
           try clear c2
           try clear p2
           try clear c4
           try clear c4b0
           try clear c4b1
           try clear c7
           try clear c8
           try clear c8b0
           try clear c8b1
           try clear c12
           try clear c12b0
           try clear c12b1
           try clear c15
           try clear c16
           try clear c16b0
           try clear c16b1
           try clear c18
           try clear c18b0
           try clear c18b1
           try clear c22
           try clear c22b0
           try clear c24
           try clear hcz11_0
           try clear hcz11_1
           try clear hcz11_2
           try clear hcz11_3
           try clear hcz13_0
           try clear hcz13_1
           try clear hcz13_2
           try clear hcz13_3
           try clear hcz14_0
           try clear hcz14_1
           try clear hcz14_2
           try clear hcz14_3
           try clear hcz17_0
           try clear hcz17_1
           try clear hcz17_2
           try clear hcz17_3
           try clear hcz19_0
           try clear hcz19_1
           try clear hcz19_2
           try clear hcz19_3
           try clear hcz21_0
           try clear hcz21_1
           try clear hcz21_2
           try clear hcz21_3
           try clear hcz23_0
           try clear hcz23_1
           try clear hcz23_2
           try clear hcz23_3
           try clear hcz24_0
           try clear hcz24_1
           try clear hcz24_2
           try clear hcz24_3
           try clear hcz5_0
           try clear hcz5_1
           try clear hcz5_2
           try clear hcz5_3
           try clear hcz6_0
           try clear hcz6_1
           try clear hcz6_2
           try clear hcz6_3
           try clear hcz9_0
           try clear hcz9_1
           try clear hcz9_2
           try clear hcz9_3
           try clear hfz11_0
           try clear hfz11_1
           try clear hfz11_2
           try clear hfz11_3
           try clear hfz13_0
           try clear hfz13_1
           try clear hfz13_2
           try clear hfz13_3
           try clear hfz14_0
           try clear hfz14_1
           try clear hfz14_2
           try clear hfz14_3
           try clear hfz17_0
           try clear hfz17_1
           try clear hfz17_2
           try clear hfz17_3
           try clear hfz19_0
           try clear hfz19_1
           try clear hfz19_2
           try clear hfz19_3
           try clear hfz21_0
           try clear hfz21_1
           try clear hfz21_2
           try clear hfz21_3
           try clear hfz23_0
           try clear hfz23_1
           try clear hfz23_2
           try clear hfz23_3
           try clear hfz24_0
           try clear hfz24_1
           try clear hfz24_2
           try clear hfz24_3
           try clear hfz5_0
           try clear hfz5_1
           try clear hfz5_2
           try clear hfz5_3
           try clear hfz6_0
           try clear hfz6_1
           try clear hfz6_2
           try clear hfz6_3
           try clear hfz9_0
           try clear hfz9_1
           try clear hfz9_2
           try clear hfz9_3
           try clear p2
           obtain ⟨kq, x34_19, rfl, HA, HJ19, BK233, HB⟩ := hcut
           cases kq with
           | zero => exact absurd HA.out (by simp [janusref05_Moves.j2])
           | succ kj19 =>
            have H := HA.out
            clear HA
            simp only [janusref05_Moves.j2] at H
            by_cases c25 : x34_19 = true
            ·subst c25
             have H1 : (some (2, 1)) = some (r1, r2) := by rw [if_pos rfl] at H; exact H
             clear H
             have H := H1
             clear H1
             simp only [Option.some.injEq, Prod.mk.injEq] at H
             obtain ⟨rfl, rfl⟩ := H
             go_wp2
             go_ret2
             exact ⟨by first | rfl | (simp [errW_none, errW_some] <;> rfl) | (simp [*, errW_none, errW_some] <;> rfl), by repeat (first | (with_reducible first | exact HB.out | apply below_alloc | apply pw_below_drewN | apply below_drew1 | refine below_set ?_ GE233.out) | exact HB.out)⟩
            ·replace c25 := Bool.eq_false_iff.mpr c25
             subst c25
             have H1 : (if a0_0 = 18 then (janusref05_Moves.j3 kj19 true a0_0 a0_1 a0_2 a0_3) else (janusref05_Moves.j3 kj19 (a0_0 == 19) a0_0 a0_1 a0_2 a0_3)) = some (r1, r2) := by rw [if_neg (show ¬ (false = true) by decide)] at H; exact H
             clear H
             have H := H1
             clear H1
             have HC26 := Aside0.mk H
             clear H
             go_upto_region 13 with (fail)
             go_cut [43] (fun v43 wc => ∃ (kq : Nat) (x43_25 : Bool), v43 = .bool x43_25 ∧ Aside0 (janusref05_Moves.j3 kq x43_25 a0_0 a0_1 a0_2 a0_3 = some (r1, r2)) ∧ Aside0 (kq ≤ kj19) ∧ Aside0 (wc.heap[gb233]? = some (.cells #[.int .i64 a0_0, .int .u64 a0_1, .int .i64 a0_2, .int .i64 a0_3] 36 (0, 0))) ∧ Aside0 (Below w.heap.size w wc))
             case first =>
              have H := HC26.out
              clear HC26
              by_cases c27 : a0_0 = 18
              ·rw [if_pos c27] at H
               have c27b0 : (a0_0 == 18) = true := beq_iff_eq.mpr c27
               have c27b1 : (a0_0 != 18) = false := bne_eq_false_iff_eq.mpr c27
               clear c27
               (first | rw [c27b0] | (simp only [i64_w, i32_w]; rw [c27b0]) | skip)
               have H' := Aside0.mk H
               clear H
               have hcz28_0 : wc.cell? ⟨gb233, 0, none⟩ = some (.int .i64 a0_0) := (blk_cell BK233.out 0).trans rfl
               have hcz28_1 : wc.cell? ⟨gb233, 1, none⟩ = some (.int .u64 a0_1) := (blk_cell BK233.out 1).trans rfl
               have hcz28_2 : wc.cell? ⟨gb233, 2, none⟩ = some (.int .i64 a0_2) := (blk_cell BK233.out 2).trans rfl
               have hcz28_3 : wc.cell? ⟨gb233, 3, none⟩ = some (.int .i64 a0_3) := (blk_cell BK233.out 3).trans rfl
               have hfz28_0 := blk_frozen BK233.out 0
               have hfz28_1 := blk_frozen BK233.out 1
               have hfz28_2 := blk_frozen BK233.out 2
               have hfz28_3 := blk_frozen BK233.out 3
               go_wp2
               go_meet
               case rel => exact ⟨_, (true), (by first | rfl | (simp; done) | (simp [*]; done)), H', ⟨by have := HJ1.out; have := HJ9.out; have := HJ19.out; first | omega | exact Nat.le_refl _⟩, ⟨by (with_reducible repeat (first | refine blk_drewN ?_ _ | refine blk_drew ?_ | refine blk_alloc ?_ _)); exact BK233.out⟩, ⟨by repeat (first | (with_reducible first | exact HB.out | apply below_alloc | apply pw_below_drewN | apply below_drew1 | refine below_set ?_ GE233.out) | exact HB.out)⟩⟩
              ·rw [if_neg c27] at H
               have c27b0 : (a0_0 == 18) = false := beq_eq_false_iff_ne.mpr c27
               have c27b1 : (a0_0 != 18) = true := bne_iff_ne.mpr c27
               (first | rw [c27b0] | (simp only [i64_w, i32_w]; rw [c27b0]) | skip)
               have H' := Aside0.mk H
               clear H
               have hcz29_0 : wc.cell? ⟨gb233, 0, none⟩ = some (.int .i64 a0_0) := (blk_cell BK233.out 0).trans rfl
               have hcz29_1 : wc.cell? ⟨gb233, 1, none⟩ = some (.int .u64 a0_1) := (blk_cell BK233.out 1).trans rfl
               have hcz29_2 : wc.cell? ⟨gb233, 2, none⟩ = some (.int .i64 a0_2) := (blk_cell BK233.out 2).trans rfl
               have hcz29_3 : wc.cell? ⟨gb233, 3, none⟩ = some (.int .i64 a0_3) := (blk_cell BK233.out 3).trans rfl
               have hfz29_0 := blk_frozen BK233.out 0
               have hfz29_1 := blk_frozen BK233.out 1
               have hfz29_2 := blk_frozen BK233.out 2
               have hfz29_3 := blk_frozen BK233.out 3
               go_wp2
               go_meet
               case rel => exact ⟨_, ((a0_0 == 19)), (by first | rfl | (simp; done) | (simp [*]; done)), H', ⟨by have := HJ1.out; have := HJ9.out; have := HJ19.out; first | omega | exact Nat.le_refl _⟩, ⟨by (with_reducible repeat (first | refine blk_drewN ?_ _ | refine blk_drew ?_ | refine blk_alloc ?_ _)); exact BK233.out⟩, ⟨by repeat (first | (with_reducible first | exact HB.out | apply below_alloc | apply pw_below_drewN | apply below_drew1 | refine below_set ?_ GE233.out) | exact HB.out)⟩⟩
             case rest =>
              clear HC26
              try clear c1
              try clear c2
              try clear p2
              try clear c4
              try clear c4b0
              try clear c4b1
              try clear c7
              try clear c8
              try clear c8b0
              try clear c8b1
              try clear c12
              try clear c12b0
              try clear c12b1
              try clear c15
              try clear c16
              try clear c16b0
              try clear c16b1
              try clear c18
              try clear c18b0
              try clear c18b1
              try clear c22
              try clear c22b0
              try clear c24
              try clear c25
              try clear c27
              try clear c27b0
              try clear c27b1
              try clear hcz11_0
              try clear hcz11_1
              try clear hcz11_2
              try clear hcz11_3
              try clear hcz13_0
              try clear hcz13_1
              try clear hcz13_2
              try clear hcz13_3
              try clear hcz14_0
              try clear hcz14_1
              try clear hcz14_2
              try clear hcz14_3
              try clear hcz17_0
              try clear hcz17_1
              try clear hcz17_2
              try clear hcz17_3
              try clear hcz19_0
              try clear hcz19_1
              try clear hcz19_2
              try clear hcz19_3
              try clear hcz21_0
              try clear hcz21_1
              try clear hcz21_2
              try clear hcz21_3
              try clear hcz23_0
              try clear hcz23_1
              try clear hcz23_2
              try clear hcz23_3
              try clear hcz24_0
              try clear hcz24_1
              try clear hcz24_2
              try clear hcz24_3
              try clear hcz28_0
              try clear hcz28_1
              try clear hcz28_2
              try clear hcz28_3
              try clear hcz29_0
              try clear hcz29_1
              try clear hcz29_2
              try clear hcz29_3
              try clear hcz5_0
              try clear hcz5_1
              try clear hcz5_2
              try clear hcz5_3
              try clear hcz6_0
              try clear hcz6_1
              try clear hcz6_2
              try clear hcz6_3
              try clear hcz9_0
              try clear hcz9_1
              try clear hcz9_2
              try clear hcz9_3
              try clear hfz11_0
              try clear hfz11_1
              try clear hfz11_2
              try clear hfz11_3
              try clear hfz13_0
              try clear hfz13_1
              try clear hfz13_2
              try clear hfz13_3
              try clear hfz14_0
              try clear hfz14_1
              try clear hfz14_2
              try clear hfz14_3
              try clear hfz17_0
              try clear hfz17_1
              try clear hfz17_2
              try clear hfz17_3
              try clear hfz19_0
              try clear hfz19_1
              try clear hfz19_2
              try clear hfz19_3
              try clear hfz21_0
              try clear hfz21_1
              try clear hfz21_2
              try clear hfz21_3
              try clear hfz23_0
              try clear hfz23_1
              try clear hfz23_2
              try clear hfz23_3
              try clear hfz24_0
              try clear hfz24_1
              try clear hfz24_2
              try clear hfz24_3
              try clear hfz28_0
              try clear hfz28_1
              try clear hfz28_2
              try clear hfz28_3
              try clear hfz29_0
              try clear hfz29_1
              try clear hfz29_2
              try clear hfz29_3
              try clear hfz5_0
              try clear hfz5_1
              try clear hfz5_2
              try clear hfz5_3
              try clear hfz6_0
              try clear hfz6_1
              try clear hfz6_2
              try clear hfz6_3
              try clear hfz9_0
              try clear hfz9_1
              try clear hfz9_2
              try clear hfz9_3
              try clear p2
              obtain ⟨kq, x43_25, rfl, HA, HJ25, BK233, HB⟩ := hcut
              cases kq with
              | zero => exact absurd HA.out (by simp [janusref05_Moves.j3])
              | succ kj25 =>
               have H := HA.out
               clear HA
               simp only [janusref05_Moves.j3] at H
               by_cases c30 : x43_25 = true
               ·subst c30
                have H1 : (some (1, 1)) = some (r1, r2) := by rw [if_pos rfl] at H; exact H
                clear H
                have H := H1
                clear H1
                simp only [Option.some.injEq, Prod.mk.injEq] at H
                obtain ⟨rfl, rfl⟩ := H
                go_wp2
                go_ret2
                exact ⟨by first | rfl | (simp [errW_none, errW_some] <;> rfl) | (simp [*, errW_none, errW_some] <;> rfl), by repeat (first | (with_reducible first | exact HB.out | apply below_alloc | apply pw_below_drewN | apply below_drew1 | refine below_set ?_ GE233.out) | exact HB.out)⟩
               ·replace c30 := Bool.eq_false_iff.mpr c30
                subst c30
                have H1 : (if a0_0 = 20 then (some (2, 0)) else (if a0_0 = 21 then (some (0, 0)) else (if a0_0 = 23 then (if a0_1 ≤ 255 then ((janusref05_Args.f kj25 (wrap64 (a0_1))).bind fun t234 => (if t234 ≥ 0 then ((janusref05_Args.f kj25 (wrap64 (a0_1))).bind fun t235 => (some (t235, 1))) else (some ((-1), (-1))))) else (some ((-1), (-1)))) else (some ((-1), (-1)))))) = some (r1, r2) := by rw [if_neg (show ¬ (false = true) by decide)] at H; exact H
                clear H
                have H := H1
                clear H1
                by_cases c31 : a0_0 = 20
                ·rw [if_pos c31] at H
                 have c31b0 : (a0_0 == 20) = true := beq_iff_eq.mpr c31
                 have c31b1 : (a0_0 != 20) = false := bne_eq_false_iff_eq.mpr c31
                 clear c31
                 simp only [Option.some.injEq, Prod.mk.injEq] at H
                 obtain ⟨rfl, rfl⟩ := H
                 have hcz32_0 : wc.cell? ⟨gb233, 0, none⟩ = some (.int .i64 a0_0) := (blk_cell BK233.out 0).trans rfl
                 have hcz32_1 : wc.cell? ⟨gb233, 1, none⟩ = some (.int .u64 a0_1) := (blk_cell BK233.out 1).trans rfl
                 have hcz32_2 : wc.cell? ⟨gb233, 2, none⟩ = some (.int .i64 a0_2) := (blk_cell BK233.out 2).trans rfl
                 have hcz32_3 : wc.cell? ⟨gb233, 3, none⟩ = some (.int .i64 a0_3) := (blk_cell BK233.out 3).trans rfl
                 have hfz32_0 := blk_frozen BK233.out 0
                 have hfz32_1 := blk_frozen BK233.out 1
                 have hfz32_2 := blk_frozen BK233.out 2
                 have hfz32_3 := blk_frozen BK233.out 3
                 go_wp2
                 go_ret2
                 exact ⟨by first | rfl | (simp [errW_none, errW_some] <;> rfl) | (simp [*, errW_none, errW_some] <;> rfl), by repeat (first | (with_reducible first | exact HB.out | apply below_alloc | apply pw_below_drewN | apply below_drew1 | refine below_set ?_ GE233.out) | exact HB.out)⟩
                ·rw [if_neg c31] at H
                 have c31b0 : (a0_0 == 20) = false := beq_eq_false_iff_ne.mpr c31
                 have c31b1 : (a0_0 != 20) = true := bne_iff_ne.mpr c31
                 by_cases c33 : a0_0 = 21
                 ·rw [if_pos c33] at H
                  have c33b0 : (a0_0 == 21) = true := beq_iff_eq.mpr c33
                  have c33b1 : (a0_0 != 21) = false := bne_eq_false_iff_eq.mpr c33
                  clear c33
                  simp only [Option.some.injEq, Prod.mk.injEq] at H
                  obtain ⟨rfl, rfl⟩ := H
                  have hcz34_0 : wc.cell? ⟨gb233, 0, none⟩ = some (.int .i64 a0_0) := (blk_cell BK233.out 0).trans rfl
                  have hcz34_1 : wc.cell? ⟨gb233, 1, none⟩ = some (.int .u64 a0_1) := (blk_cell BK233.out 1).trans rfl
                  have hcz34_2 : wc.cell? ⟨gb233, 2, none⟩ = some (.int .i64 a0_2) := (blk_cell BK233.out 2).trans rfl
                  have hcz34_3 : wc.cell? ⟨gb233, 3, none⟩ = some (.int .i64 a0_3) := (blk_cell BK233.out 3).trans rfl
                  have hfz34_0 := blk_frozen BK233.out 0
                  have hfz34_1 := blk_frozen BK233.out 1
                  have hfz34_2 := blk_frozen BK233.out 2
                  have hfz34_3 := blk_frozen BK233.out 3
                  go_wp2
                  go_ret2
                  exact ⟨by first | rfl | (simp [errW_none, errW_some] <;> rfl) | (simp [*, errW_none, errW_some] <;> rfl), by repeat (first | (with_reducible first | exact HB.out | apply below_alloc | apply pw_below_drewN | apply below_drew1 | refine below_set ?_ GE233.out) | exact HB.out)⟩
                 ·rw [if_neg c33] at H
                  have c33b0 : (a0_0 == 21) = false := beq_eq_false_iff_ne.mpr c33
                  have c33b1 : (a0_0 != 21) = true := bne_iff_ne.mpr c33
                  by_cases c35 : a0_0 = 23
                  ·rw [if_pos c35] at H
                   have c35b0 : (a0_0 == 23) = true := beq_iff_eq.mpr c35
                   have c35b1 : (a0_0 != 23) = false := bne_eq_false_iff_eq.mpr c35
                   clear c35
                   by_cases c36 : a0_1 ≤ 255
                   ·rw [if_pos c36] at H
                    have c36b0 : decide (a0_1 ≤ 255) = true := decide_eq_true c36
                    clear c36
                    replace H := Option.bind_eq_some_iff.mp H
                    obtain ⟨t234, A370, H⟩ := H
                    replace H : (if t234 ≥ 0 then ((janusref05_Args.f kj25 (wrap64 (a0_1))).bind fun t235 => (some (t235, 1))) else (some ((-1), (-1)))) = some (r1, r2) := H
                    have A37 := Aside0.mk A370
                    clear A370
                    by_cases c38 : t234 ≥ 0
                    ·rw [if_pos c38] at H
                     have c38b0 : decide (0 ≤ t234) = true := decide_eq_true c38
                     clear c38
                     replace H := Option.bind_eq_some_iff.mp H
                     obtain ⟨t235, A390, H⟩ := H
                     replace H : (some (t235, 1)) = some (r1, r2) := H
                     have A39 := Aside0.mk A390
                     clear A390
                     simp only [Option.some.injEq, Prod.mk.injEq] at H
                     obtain ⟨rfl, rfl⟩ := H
                     have hcz40_0 : wc.cell? ⟨gb233, 0, none⟩ = some (.int .i64 a0_0) := (blk_cell BK233.out 0).trans rfl
                     have hcz40_1 : wc.cell? ⟨gb233, 1, none⟩ = some (.int .u64 a0_1) := (blk_cell BK233.out 1).trans rfl
                     have hcz40_2 : wc.cell? ⟨gb233, 2, none⟩ = some (.int .i64 a0_2) := (blk_cell BK233.out 2).trans rfl
                     have hcz40_3 : wc.cell? ⟨gb233, 3, none⟩ = some (.int .i64 a0_3) := (blk_cell BK233.out 3).trans rfl
                     have hfz40_0 := blk_frozen BK233.out 0
                     have hfz40_1 := blk_frozen BK233.out 1
                     have hfz40_2 := blk_frozen BK233.out 2
                     have hfz40_3 := blk_frozen BK233.out 3
                     go_wp2_with (first | (go_at_call 26; (with_reducible refine (janusref05_Args.calls kj25 (wrap64 (a0_1)) t234 _ A37.out).mono ?_); rintro e w' ⟨rfl, ⟨nd, rfl⟩⟩) | ((with_reducible refine gate_callee (f := 26) rfl ?_); refine goesL_ (some 79) rfl rfl Try.func26 (by kernel_rfl) rfl #[.int .i64 (wrap64 (a0_1))] rfl (by (try simp only [List.map_toArray, List.map_cons, List.map_nil]); first | done | rfl | (simp only [List.length_drop, List.length_take]; rfl)) ?_; (with_reducible refine (janusref05_Args.calls kj25 (wrap64 (a0_1)) t235 _ A39.out).mono ?_); rintro e w' ⟨rfl, ⟨nd, rfl⟩⟩; refine ⟨_, rfl, ?_⟩))
                     go_ret2
                     exact ⟨by first | rfl | (simp [errW_none, errW_some] <;> rfl) | (simp [*, errW_none, errW_some] <;> rfl), by repeat (first | (with_reducible first | exact HB.out | apply below_alloc | apply pw_below_drewN | apply below_drew1 | refine below_set ?_ GE233.out) | exact HB.out)⟩
                    ·rw [if_neg c38] at H
                     have c38b0 : decide (0 ≤ t234) = false := decide_eq_false c38
                     clear c38
                     simp only [Option.some.injEq, Prod.mk.injEq] at H
                     obtain ⟨rfl, rfl⟩ := H
                     have hcz41_0 : wc.cell? ⟨gb233, 0, none⟩ = some (.int .i64 a0_0) := (blk_cell BK233.out 0).trans rfl
                     have hcz41_1 : wc.cell? ⟨gb233, 1, none⟩ = some (.int .u64 a0_1) := (blk_cell BK233.out 1).trans rfl
                     have hcz41_2 : wc.cell? ⟨gb233, 2, none⟩ = some (.int .i64 a0_2) := (blk_cell BK233.out 2).trans rfl
                     have hcz41_3 : wc.cell? ⟨gb233, 3, none⟩ = some (.int .i64 a0_3) := (blk_cell BK233.out 3).trans rfl
                     have hfz41_0 := blk_frozen BK233.out 0
                     have hfz41_1 := blk_frozen BK233.out 1
                     have hfz41_2 := blk_frozen BK233.out 2
                     have hfz41_3 := blk_frozen BK233.out 3
                     go_wp2_with (first | (go_at_call 26; (with_reducible refine (janusref05_Args.calls kj25 (wrap64 (a0_1)) t234 _ A37.out).mono ?_); rintro e w' ⟨rfl, ⟨nd, rfl⟩⟩))
                     go_ret2
                     exact ⟨by first | rfl | (simp [errW_none, errW_some] <;> rfl) | (simp [*, errW_none, errW_some] <;> rfl), by repeat (first | (with_reducible first | exact HB.out | apply below_alloc | apply pw_below_drewN | apply below_drew1 | refine below_set ?_ GE233.out) | exact HB.out)⟩
                   ·rw [if_neg c36] at H
                    have c36b0 : decide (a0_1 ≤ 255) = false := decide_eq_false c36
                    clear c36
                    simp only [Option.some.injEq, Prod.mk.injEq] at H
                    obtain ⟨rfl, rfl⟩ := H
                    have hcz42_0 : wc.cell? ⟨gb233, 0, none⟩ = some (.int .i64 a0_0) := (blk_cell BK233.out 0).trans rfl
                    have hcz42_1 : wc.cell? ⟨gb233, 1, none⟩ = some (.int .u64 a0_1) := (blk_cell BK233.out 1).trans rfl
                    have hcz42_2 : wc.cell? ⟨gb233, 2, none⟩ = some (.int .i64 a0_2) := (blk_cell BK233.out 2).trans rfl
                    have hcz42_3 : wc.cell? ⟨gb233, 3, none⟩ = some (.int .i64 a0_3) := (blk_cell BK233.out 3).trans rfl
                    have hfz42_0 := blk_frozen BK233.out 0
                    have hfz42_1 := blk_frozen BK233.out 1
                    have hfz42_2 := blk_frozen BK233.out 2
                    have hfz42_3 := blk_frozen BK233.out 3
                    go_wp2
                    go_ret2
                    exact ⟨by first | rfl | (simp [errW_none, errW_some] <;> rfl) | (simp [*, errW_none, errW_some] <;> rfl), by repeat (first | (with_reducible first | exact HB.out | apply below_alloc | apply pw_below_drewN | apply below_drew1 | refine below_set ?_ GE233.out) | exact HB.out)⟩
                  ·rw [if_neg c35] at H
                   have c35b0 : (a0_0 == 23) = false := beq_eq_false_iff_ne.mpr c35
                   have c35b1 : (a0_0 != 23) = true := bne_iff_ne.mpr c35
                   simp only [Option.some.injEq, Prod.mk.injEq] at H
                   obtain ⟨rfl, rfl⟩ := H
                   have hcz43_0 : wc.cell? ⟨gb233, 0, none⟩ = some (.int .i64 a0_0) := (blk_cell BK233.out 0).trans rfl
                   have hcz43_1 : wc.cell? ⟨gb233, 1, none⟩ = some (.int .u64 a0_1) := (blk_cell BK233.out 1).trans rfl
                   have hcz43_2 : wc.cell? ⟨gb233, 2, none⟩ = some (.int .i64 a0_2) := (blk_cell BK233.out 2).trans rfl
                   have hcz43_3 : wc.cell? ⟨gb233, 3, none⟩ = some (.int .i64 a0_3) := (blk_cell BK233.out 3).trans rfl
                   have hfz43_0 := blk_frozen BK233.out 0
                   have hfz43_1 := blk_frozen BK233.out 1
                   have hfz43_2 := blk_frozen BK233.out 2
                   have hfz43_3 := blk_frozen BK233.out 3
                   go_wp2
                   go_ret2
                   exact ⟨by first | rfl | (simp [errW_none, errW_some] <;> rfl) | (simp [*, errW_none, errW_some] <;> rfl), by repeat (first | (with_reducible first | exact HB.out | apply below_alloc | apply pw_below_drewN | apply below_drew1 | refine below_set ?_ GE233.out) | exact HB.out)⟩
end Go.Proofs.Ytjbpljcfogekhaa.Q
namespace Go.Proofs.Ytjbpljcfogekhaa.Core
open Go.RowKit Ytjbpljcfogekhaa.Q YtjbpljcfogekhaaW.PrintWords YtjbpljcfogekhaaW.PrintLast YtjbpljcfogekhaaW.PrintMore
def argsS (c : Int) : Int :=
 if c = 2 then 0 else if c = 17 then 0 else if c = 18 then 0 else if c = 19 then 0
 else if c = 1 then 1 else if c = 4 then 1 else if c = 6 then 1 else if c = 9 then 1 else if c = 10 then 1
 else if c = 3 then 2 else if c = 11 then 2 else if c = 12 then 2 else if c = 15 then 2 else if c = 16 then 2
 else if c = 5 then 3 else if c = 7 then 3 else if c = 8 then 3
 else if c = 13 then 4 else if c = 14 then 4 else -1
theorem argsS_cases (c : Int) : argsS c = -1 ∨ argsS c = 0 ∨ argsS c = 1 ∨ argsS c = 2 ∨ argsS c = 3 ∨ argsS c = 4 := by
 obtain ⟨r, hr⟩ : ∃ r, r = argsS c := ⟨_, rfl⟩
 rw [← hr]
 unfold argsS at hr
 repeat' split at hr
 all_goals omega
theorem Args_ev (c : Int) : Ev (fun k => code_Args.f k c) (argsS c) := by
 by_cases h : 1 ≤ c ∧ c ≤ 19
 ·have h' : c = 1 ∨ c = 2 ∨ c = 3 ∨ c = 4 ∨ c = 5 ∨ c = 6 ∨ c = 7 ∨ c = 8 ∨ c = 9 ∨ c = 10 ∨ c = 11 ∨ c = 12 ∨ c = 13 ∨ c = 14 ∨ c = 15 ∨ c = 16 ∨ c = 17 ∨ c = 18 ∨ c = 19 := by omega
  rcases h' with rfl | rfl | rfl | rfl | rfl | rfl | rfl | rfl | rfl | rfl | rfl | rfl | rfl | rfl | rfl | rfl | rfl | rfl | rfl
  all_goals exact Ev.of (code_Args.mono _) (k := 4) (by decide +kernel)
 ·refine Ev.from 4 fun k => ?_
  have h1 : c ≠ 1 := by omega
  have h2 : c ≠ 2 := by omega
  have h3 : c ≠ 3 := by omega
  have h4 : c ≠ 4 := by omega
  have h5 : c ≠ 5 := by omega
  have h6 : c ≠ 6 := by omega
  have h7 : c ≠ 7 := by omega
  have h8 : c ≠ 8 := by omega
  have h9 : c ≠ 9 := by omega
  have h10 : c ≠ 10 := by omega
  have h11 : c ≠ 11 := by omega
  have h12 : c ≠ 12 := by omega
  have h13 : c ≠ 13 := by omega
  have h14 : c ≠ 14 := by omega
  have h15 : c ≠ 15 := by omega
  have h16 : c ≠ 16 := by omega
  have h17 : c ≠ 17 := by omega
  have h18 : c ≠ 18 := by omega
  have h19 : c ≠ 19 := by omega
  simp [code_Args.f, code_Args.j0, code_Args.j1, code_Args.j2, code_Args.j3, argsS, h1, h2, h3, h4, h5, h6, h7, h8, h9, h10, h11, h12, h13, h14, h15, h16, h17, h18, h19]
theorem RArgs_ev (c : Int) : Ev (fun k => janusref05_Args.f k c) (argsS c) := by
 by_cases h : 1 ≤ c ∧ c ≤ 19
 ·have h' : c = 1 ∨ c = 2 ∨ c = 3 ∨ c = 4 ∨ c = 5 ∨ c = 6 ∨ c = 7 ∨ c = 8 ∨ c = 9 ∨ c = 10 ∨ c = 11 ∨ c = 12 ∨ c = 13 ∨ c = 14 ∨ c = 15 ∨ c = 16 ∨ c = 17 ∨ c = 18 ∨ c = 19 := by omega
  rcases h' with rfl | rfl | rfl | rfl | rfl | rfl | rfl | rfl | rfl | rfl | rfl | rfl | rfl | rfl | rfl | rfl | rfl | rfl | rfl
  all_goals exact Ev.from 4 fun k => rfl
 ·refine Ev.from 4 fun k => ?_
  have h1 : c ≠ 1 := by omega
  have h2 : c ≠ 2 := by omega
  have h3 : c ≠ 3 := by omega
  have h4 : c ≠ 4 := by omega
  have h5 : c ≠ 5 := by omega
  have h6 : c ≠ 6 := by omega
  have h7 : c ≠ 7 := by omega
  have h8 : c ≠ 8 := by omega
  have h9 : c ≠ 9 := by omega
  have h10 : c ≠ 10 := by omega
  have h11 : c ≠ 11 := by omega
  have h12 : c ≠ 12 := by omega
  have h13 : c ≠ 13 := by omega
  have h14 : c ≠ 14 := by omega
  have h15 : c ≠ 15 := by omega
  have h16 : c ≠ 16 := by omega
  have h17 : c ≠ 17 := by omega
  have h18 : c ≠ 18 := by omega
  have h19 : c ≠ 19 := by omega
  simp [janusref05_Args.f, janusref05_Args.j0, janusref05_Args.j1, janusref05_Args.j2, janusref05_Args.j3, argsS, h1, h2, h3, h4, h5, h6, h7, h8, h9, h10, h11, h12, h13, h14, h15, h16, h17, h18, h19]
def movesS (op arg : Int) : Int × Int :=
 if op = 0 then (0, 1) else if op = 1 then (0, 1) else if op = 2 then (1, 2) else if op = 3 then (1, 0) else if op = 22 then (1, 0)
 else if op = 4 then (2, 2) else if op = 5 then (2, 3) else if op = 18 then (1, 1) else if op = 19 then (1, 1) else if op = 20 then (2, 0) else if op = 21 then (0, 0)
 else if op = 23 then (if arg < 256 then (if 0 ≤ argsS arg then (argsS arg, 1) else (-1, -1)) else (-1, -1))
 else if 6 ≤ op then (if op ≤ 17 then (2, 1) else (-1, -1)) else (-1, -1)
theorem wrap_small {n : Int} (h0 : 0 ≤ n) (h1 : n < 256) : wrap64 n = n := by unfold wrap64; omega
theorem Moves_ev (op arg a b : Int) (h0 : 0 ≤ arg) : Ev (fun k => code_Moves.f k op arg a b) (movesS op arg) := by
 have j2 : ∀ t, (t = true ↔ (op = 18 ∨ op = 19)) → op ≠ 0 → op ≠ 1 → op ≠ 2 → op ≠ 3 → op ≠ 22 → op ≠ 4 → op ≠ 5 → Ev (fun k => code_Moves.j2 k op t op arg a b) (movesS op arg) := by
  intro t ht g0 g1 g2 g3 g4 g5 g6
  unfold movesS
  rw [if_neg g0, if_neg g1, if_neg g2, if_neg g3, if_neg g4, if_neg g5, if_neg g6]
  by_cases h18 : op = 18 ∨ op = 19
  ·refine Ev.from 1 fun k => ?_
   simp only [code_Moves.j2]
   rw [if_pos (ht.2 h18)]
   rcases h18 with rfl | rfl <;> rfl
  ·have e18 : op ≠ 18 := fun h => h18 (.inl h)
   have e19 : op ≠ 19 := fun h => h18 (.inr h)
   rw [if_neg e18, if_neg e19]
   refine Ev.step (f := fun k => if op = 20 then (some (2, 0)) else (if op = 21 then (some (0, 0)) else (if op = 23 then (if arg < 256 then ((code_Args.f k (wrap64 (arg))).bind fun t131 => (code_Moves.j3 k (decide (t131 ≥ 0)) op arg a b)) else (code_Moves.j3 k false op arg a b)) else (if op ≥ 6 then (if op ≤ 17 then (some (2, 1)) else (some ((-1), (-1)))) else (some ((-1), (-1))))))) (fun k => ?_) ?_
   ·simp only [code_Moves.j2]
    rw [if_neg (fun h => h18 (ht.1 h))]
   ·have no : Ev (fun k => code_Moves.j3 k false op arg a b) (-1, -1) := Ev.from 1 fun k => by simp [code_Moves.j3]
    by_cases e20 : op = 20
    ·rw [if_pos e20]; exact Ev.pos e20 (Ev.now _)
    refine Ev.neg e20 ?_
    rw [if_neg e20]
    by_cases e21 : op = 21
    ·rw [if_pos e21]; exact Ev.pos e21 (Ev.now _)
    refine Ev.neg e21 ?_
    rw [if_neg e21]
    by_cases e23 : op = 23
    ·refine Ev.pos e23 ?_
     rw [if_pos e23]
     by_cases ha : arg < 256
     ·refine Ev.pos ha ?_
      rw [if_pos ha, wrap_small h0 ha]
      refine Ev.bind (Args_ev arg) ?_
      by_cases hn : 0 ≤ argsS arg
      ·rw [if_pos hn, decide_eq_true (show argsS arg ≥ 0 from hn)]
       refine Ev.step (f := fun k => (code_Args.f k (wrap64 (arg))).bind fun t132 => (some (t132, 1))) (fun k => by simp [code_Moves.j3]) ?_
       rw [wrap_small h0 ha]
       exact Ev.bind (Args_ev arg) (Ev.now _)
      ·rw [if_neg hn, decide_eq_false (show ¬ argsS arg ≥ 0 from hn)]
       exact no
     ·refine Ev.neg ha ?_
      rw [if_neg ha]
      exact no
    ·refine Ev.neg e23 ?_
     rw [if_neg e23]
     by_cases e6 : 6 ≤ op
     ·refine Ev.pos e6 ?_
      rw [if_pos e6]
      by_cases e17 : op ≤ 17
      ·simp only [if_pos e17]; exact Ev.now _
      ·simp only [if_neg e17]; exact Ev.now _
     ·simp only [ge_iff_le, if_neg e6]; exact Ev.now _
 have j1 : ∀ t, (t = true ↔ (op = 3 ∨ op = 22)) → op ≠ 0 → op ≠ 1 → op ≠ 2 → Ev (fun k => code_Moves.j1 k op t op arg a b) (movesS op arg) := by
  intro t ht g0 g1 g2
  by_cases h3 : op = 3 ∨ op = 22
  ·refine Ev.from 1 fun k => ?_
   simp only [code_Moves.j1]
   rw [if_pos (ht.2 h3)]
   rcases h3 with rfl | rfl <;> rfl
  ·have e3 : op ≠ 3 := fun h => h3 (.inl h)
   have e22 : op ≠ 22 := fun h => h3 (.inr h)
   by_cases e4 : op = 4
   ·refine Ev.from 1 fun k => ?_
    simp only [code_Moves.j1]
    rw [if_neg (fun h => h3 (ht.1 h)), if_pos e4]
    subst e4; rfl
   by_cases e5 : op = 5
   ·refine Ev.from 1 fun k => ?_
    simp only [code_Moves.j1]
    rw [if_neg (fun h => h3 (ht.1 h)), if_neg e4, if_pos e5]
    subst e5; rfl
   refine Ev.step (f := fun k => if op = 18 then (code_Moves.j2 k op (op == 18) op arg a b) else (code_Moves.j2 k op (op == 19) op arg a b)) (fun k => ?_) ?_
   ·simp only [code_Moves.j1]
    rw [if_neg (fun h => h3 (ht.1 h)), if_neg e4, if_neg e5]
   ·by_cases e18 : op = 18
    ·exact Ev.pos e18 (j2 _ (by simp [e18]) g0 g1 g2 e3 e22 e4 e5)
    ·exact Ev.neg e18 (j2 _ (by simp [e18]) g0 g1 g2 e3 e22 e4 e5)
 have j0 : ∀ t, (t = true ↔ (op = 0 ∨ op = 1)) → Ev (fun k => code_Moves.j0 k op t op arg a b) (movesS op arg) := by
  intro t ht
  by_cases h0 : op = 0 ∨ op = 1
  ·refine Ev.from 1 fun k => ?_
   simp only [code_Moves.j0]
   rw [if_pos (ht.2 h0)]
   rcases h0 with rfl | rfl <;> rfl
  ·have e0 : op ≠ 0 := fun h => h0 (.inl h)
   have e1 : op ≠ 1 := fun h => h0 (.inr h)
   by_cases e2 : op = 2
   ·refine Ev.from 1 fun k => ?_
    simp only [code_Moves.j0]
    rw [if_neg (fun h => h0 (ht.1 h)), if_pos e2]
    subst e2; rfl
   refine Ev.step (f := fun k => if op = 3 then (code_Moves.j1 k op (op == 3) op arg a b) else (code_Moves.j1 k op (op == 22) op arg a b)) (fun k => ?_) ?_
   ·simp only [code_Moves.j0]
    rw [if_neg (fun h => h0 (ht.1 h)), if_neg e2]
   ·by_cases e3 : op = 3
    ·exact Ev.pos e3 (j1 _ (by simp [e3]) e0 e1 e2)
    ·exact Ev.neg e3 (j1 _ (by simp [e3]) e0 e1 e2)
 simp only [code_Moves.f]
 by_cases e0 : op = 0
 ·exact Ev.pos e0 (j0 _ (by simp [e0]))
 ·exact Ev.neg e0 (j0 _ (by simp [e0]))
theorem RMoves_ev (op arg a b : Int) (h0 : 0 ≤ arg) : Ev (fun k => janusref05_Moves.f k op arg a b) (movesS op arg) := by
 have j3 : ∀ t, (t = true ↔ (op = 18 ∨ op = 19)) → op ≠ 0 → op ≠ 1 → op ≠ 2 → op ≠ 3 → op ≠ 22 → op ≠ 4 → op ≠ 5 → ¬ (6 ≤ op ∧ op ≤ 17) → Ev (fun k => janusref05_Moves.j3 k t op arg a b) (movesS op arg) := by
  intro t ht g0 g1 g2 g3 g4 g5 g6 g7
  unfold movesS
  rw [if_neg g0, if_neg g1, if_neg g2, if_neg g3, if_neg g4, if_neg g5, if_neg g6]
  by_cases h18 : op = 18 ∨ op = 19
  ·refine Ev.from 1 fun k => ?_
   simp only [janusref05_Moves.j3]
   rw [if_pos (ht.2 h18)]
   rcases h18 with rfl | rfl <;> rfl
  ·have e18 : op ≠ 18 := fun h => h18 (.inl h)
   have e19 : op ≠ 19 := fun h => h18 (.inr h)
   rw [if_neg e18, if_neg e19]
   refine Ev.step (f := fun k => if op = 20 then (some (2, 0)) else (if op = 21 then (some (0, 0)) else (if op = 23 then (if arg ≤ 255 then ((janusref05_Args.f k (wrap64 (arg))).bind fun t234 => (if t234 ≥ 0 then ((janusref05_Args.f k (wrap64 (arg))).bind fun t235 => (some (t235, 1))) else (some ((-1), (-1))))) else (some ((-1), (-1)))) else (some ((-1), (-1)))))) (fun k => ?_) ?_
   ·simp only [janusref05_Moves.j3]
    rw [if_neg (fun h => h18 (ht.1 h))]
   ·by_cases e20 : op = 20
    ·rw [if_pos e20]; exact Ev.pos e20 (Ev.now _)
    refine Ev.neg e20 ?_
    rw [if_neg e20]
    by_cases e21 : op = 21
    ·rw [if_pos e21]; exact Ev.pos e21 (Ev.now _)
    refine Ev.neg e21 ?_
    rw [if_neg e21]
    by_cases e23 : op = 23
    ·refine Ev.pos e23 ?_
     rw [if_pos e23]
     by_cases ha : arg < 256
     ·refine Ev.pos (by omega) ?_
      rw [if_pos ha, wrap_small h0 ha]
      refine Ev.bind (RArgs_ev arg) ?_
      by_cases hn : 0 ≤ argsS arg
      ·rw [if_pos hn]
       exact Ev.pos hn (Ev.bind (RArgs_ev arg) (Ev.now _))
      ·rw [if_neg hn]
       exact Ev.neg hn (Ev.now _)
     ·refine Ev.neg (by omega) ?_
      rw [if_neg ha]
      exact Ev.now _
    ·refine Ev.neg e23 ?_
     rw [if_neg e23]
     by_cases e6 : 6 ≤ op
     ·rw [if_pos e6, if_neg (fun h => g7 ⟨e6, h⟩)]; exact Ev.now _
     ·rw [if_neg e6]; exact Ev.now _
 have j2 : ∀ t, (t = true ↔ (6 ≤ op ∧ op ≤ 17)) → op ≠ 0 → op ≠ 1 → op ≠ 2 → op ≠ 3 → op ≠ 22 → op ≠ 4 → op ≠ 5 → Ev (fun k => janusref05_Moves.j2 k t op arg a b) (movesS op arg) := by
  intro t ht g0 g1 g2 g3 g4 g5 g6
  by_cases h6 : 6 ≤ op ∧ op ≤ 17
  ·refine Ev.from 1 fun k => ?_
   simp only [janusref05_Moves.j2]
   rw [if_pos (ht.2 h6)]
   unfold movesS
   rw [if_neg g0, if_neg g1, if_neg g2, if_neg g3, if_neg g4, if_neg g5, if_neg g6, if_neg (by omega), if_neg (by omega), if_neg (by omega), if_neg (by omega), if_neg (by omega), if_pos h6.1, if_pos h6.2]
  ·refine Ev.step (f := fun k => if op = 18 then (janusref05_Moves.j3 k true op arg a b) else (janusref05_Moves.j3 k (op == 19) op arg a b)) (fun k => ?_) ?_
   ·simp only [janusref05_Moves.j2]
    rw [if_neg (fun h => h6 (ht.1 h))]
   ·by_cases e18 : op = 18
    ·exact Ev.pos e18 (j3 _ (by simp [e18]) g0 g1 g2 g3 g4 g5 g6 h6)
    ·exact Ev.neg e18 (j3 _ (by simp [e18]) g0 g1 g2 g3 g4 g5 g6 h6)
 have j1 : ∀ t, (t = true ↔ (op = 3 ∨ op = 22)) → op ≠ 0 → op ≠ 1 → op ≠ 2 → Ev (fun k => janusref05_Moves.j1 k t op arg a b) (movesS op arg) := by
  intro t ht g0 g1 g2
  by_cases h3 : op = 3 ∨ op = 22
  ·refine Ev.from 1 fun k => ?_
   simp only [janusref05_Moves.j1]
   rw [if_pos (ht.2 h3)]
   rcases h3 with rfl | rfl <;> rfl
  ·have e3 : op ≠ 3 := fun h => h3 (.inl h)
   have e22 : op ≠ 22 := fun h => h3 (.inr h)
   by_cases e4 : op = 4
   ·refine Ev.from 1 fun k => ?_
    simp only [janusref05_Moves.j1]
    rw [if_neg (fun h => h3 (ht.1 h)), if_pos e4]
    subst e4; rfl
   by_cases e5 : op = 5
   ·refine Ev.from 1 fun k => ?_
    simp only [janusref05_Moves.j1]
    rw [if_neg (fun h => h3 (ht.1 h)), if_neg e4, if_pos e5]
    subst e5; rfl
   refine Ev.step (f := fun k => if op ≥ 6 then (janusref05_Moves.j2 k (decide (op ≤ 17)) op arg a b) else (janusref05_Moves.j2 k false op arg a b)) (fun k => ?_) ?_
   ·simp only [janusref05_Moves.j1]
    rw [if_neg (fun h => h3 (ht.1 h)), if_neg e4, if_neg e5]
   ·by_cases e6 : op ≥ 6
    ·exact Ev.pos e6 (j2 _ (by simp; omega) g0 g1 g2 e3 e22 e4 e5)
    ·exact Ev.neg e6 (j2 _ (by simp; omega) g0 g1 g2 e3 e22 e4 e5)
 have j0 : ∀ t, (t = true ↔ (op = 0 ∨ op = 1)) → Ev (fun k => janusref05_Moves.j0 k t op arg a b) (movesS op arg) := by
  intro t ht
  by_cases h0 : op = 0 ∨ op = 1
  ·refine Ev.from 1 fun k => ?_
   simp only [janusref05_Moves.j0]
   rw [if_pos (ht.2 h0)]
   rcases h0 with rfl | rfl <;> rfl
  ·have e0 : op ≠ 0 := fun h => h0 (.inl h)
   have e1 : op ≠ 1 := fun h => h0 (.inr h)
   by_cases e2 : op = 2
   ·refine Ev.from 1 fun k => ?_
    simp only [janusref05_Moves.j0]
    rw [if_neg (fun h => h0 (ht.1 h)), if_pos e2]
    subst e2; rfl
   refine Ev.step (f := fun k => if op = 3 then (janusref05_Moves.j1 k true op arg a b) else (janusref05_Moves.j1 k (op == 22) op arg a b)) (fun k => ?_) ?_
   ·simp only [janusref05_Moves.j0]
    rw [if_neg (fun h => h0 (ht.1 h)), if_neg e2]
   ·by_cases e3 : op = 3
    ·exact Ev.pos e3 (j1 _ (by simp [e3]) e0 e1 e2)
    ·exact Ev.neg e3 (j1 _ (by simp [e3]) e0 e1 e2)
 simp only [janusref05_Moves.f]
 by_cases e0 : op = 0
 ·exact Ev.pos e0 (j0 _ (by simp [e0]))
 ·exact Ev.neg e0 (j0 _ (by simp [e0]))
end Go.Proofs.Ytjbpljcfogekhaa.Core
namespace Go.Proofs.Ytjbpljcfogekhaa.Core
open Go.RowKit Ytjbpljcfogekhaa.Q YtjbpljcfogekhaaW.PrintWords YtjbpljcfogekhaaW.PrintLast YtjbpljcfogekhaaW.PrintMore
/-- how many numbers an instruction takes, and puts -/
def tk (x : S36) : Int := (movesS x.f0 x.f1).1
def pt (x : S36) : Int := (movesS x.f0 x.f1).2
def jmp (x : S36) : Bool := x.f0 == 21 || x.f0 == 22
/-- the number of the instruction that begins at a byte -/
def findS (l : List S36) (a : Int) : Option Nat := l.findIdx? fun x => x.f2 == a
theorem findS_some {l : List S36} {a : Int} {i : Nat} (h : findS l a = some i) : ∃ x, l[i]? = some x ∧ x.f2 = a := by
 unfold findS at h
 rw [List.findIdx?_eq_some_iff_getElem] at h
 obtain ⟨hi, h1, _⟩ := h
 exact ⟨l[i], List.getElem?_eq_getElem hi, by simpa using h1⟩
theorem findS_lt {l : List S36} {a : Int} {i : Nat} (h : findS l a = some i) : i < l.length := by
 obtain ⟨x, hx, _⟩ := findS_some h
 exact (List.getElem?_eq_some_iff.1 hx).1
/-- where an instruction leads -/
def succs (l : List S36) (i : Nat) (x : S36) : List Nat :=
 (if jmp x then [(findS l x.f1).getD 0] else []) ++ (if x.f0 = 21 then [] else [i + 1])
/-- every instruction is one, and each jump's aim is one -/
def okS (l : List S36) : Bool := l.all fun x => decide (0 ≤ tk x) && (!jmp x || (findS l x.f1).isSome)
/-- THE DEPTHS BY DEFINITION: what is reached, and with which depth -/
inductive Reach (l : List S36) : Nat → Int → Prop
 | start : Reach l 0 0
 | step {i : Nat} {d : Int} {x : S36} {j : Nat} : Reach l i d → l[i]? = some x → tk x ≤ d → d - tk x + pt x ≤ 32 → j ∈ succs l i x → Reach l j (d - tk x + pt x)
/-- it may not be run -/
inductive Bad (l : List S36) : Prop
 | stack {i : Nat} {d : Int} {x : S36} : Reach l i d → l[i]? = some x → (d < tk x ∨ 32 < d - tk x + pt x) → Bad l
 | end_ {d : Int} : Reach l l.length d → Bad l
 | two {i : Nat} {d d' : Int} : Reach l i d → Reach l i d' → d ≠ d' → Bad l
theorem movesS_q {Q : Int × Int → Prop} (h1 : Q (0, 1)) (h2 : Q (1, 2)) (h3 : Q (1, 0)) (h4 : Q (2, 2)) (h5 : Q (2, 3)) (h6 : Q (1, 1)) (h7 : Q (2, 0)) (h8 : Q (0, 0)) (h9 : Q (-1, -1)) (h10 : Q (2, 1))
  (h11 : ∀ c, 0 ≤ argsS c → Q (argsS c, 1)) (op arg : Int) : Q (movesS op arg) := by
 unfold movesS
 by_cases g0 : op = 0
 ·rw [if_pos g0]; exact h1
 rw [if_neg g0]
 by_cases g1 : op = 1
 ·rw [if_pos g1]; exact h1
 rw [if_neg g1]
 by_cases g2 : op = 2
 ·rw [if_pos g2]; exact h2
 rw [if_neg g2]
 by_cases g3 : op = 3
 ·rw [if_pos g3]; exact h3
 rw [if_neg g3]
 by_cases g4 : op = 22
 ·rw [if_pos g4]; exact h3
 rw [if_neg g4]
 by_cases g5 : op = 4
 ·rw [if_pos g5]; exact h4
 rw [if_neg g5]
 by_cases g6 : op = 5
 ·rw [if_pos g6]; exact h5
 rw [if_neg g6]
 by_cases g7 : op = 18
 ·rw [if_pos g7]; exact h6
 rw [if_neg g7]
 by_cases g8 : op = 19
 ·rw [if_pos g8]; exact h6
 rw [if_neg g8]
 by_cases g9 : op = 20
 ·rw [if_pos g9]; exact h7
 rw [if_neg g9]
 by_cases g10 : op = 21
 ·rw [if_pos g10]; exact h8
 rw [if_neg g10]
 by_cases g23 : op = 23
 ·rw [if_pos g23]
  by_cases ga : arg < 256
  ·rw [if_pos ga]
   by_cases gb : 0 ≤ argsS arg
   ·rw [if_pos gb]; exact h11 _ gb
   ·rw [if_neg gb]; exact h9
  ·rw [if_neg ga]; exact h9
 rw [if_neg g23]
 by_cases gc : 6 ≤ op
 ·rw [if_pos gc]
  by_cases gd : op ≤ 17
  ·rw [if_pos gd]; exact h10
  ·rw [if_neg gd]; exact h9
 ·rw [if_neg gc]; exact h9
theorem pt_nonneg {x : S36} : 0 ≤ tk x → 0 ≤ pt x := by
 unfold tk pt
 exact movesS_q (Q := fun p => 0 ≤ p.1 → 0 ≤ p.2) (by decide) (by decide) (by decide) (by decide) (by decide) (by decide) (by decide) (by decide) (by decide) (by decide) (fun _ _ _ => by simp) _ _
theorem tk_le {x : S36} : tk x ≤ 4 := by
 unfold tk
 refine movesS_q (Q := fun p => p.1 ≤ 4) (by decide) (by decide) (by decide) (by decide) (by decide) (by decide) (by decide) (by decide) (by decide) (by decide) (fun c _ => ?_) _ _
 have := argsS_cases c
 simp only
 omega
theorem pt_le {x : S36} : pt x ≤ 3 := by
 unfold pt
 exact movesS_q (Q := fun p => p.2 ≤ 3) (by decide) (by decide) (by decide) (by decide) (by decide) (by decide) (by decide) (by decide) (by decide) (by decide) (fun _ _ => by simp) _ _
theorem pt_ge {x : S36} : -1 ≤ pt x := by
 unfold pt
 exact movesS_q (Q := fun p => -1 ≤ p.2) (by decide) (by decide) (by decide) (by decide) (by decide) (by decide) (by decide) (by decide) (by decide) (by decide) (fun _ _ => by simp) _ _
theorem okS_tk {l : List S36} (hl : okS l = true) {i : Nat} {x : S36} (hx : l[i]? = some x) : 0 ≤ tk x := by
 have := List.all_eq_true.1 hl _ (List.mem_of_getElem? hx)
 simp at this
 exact this.1
theorem okS_jmp {l : List S36} (hl : okS l = true) {i : Nat} {x : S36} (hx : l[i]? = some x) (hj : jmp x = true) : ∃ k, findS l x.f1 = some k := by
 have := List.all_eq_true.1 hl _ (List.mem_of_getElem? hx)
 simp only [hj, Bool.not_true, Bool.false_or, Bool.and_eq_true] at this
 exact Option.isSome_iff_exists.1 this.2
theorem Reach_range {l : List S36} (hl : okS l = true) {i : Nat} {d : Int} (h : Reach l i d) : 0 ≤ d ∧ d ≤ 32 := by
 induction h with
 | start => omega
 | step hr hx h1 h2 _ ih =>
  have := pt_nonneg (okS_tk hl hx)
  omega
theorem succs_le {l : List S36} {i : Nat} {x : S36} (hx : l[i]? = some x) {j : Nat} (hj : j ∈ succs l i x) : j ≤ l.length := by
 have hi := (List.getElem?_eq_some_iff.1 hx).1
 unfold succs at hj
 rcases List.mem_append.1 hj with h | h
 ·split at h
  ·simp at h
   cases e : findS l x.f1 with
   | none => rw [e] at h; simp at h; omega
   | some k => rw [e] at h; simp at h; have := findS_lt e; omega
  ·simp at h
 ·split at h
  ·simp at h
  ·simp at h; omega
/-- WHAT IS FOUND: all that is reached, with its depth; -1 elsewhere. -/
structure Found (l : List S36) (ds : List Int) : Prop where
 len : ds.length = l.length
 iff : ∀ (i : Nat) (d : Int), ds[i]? = some d → 0 ≤ d → Reach l i d
 neg : ∀ (i : Nat) (d : Int), ds[i]? = some d → d < 0 → d = -1
 all : ∀ (i : Nat) (d : Int), Reach l i d → ds[i]? = some d
theorem Found.not_bad {l : List S36} {ds : List Int} (f : Found l ds) (hst : ∀ (i : Nat) (d : Int) (x : S36), ds[i]? = some d → 0 ≤ d → l[i]? = some x → tk x ≤ d ∧ d - tk x + pt x ≤ 32) (hd : ∀ (i : Nat) (d : Int), Reach l i d → 0 ≤ d) : ¬ Bad l := by
 rintro (⟨hr, hx, h⟩ | ⟨hr⟩ | ⟨h1, h2, hne⟩)
 ·have := hst _ _ _ (f.all _ _ hr) (hd _ _ hr) hx
  omega
 ·have := f.all _ _ hr
  rw [List.getElem?_eq_none (by rw [f.len]; exact Nat.le_refl _)] at this
  cases this
 ·have e1 := f.all _ _ h1
  have e2 := f.all _ _ h2
  rw [e1] at e2
  exact hne (Option.some.inj e2)
theorem Found.one {l : List S36} {ds es : List Int} (f : Found l ds) (g : Found l es) : ds = es := by
 apply List.ext_getElem?
 intro i
 by_cases hi : i < l.length
 ·have hd : i < ds.length := by rw [f.len]; exact hi
  have he : i < es.length := by rw [g.len]; exact hi
  obtain ⟨d, hd'⟩ : ∃ d, ds[i]? = some d := ⟨_, List.getElem?_eq_getElem hd⟩
  obtain ⟨e, he'⟩ : ∃ e, es[i]? = some e := ⟨_, List.getElem?_eq_getElem he⟩
  by_cases h0 : 0 ≤ d
  ·rw [hd', g.all _ _ (f.iff _ _ hd' h0)]
  ·by_cases h1 : 0 ≤ e
   ·rw [he', f.all _ _ (g.iff _ _ he' h1)]
   ·rw [hd', he', f.neg _ _ hd' (by omega), g.neg _ _ he' (by omega)]
 ·rw [List.getElem?_eq_none (by rw [f.len]; omega), List.getElem?_eq_none (by rw [g.len]; omega)]
/-- A way of finding them answers rightly. -/
inductive Right (l : List S36) : Option (List Int) → Prop
 | no : Bad l → Right l none
 | yes {ds : List Int} : Found l ds → ¬ Bad l → Right l (some ds)
theorem Right.one {l : List S36} {r q : Option (List Int)} (h : Right l r) (g : Right l q) : r = q := by
 cases h with
 | no h => cases g with
  | no => rfl
  | yes _ hb => exact absurd h hb
 | yes f hb => cases g with
  | no h => exact absurd h hb
  | yes f' _ => rw [f.one f']
/-- What is closed under the steps holds all that is reached. -/
theorem closed_all {l : List S36} {ds : List Int} (hs : ds[0]? = some 0)
  (hc : ∀ (i : Nat) (d : Int) (x : S36), ds[i]? = some d → 0 ≤ d → l[i]? = some x → (tk x ≤ d ∧ d - tk x + pt x ≤ 32) ∧ ∀ j ∈ succs l i x, ds[j]? = some (d - tk x + pt x)) (hl : okS l = true) :
  ∀ (i : Nat) (d : Int), Reach l i d → ds[i]? = some d := by
 intro i d h
 induction h with
 | start => exact hs
 | step hr hx h1 h2 hj ih =>
  exact (hc _ _ _ ih (Reach_range hl hr).1 hx).2 _ hj
end Go.Proofs.Ytjbpljcfogekhaa.Core
namespace Go.Proofs.Ytjbpljcfogekhaa.Core
open Go.RowKit Ytjbpljcfogekhaa.Q YtjbpljcfogekhaaW.PrintWords YtjbpljcfogekhaaW.PrintLast YtjbpljcfogekhaaW.PrintMore
def visitS (n : Int) (d : Int) : List Int → List Int → List Int → Option (List Int × List Int)
 | [], ds, wk => some (ds, wk)
 | k :: t, ds, wk => if k = n then none else if rd ds k = d then visitS n d t ds wk else if rd ds k ≥ 0 then none else visitS n d t (ds.set k.toNat d) (wk ++ [k])
def toS (l : List S36) (n : Int) (x : S36) : List Int :=
 (if jmp x then [(((findS l x.f1).getD 0 : Nat) : Int)] else []) ++ (if x.f0 = 21 then [] else [n + 1])
def lookF (l : List S36) : Nat → List Int → List Int → Option (Option (List Int))
 | 0, _, _ => none
 | f + 1, wk, ds =>
  if wk.length = 0 then some (some ds)
  else
   if rd ds (rd wk (wk.length - 1)) < tk (rd_T36 l (rd wk (wk.length - 1))) ∨ 32 < rd ds (rd wk (wk.length - 1)) - tk (rd_T36 l (rd wk (wk.length - 1))) + pt (rd_T36 l (rd wk (wk.length - 1))) then some none
   else match visitS l.length (rd ds (rd wk (wk.length - 1)) - tk (rd_T36 l (rd wk (wk.length - 1))) + pt (rd_T36 l (rd wk (wk.length - 1)))) (toS l (rd wk (wk.length - 1)) (rd_T36 l (rd wk (wk.length - 1)))) ds wk.dropLast with
    | none => some none
    | some (ds', wk') => lookF l f wk' ds'
theorem rd_of {ds : List Int} {i : Nat} {d : Int} (h : ds[i]? = some d) : rd ds (i : Int) = d := by
 unfold rd; simp [h]
theorem rdT_of {l : List S36} {i : Nat} {x : S36} (h : l[i]? = some x) : rd_T36 l (i : Int) = x := by
 unfold rd_T36; simp [List.getD, h]
theorem rd_get {ds : List Int} {i : Nat} (h : i < ds.length) : ds[i]? = some (rd ds (i : Int)) := by
 unfold rd; simp [List.getElem?_eq_getElem h]
def negs (ds : List Int) : Nat := ds.countP fun d => decide (d < 0)
theorem negs_set {ds : List Int} {i : Nat} {d : Int} (h : i < ds.length) (hn : rd ds (i : Int) < 0) (hd : 0 ≤ d) : negs (ds.set i d) + 1 = negs ds := by
 have e : ds[i]? = some (rd ds (i : Int)) := rd_get h
 have e' : ds[i] = rd ds (i : Int) := by rw [List.getElem?_eq_getElem h] at e; exact Option.some.inj e
 unfold negs
 rw [List.countP_set h]
 have h1 : (decide (ds[i] < 0)) = true := by rw [e']; simpa using hn
 have h2 : (decide (d < 0)) = false := by simpa using hd
 have h3 : 0 < List.countP (fun d => decide (d < 0)) ds := List.countP_pos_iff.2 ⟨ds[i], List.getElem_mem h, h1⟩
 rw [h1, h2]
 simp
 omega
/-- What holds while it looks. -/
structure LookInv (l : List S36) (wk ds : List Int) : Prop where
 len : ds.length = l.length
 sound : ∀ (i : Nat) (d : Int), ds[i]? = some d → 0 ≤ d → Reach l i d
 neg : ∀ (i : Nat) (d : Int), ds[i]? = some d → d < 0 → d = -1
 zero : ds[0]? = some 0
 work : ∀ k ∈ wk, ∃ (i : Nat) (d : Int), k = i ∧ ds[i]? = some d ∧ 0 ≤ d
theorem visitS_spec {l : List S36} {n : Nat} {x : S36} {d : Int} (hd : 0 ≤ d) (hr : ∀ j ∈ succs l n x, Reach l j d) (hle : ∀ j ∈ succs l n x, j ≤ l.length) :
  ∀ (ts : List Int) (ds wk : List Int), (∀ k ∈ ts, ∃ j : Nat, k = j ∧ j ∈ succs l n x) → LookInv l wk ds →
  (visitS l.length d ts ds wk = none ∧ Bad l) ∨ ∃ ds' wk', visitS l.length d ts ds wk = some (ds', wk') ∧ LookInv l wk' ds' ∧ (∀ (i : Nat) (e : Int), ds[i]? = some e → 0 ≤ e → ds'[i]? = some e) ∧
   (∀ k ∈ ts, ∃ j : Nat, k = j ∧ ds'[j]? = some d) ∧ (∀ k ∈ wk, k ∈ wk') ∧ (∀ (i : Nat) (e e' : Int), ds[i]? = some e → e < 0 → ds'[i]? = some e' → 0 ≤ e' → (i : Int) ∈ wk') ∧ negs ds' + wk'.length = negs ds + wk.length
 | [], ds, wk, _, inv => .inr ⟨ds, wk, rfl, inv, fun _ _ h _ => h, by simp, fun _ h => h, fun i e e' h h1 h2 h3 => by rw [h] at h2; cases h2; omega, rfl⟩
 | k :: t, ds, wk, hto, inv => by
  obtain ⟨j, rfl, hj⟩ := hto k (by simp)
  have ht : ∀ k ∈ t, ∃ j : Nat, k = j ∧ j ∈ succs l n x := fun k hk => hto k (by simp [hk])
  simp only [visitS]
  by_cases h1 : (j : Int) = l.length
  ·rw [if_pos h1]
   have : j = l.length := by omega
   exact .inl ⟨rfl, .end_ (this ▸ hr j hj)⟩
  ·rw [if_neg h1]
   have hlt : j < ds.length := by have := hle j hj; rw [inv.len]; omega
   have hg := rd_get hlt
   by_cases h2 : rd ds (j : Int) = d
   ·rw [if_pos h2]
    rcases visitS_spec hd hr hle t ds wk ht inv with h | ⟨ds', wk', e, i1, i2, i3, i4, i5, i6⟩
    ·exact .inl h
    ·refine .inr ⟨ds', wk', e, i1, i2, ?_, i4, i5, i6⟩
     intro k hk
     rcases List.mem_cons.1 hk with rfl | hk
     ·exact ⟨j, rfl, i2 j d (by rw [hg, h2]) hd⟩
     ·exact i3 k hk
   ·rw [if_neg h2]
    by_cases h3 : rd ds (j : Int) ≥ 0
    ·rw [if_pos h3]
     exact .inl ⟨rfl, .two (inv.sound j _ hg h3) (hr j hj) h2⟩
    ·rw [if_neg h3]
     have hset : (ds.set j d)[j]? = some d := by rw [List.getElem?_set_self hlt]
     have hoth : ∀ i, i ≠ j → (ds.set j d)[i]? = ds[i]? := fun i hi => List.getElem?_set_ne (Ne.symm hi)
     have inv' : LookInv l (wk ++ [(j : Int)]) (ds.set j d) := by
      refine ⟨by simp [inv.len], ?_, ?_, ?_, ?_⟩
      ·intro i e he h0
       by_cases hi : i = j
       ·subst hi; rw [hset] at he; cases he; exact hr i hj
       ·rw [hoth i hi] at he; exact inv.sound i e he h0
      ·intro i e he h0
       by_cases hi : i = j
       ·subst hi; rw [hset] at he; cases he; omega
       ·rw [hoth i hi] at he; exact inv.neg i e he h0
      ·by_cases hi : 0 = j
       ·subst hi; rw [inv.zero] at hg; have := Option.some.inj hg; omega
       ·rw [hoth 0 hi]; exact inv.zero
      ·intro k hk
       rcases List.mem_append.1 hk with hk | hk
       ·obtain ⟨i, e, rfl, he, h0⟩ := inv.work k hk
        by_cases hi : i = j
        ·subst hi; exact ⟨i, d, rfl, hset, hd⟩
        ·exact ⟨i, e, rfl, by rw [hoth i hi]; exact he, h0⟩
       ·rw [List.mem_singleton.1 hk]; exact ⟨j, d, rfl, hset, hd⟩
     have ej : ((j : Int)).toNat = j := by simp
     rw [ej]
     rcases visitS_spec hd hr hle t (ds.set j d) (wk ++ [(j : Int)]) ht inv' with h | ⟨ds', wk', e, i1, i2, i3, i4, i5, i6⟩
     ·exact .inl h
     ·refine .inr ⟨ds', wk', e, i1, ?_, ?_, ?_, ?_, ?_⟩
      ·intro i e he h0
       refine i2 i e ?_ h0
       by_cases hi : i = j
       ·subst hi; rw [hg] at he; have := Option.some.inj he; omega
       ·rw [hoth i hi]; exact he
      ·intro k hk
       rcases List.mem_cons.1 hk with rfl | hk
       ·exact ⟨j, rfl, i2 j d hset hd⟩
       ·exact i3 k hk
      ·intro k hk; exact i4 k (by simp [hk])
      ·intro i e e' he h0 he' h0'
       by_cases hi : i = j
       ·subst hi; exact i4 _ (by simp)
       ·exact i5 i e e' (by rw [hoth i hi]; exact he) h0 he' h0'
      ·have := negs_set (d := d) hlt (by omega) hd
       rw [i6, List.length_append, List.length_singleton]
       omega
theorem toS_succs {l : List S36} {n : Nat} {x : S36} : ∀ k ∈ toS l (n : Int) x, ∃ j : Nat, k = j ∧ j ∈ succs l n x := by
 intro k hk
 unfold toS at hk
 unfold succs
 rcases List.mem_append.1 hk with h | h
 ·split at h
  ·rename_i hj
   refine ⟨_, List.mem_singleton.1 h, ?_⟩
   simp [hj]
  ·simp at h
 ·split at h
  ·simp at h
  ·rename_i hj
   refine ⟨n + 1, by rw [List.mem_singleton.1 h]; simp, ?_⟩
   simp [hj]
theorem succs_toS {l : List S36} {n : Nat} {x : S36} {j : Nat} (h : j ∈ succs l n x) : (j : Int) ∈ toS l (n : Int) x := by
 unfold succs at h
 unfold toS
 rcases List.mem_append.1 h with h | h
 ·refine List.mem_append.2 (.inl ?_)
  split at h
  ·rename_i hj
   rw [if_pos hj, List.mem_singleton.1 h]
   simp
  ·simp at h
 ·refine List.mem_append.2 (.inr ?_)
  split at h
  ·simp at h
  ·rename_i hj
   rw [if_neg hj, List.mem_singleton.1 h]
   simp
theorem lookF_right {l : List S36} (hl : okS l = true) : ∀ (f : Nat) (wk ds : List Int), LookInv l wk ds →
  (∀ (i : Nat) (d : Int) (x : S36), ds[i]? = some d → 0 ≤ d → l[i]? = some x → (i : Int) ∈ wk ∨ (tk x ≤ d ∧ d - tk x + pt x ≤ 32) ∧ ∀ j ∈ succs l i x, ds[j]? = some (d - tk x + pt x)) →
  negs ds + wk.length < f → ∃ r, lookF l f wk ds = some r ∧ Right l r
 | 0, _, _, _, _, hf => by omega
 | f + 1, wk, ds, inv, hc, hf => by
  rw [lookF]
  by_cases hw : wk.length = 0
  ·rw [if_pos hw]
   have hw' : wk = [] := List.length_eq_zero_iff.1 hw
   subst hw'
   have hcl : ∀ (i : Nat) (d : Int) (x : S36), ds[i]? = some d → 0 ≤ d → l[i]? = some x → (tk x ≤ d ∧ d - tk x + pt x ≤ 32) ∧ ∀ j ∈ succs l i x, ds[j]? = some (d - tk x + pt x) :=
    fun i d x h h0 hx => (hc i d x h h0 hx).resolve_left (by simp)
   have F : Found l ds := ⟨inv.len, inv.sound, inv.neg, closed_all inv.zero hcl hl⟩
   exact ⟨_, rfl, .yes F (F.not_bad (fun i d x h h0 hx => (hcl i d x h h0 hx).1) (fun i d h => (Reach_range hl h).1))⟩
  ·rw [if_neg hw]
   obtain ⟨wk0, k, rfl⟩ : ∃ wk0 k, wk = wk0 ++ [k] := ⟨wk.dropLast, wk.getLast (by intro h; simp [h] at hw), (List.dropLast_concat_getLast _).symm⟩
   obtain ⟨n, d, rfl, hn, h0⟩ := inv.work k (by simp)
   have hrd : rd (wk0 ++ [(n : Int)]) (((wk0 ++ [(n : Int)]).length : Int) - 1) = n := by
    unfold rd; simp
   have hnl : n < l.length := by rw [← inv.len]; exact (List.getElem?_eq_some_iff.1 hn).1
   obtain ⟨x, hx⟩ : ∃ x, l[n]? = some x := ⟨_, List.getElem?_eq_getElem hnl⟩
   rw [hrd, rdT_of hx, rd_of hn]
   have hR := inv.sound n d hn h0
   by_cases hb : d < tk x ∨ 32 < d - tk x + pt x
   ·rw [if_pos hb]
    exact ⟨_, rfl, .no (.stack hR hx hb)⟩
   ·rw [if_neg hb, List.dropLast_concat]
    have hd' : 0 ≤ d - tk x + pt x := by
     have := pt_nonneg (okS_tk hl hx)
     omega
    have inv0 : LookInv l wk0 ds := ⟨inv.len, inv.sound, inv.neg, inv.zero, fun k hk => inv.work k (by simp [hk])⟩
    rcases visitS_spec (n := n) hd' (fun j hj => Reach.step hR hx (by omega) (by omega) hj) (fun j hj => succs_le hx hj) (toS l n x) ds wk0 toS_succs inv0 with ⟨e, hB⟩ | ⟨ds', wk', e, i1, i2, i3, i4, i5, i6⟩
    ·rw [e]; exact ⟨_, rfl, .no hB⟩
    ·rw [e]
     refine lookF_right hl f wk' ds' i1 ?_ (by simp at hf; omega)
     intro i e' y he' h0' hy
     have hil : i < ds.length := by rw [inv.len]; exact (List.getElem?_eq_some_iff.1 hy).1
     have hg := rd_get hil
     by_cases hneg : rd ds (i : Int) < 0
     ·exact .inl (i5 i _ e' hg hneg he' h0')
     ·have e2 := i2 i _ hg (by omega)
      rw [he'] at e2
      have e3 := Option.some.inj e2
      rw [← e3] at hg
      by_cases hin : i = n
      ·subst hin
       rw [hn] at hg
       obtain rfl := Option.some.inj hg
       rw [hx] at hy
       obtain rfl := Option.some.inj hy
       refine .inr ⟨by omega, fun j hj => ?_⟩
       obtain ⟨j', hj', hd2⟩ := i3 _ (succs_toS hj)
       have : j = j' := by omega
       subst this
       exact hd2
      ·rcases hc i e' y hg h0' hy with hw1 | ⟨h1, h2⟩
       ·rcases List.mem_append.1 hw1 with hw1 | hw1
        ·exact .inl (i4 _ hw1)
        ·simp at hw1; omega
       ·refine .inr ⟨h1, fun j hj => i2 j _ (h2 j hj) ?_⟩
        have := pt_nonneg (okS_tk hl hy)
        omega
def start (l : List S36) : List Int := (List.replicate l.length (-1)).set 0 0
theorem start_inv {l : List S36} (h : 0 < l.length) : LookInv l [0] (start l) := by
 have h0 : (start l)[0]? = some 0 := by unfold start; rw [List.getElem?_set_self (by simpa using h)]
 have hi : ∀ i : Nat, i ≠ 0 → (start l)[i]? = (List.replicate l.length (-1 : Int))[i]? := fun i hi => by unfold start; rw [List.getElem?_set_ne (Ne.symm hi)]
 refine ⟨by simp [start], ?_, ?_, h0, ?_⟩
 ·intro i d hd hge
  by_cases he : i = 0
  ·subst he; rw [h0] at hd; cases hd; exact .start
  ·rw [hi i he, List.getElem?_replicate] at hd
   split at hd
   ·cases hd; omega
   ·cases hd
 ·intro i d hd hlt
  by_cases he : i = 0
  ·subst he; rw [h0] at hd; cases hd; omega
  ·rw [hi i he, List.getElem?_replicate] at hd
   split at hd
   ·cases hd; rfl
   ·cases hd
 ·intro k hk
  rw [List.mem_singleton.1 hk]
  exact ⟨0, 0, rfl, h0, by omega⟩
theorem look_right {l : List S36} (hl : okS l = true) (h : 0 < l.length) (f : Nat) (hf : l.length + 1 < f) : ∃ r, lookF l f [0] (start l) = some r ∧ Right l r := by
 refine lookF_right hl f [0] (start l) (start_inv h) ?_ ?_
 ·intro i d x hd h0 _
  by_cases he : i = 0
  ·subst he; exact .inl (by simp)
  ·unfold start at hd
   rw [List.getElem?_set_ne (Ne.symm he), List.getElem?_replicate] at hd
   split at hd
   ·cases hd; omega
   ·cases hd
 ·have : negs (start l) ≤ (start l).length := List.countP_le_length
  have e : (start l).length = l.length := by simp [start]
  simp only [List.length_singleton]
  omega
end Go.Proofs.Ytjbpljcfogekhaa.Core
namespace Go.Proofs.Ytjbpljcfogekhaa.Q
open Go.RowKit YtjbpljcfogekhaaW.PrintWords YtjbpljcfogekhaaW.PrintLast YtjbpljcfogekhaaW.PrintMore
attribute [local go_sem] max2_int min2_int max_two min_two max_three min_three max_four min_four
def janusref06_find.l0 : Nat → List (S36) → Int → Int → Option (Int)
 | 0, _, _, _ => none
 | k + 1, x0, x1, x5 => if x5 < (x0.length : Int) then (if 0 ≤ x5 then (if (IntKind.u64.wrap ((rd_T36 x0 x5).f2)) = x1 then (some x5) else (janusref06_find.l0 k x0 x1 (wrap64 (x5 + 1)))) else (none)) else (some (-1))
def janusref06_find.f (k : Nat) (l0 : List (S36)) (a1 : Int) : Option (Int) := janusref06_find.l0 k l0 a1 0
set_option maxHeartbeats 8000000 in
set_option maxRecDepth 100000 in
theorem janusref06_find.calls (k : Nat) (A0 : Option Addr) (c0 : Nat) (l0 : List (S36)) (a1 : Int) (r : Int) (w : World) (hr0 : Kd.C k36 w A0 l0.length l0) (hc0 : l0.length ≤ c0) (h : janusref06_find.f k l0 a1 = some r) :
  Calls Try.prog 44 #[.slice A0 l0.length c0, .int .u64 a1] w fun e w' => e = .returned (.int .i64 r) ∧ Drawn0 w w' := by
 have HR0 := Aside0.mk hr0
 have HC0 := Aside0.mk hc0
 clear hr0 hc0
 have H : (janusref06_find.l0 k l0 a1 0) = some r := h
 clear h
 have H' := Aside0.mk H
 clear H
 go_enter Try.func44, Try.ntmps44
 go_wp2
 go_loopg [5] k (fun kq v5 w' => ∃ (x5_1 : Int), v5 = .int .i64 x5_1 ∧ Aside0 (janusref06_find.l0 kq l0 a1 x5_1 = some r) ∧ Aside0 (kq ≤ k) ∧ Drawn0 w w')
 case atStart => exact ⟨(0), (by first | rfl | (simp; done) | (simp [*]; done)), H', ⟨Nat.le_refl _⟩, by repeat (first | exact Drawn0.refl _ | apply Drawn0.step)⟩
 case round =>
  clear H'
  try clear p2
  obtain ⟨x5_1, rfl, HA, HK1, ⟨m1, rfl⟩⟩ := hrel
  cases gk with
  | zero => exact absurd HA.out (by simp [janusref06_find.l0])
  | succ k1 =>
   have H := HA.out
   clear HA
   simp only [janusref06_find.l0] at H
   by_cases c3 : x5_1 < (l0.length : Int)
   ·rw [if_pos c3] at H
    have c3b0 : decide (x5_1 < (l0.length : Int)) = true := decide_eq_true c3
    clear c3
    by_cases c4 : 0 ≤ x5_1
    ·rw [if_pos c4] at H
     have c4b0 : decide (0 ≤ x5_1) = true := decide_eq_true c4
     clear c4
     by_cases c5 : (IntKind.u64.wrap ((rd_T36 l0 x5_1).f2)) = a1
     ·rw [if_pos c5] at H
      have c5b0 : ((IntKind.u64.wrap ((rd_T36 l0 x5_1).f2)) == a1) = true := beq_iff_eq.mpr c5
      have c5b1 : ((IntKind.u64.wrap ((rd_T36 l0 x5_1).f2)) != a1) = false := bne_eq_false_iff_eq.mpr c5
      clear c5
      obtain rfl := Option.some.inj H
      have p268 : 0 ≤ (x5_1 : Int) := of_decide_eq_true (by first | (with_reducible assumption) | assumption)
      have q268 : x5_1 < (l0.length : Int) := of_decide_eq_true (by first | (with_reducible assumption) | assumption)
      obtain ⟨ad268, e268, hx268_0, hx268_1, hx268_2, hx268_3⟩ := at_T36 HR0.out x5_1 p268 q268
      cases e268
      replace p268 := eq_true p268
      replace q268 := eq_true q268
      go_wp2
      go_ret
      exact ⟨by first | rfl | (simp; done) | (simp [*]; done) | (simp; unfold wrap64; omega), by repeat (first | exact Drawn0.refl _ | apply Drawn0.step)⟩
     ·rw [if_neg c5] at H
      have c5b0 : ((IntKind.u64.wrap ((rd_T36 l0 x5_1).f2)) == a1) = false := beq_eq_false_iff_ne.mpr c5
      have c5b1 : ((IntKind.u64.wrap ((rd_T36 l0 x5_1).f2)) != a1) = true := bne_iff_ne.mpr c5
      have H' := Aside0.mk H
      clear H
      have p268 : 0 ≤ (x5_1 : Int) := of_decide_eq_true (by first | (with_reducible assumption) | assumption)
      have q268 : x5_1 < (l0.length : Int) := of_decide_eq_true (by first | (with_reducible assumption) | assumption)
      obtain ⟨ad268, e268, hx268_0, hx268_1, hx268_2, hx268_3⟩ := at_T36 HR0.out x5_1 p268 q268
      cases e268
      replace p268 := eq_true p268
      replace q268 := eq_true q268
      go_wp2
      go_roundg k1
      case measure => have := HK1.out; omega
      case rel => exact ⟨(wrap64 (x5_1 + 1)), (by first | rfl | (simp; done) | (simp [*]; done)), H', ⟨by have := HK1.out; omega⟩, by repeat (first | exact Drawn0.refl _ | apply Drawn0.step)⟩
    ·rw [if_neg c4] at H
     exact absurd H (by simp)
   ·rw [if_neg c3] at H
    have c3b0 : decide (x5_1 < (l0.length : Int)) = false := decide_eq_false c3
    clear c3
    obtain rfl := Option.some.inj H
    go_wp2
    go_ret
    exact ⟨by first | rfl | (simp; done) | (simp [*]; done) | (simp; unfold wrap64; omega), by repeat (first | exact Drawn0.refl _ | apply Drawn0.step)⟩
end Go.Proofs.Ytjbpljcfogekhaa.Q
namespace Go.Proofs.Ytjbpljcfogekhaa.Core
open Go.RowKit Ytjbpljcfogekhaa.Q YtjbpljcfogekhaaW.PrintWords YtjbpljcfogekhaaW.PrintLast YtjbpljcfogekhaaW.PrintMore
def visitR (d : Int) : List Int → List Int → Bool → Option (List Int × Bool)
 | [], ds, m => some (ds, m)
 | k :: t, ds, m => if rd ds k ≥ 0 then (if rd ds k = d then visitR d t (ds.set k.toNat d) m else none) else visitR d t (ds.set k.toNat d) true
def toR (l : List S36) (n : Int) (x : S36) : List Int :=
 (if x.f0 = 21 then [] else [n + 1]) ++ (if jmp x then [(((findS l x.f1).getD 0 : Nat) : Int)] else [])
def sweepR (l : List S36) : Nat → Nat → List Int → Bool → Option (List Int × Bool)
 | 0, _, ds, m => some (ds, m)
 | f + 1, i, ds, m =>
  if rd ds (i : Int) < 0 then sweepR l f (i + 1) ds m
  else if rd ds (i : Int) < tk (rd_T36 l (i : Int)) ∨ 32 < rd ds (i : Int) - tk (rd_T36 l (i : Int)) + pt (rd_T36 l (i : Int)) then none
  else if (rd_T36 l (i : Int)).f0 ≠ 21 ∧ i + 1 = l.length then none
  else match visitR (rd ds (i : Int) - tk (rd_T36 l (i : Int)) + pt (rd_T36 l (i : Int))) (toR l (i : Int) (rd_T36 l (i : Int))) ds m with
   | none => none
   | some (ds', m') => sweepR l f (i + 1) ds' m'
theorem set_same {ds : List Int} {j : Nat} {d : Int} (h : ds[j]? = some d) : ds.set j d = ds := by
 apply List.ext_getElem?
 intro i
 by_cases hi : i = j
 ·subst hi; rw [h, List.getElem?_set_self (List.getElem?_eq_some_iff.1 h).1]
 ·rw [List.getElem?_set_ne (Ne.symm hi)]
theorem visitR_spec {l : List S36} {n : Nat} {x : S36} {d : Int} (hd : 0 ≤ d) (hr : ∀ j ∈ succs l n x, Reach l j d) (hlt : ∀ j ∈ succs l n x, j < l.length) :
  ∀ (ts : List Int) (ds : List Int) (m : Bool), (∀ k ∈ ts, ∃ j : Nat, k = j ∧ j ∈ succs l n x) → LookInv l [] ds →
  (visitR d ts ds m = none ∧ Bad l) ∨ ∃ ds' m', visitR d ts ds m = some (ds', m') ∧ LookInv l [] ds' ∧ (∀ (i : Nat) (e : Int), ds[i]? = some e → 0 ≤ e → ds'[i]? = some e) ∧
   (∀ k ∈ ts, ∃ j : Nat, k = j ∧ ds'[j]? = some d) ∧ (m' = false → m = false ∧ ds' = ds) ∧ negs ds' ≤ negs ds ∧ (m' = true → m = true ∨ negs ds' < negs ds)
 | [], ds, m, _, inv => .inr ⟨ds, m, rfl, inv, fun _ _ h _ => h, by simp, fun h => ⟨h, rfl⟩, Nat.le_refl _, fun h => .inl h⟩
 | k :: t, ds, m, hto, inv => by
  obtain ⟨j, rfl, hj⟩ := hto k (by simp)
  have ht : ∀ k ∈ t, ∃ j : Nat, k = j ∧ j ∈ succs l n x := fun k hk => hto k (by simp [hk])
  simp only [visitR]
  have hlt' : j < ds.length := by have := hlt j hj; rw [inv.len]; omega
  have hg := rd_get hlt'
  have ej : ((j : Int)).toNat = j := by simp
  rw [ej]
  by_cases h3 : rd ds (j : Int) ≥ 0
  ·rw [if_pos h3]
   by_cases h2 : rd ds (j : Int) = d
   ·rw [if_pos h2]
    rw [h2] at hg
    rw [set_same hg]
    rcases visitR_spec hd hr hlt t ds m ht inv with h | ⟨ds', m', e, i1, i2, i3, i4⟩
    ·exact .inl h
    ·refine .inr ⟨ds', m', e, i1, i2, ?_, i4⟩
     intro k hk
     rcases List.mem_cons.1 hk with rfl | hk
     ·exact ⟨j, rfl, i2 j d hg hd⟩
     ·exact i3 k hk
   ·rw [if_neg h2]
    exact .inl ⟨rfl, .two (inv.sound j _ hg h3) (hr j hj) h2⟩
  ·rw [if_neg h3]
   have hset : (ds.set j d)[j]? = some d := by rw [List.getElem?_set_self hlt']
   have hoth : ∀ i, i ≠ j → (ds.set j d)[i]? = ds[i]? := fun i hi => List.getElem?_set_ne (Ne.symm hi)
   have inv' : LookInv l [] (ds.set j d) := by
    refine ⟨by simp [inv.len], ?_, ?_, ?_, by simp⟩
    ·intro i e he h0
     by_cases hi : i = j
     ·subst hi; rw [hset] at he; cases he; exact hr i hj
     ·rw [hoth i hi] at he; exact inv.sound i e he h0
    ·intro i e he h0
     by_cases hi : i = j
     ·subst hi; rw [hset] at he; cases he; omega
     ·rw [hoth i hi] at he; exact inv.neg i e he h0
    ·by_cases hi : 0 = j
     ·subst hi; rw [inv.zero] at hg; have := Option.some.inj hg; omega
     ·rw [hoth 0 hi]; exact inv.zero
   have hneg := negs_set (d := d) hlt' (by omega) hd
   rcases visitR_spec hd hr hlt t (ds.set j d) true ht inv' with h | ⟨ds', m', e, i1, i2, i3, i4, i5, i6⟩
   ·exact .inl h
   ·refine .inr ⟨ds', m', e, i1, ?_, ?_, fun h => by have := (i4 h).1; simp at this, by omega, fun _ => .inr (by omega)⟩
    ·intro i e he h0
     refine i2 i e ?_ h0
     by_cases hi : i = j
     ·subst hi; rw [hg] at he; have := Option.some.inj he; omega
     ·rw [hoth i hi]; exact he
    ·intro k hk
     rcases List.mem_cons.1 hk with rfl | hk
     ·exact ⟨j, rfl, i2 j d hset hd⟩
     ·exact i3 k hk
theorem toR_succs {l : List S36} {n : Nat} {x : S36} : ∀ k ∈ toR l (n : Int) x, ∃ j : Nat, k = j ∧ j ∈ succs l n x := by
 intro k hk
 refine toS_succs k ?_
 unfold toR at hk
 unfold toS
 rcases List.mem_append.1 hk with h | h
 ·exact List.mem_append.2 (.inr h)
 ·exact List.mem_append.2 (.inl h)
theorem succs_toR {l : List S36} {n : Nat} {x : S36} {j : Nat} (h : j ∈ succs l n x) : (j : Int) ∈ toR l (n : Int) x := by
 have := succs_toS h
 unfold toS at this
 unfold toR
 rcases List.mem_append.1 this with h | h
 ·exact List.mem_append.2 (.inr h)
 ·exact List.mem_append.2 (.inl h)
/-- Instruction i is closed: what it leads to has its depth. -/
def Closed (l : List S36) (ds : List Int) (i : Nat) : Prop := ∀ (d : Int) (x : S36), ds[i]? = some d → 0 ≤ d → l[i]? = some x → (tk x ≤ d ∧ d - tk x + pt x ≤ 32) ∧ ∀ j ∈ succs l i x, ds[j]? = some (d - tk x + pt x)
theorem sweepR_spec {l : List S36} (hl : okS l = true) : ∀ (f i : Nat) (ds : List Int) (m : Bool), i + f = l.length → LookInv l [] ds →
  (sweepR l f i ds m = none ∧ Bad l) ∨ ∃ ds' m', sweepR l f i ds m = some (ds', m') ∧ LookInv l [] ds' ∧ (m' = false → m = false ∧ ds' = ds ∧ ∀ j, i ≤ j → Closed l ds j) ∧ negs ds' ≤ negs ds ∧ (m' = true → m = true ∨ negs ds' < negs ds)
 | 0, i, ds, m, hi, inv => .inr ⟨ds, m, rfl, inv, fun h => ⟨h, rfl, fun j hj d x _ _ hx => by have := (List.getElem?_eq_some_iff.1 hx).1; omega⟩, Nat.le_refl _, fun h => .inl h⟩
 | f + 1, i, ds, m, hi, inv => by
  have hil : i < l.length := by omega
  have hid : i < ds.length := by rw [inv.len]; exact hil
  have hg := rd_get hid
  obtain ⟨x, hx⟩ : ∃ x, l[i]? = some x := ⟨_, List.getElem?_eq_getElem hil⟩
  simp only [sweepR]
  rw [rdT_of hx]
  by_cases hneg : rd ds (i : Int) < 0
  ·rw [if_pos hneg]
   rcases sweepR_spec hl f (i + 1) ds m (by omega) inv with h | ⟨ds', m', e, i1, i2, i3⟩
   ·exact .inl h
   ·refine .inr ⟨ds', m', e, i1, fun h => ?_, i3⟩
    obtain ⟨a, b, c⟩ := i2 h
    refine ⟨a, b, fun j hj => ?_⟩
    by_cases hji : j = i
    ·subst hji
     intro d y hd h0
     rw [hg] at hd
     have := Option.some.inj hd
     omega
    ·exact c j (by omega)
  ·rw [if_neg hneg]
   have hR := inv.sound i _ hg (by omega)
   by_cases hb : rd ds (i : Int) < tk x ∨ 32 < rd ds (i : Int) - tk x + pt x
   ·rw [if_pos hb]
    exact .inl ⟨rfl, .stack hR hx hb⟩
   ·rw [if_neg hb]
    have hd' : 0 ≤ rd ds (i : Int) - tk x + pt x := by
     have := pt_nonneg (okS_tk hl hx)
     omega
    have hst : ∀ j ∈ succs l i x, Reach l j (rd ds (i : Int) - tk x + pt x) := fun j hj => Reach.step hR hx (by omega) (by omega) hj
    by_cases he : x.f0 ≠ 21 ∧ i + 1 = l.length
    ·rw [if_pos he]
     refine .inl ⟨rfl, .end_ (d := rd ds (i : Int) - tk x + pt x) ?_⟩
     rw [← he.2]
     refine hst _ ?_
     unfold succs
     simp [he.1]
    ·rw [if_neg he]
     have hlt : ∀ j ∈ succs l i x, j < l.length := by
      intro j hj
      have hle := succs_le hx hj
      by_cases hjl : j = l.length
      ·exfalso
       unfold succs at hj
       rcases List.mem_append.1 hj with h | h
       ·split at h
        ·rename_i hjx
         obtain ⟨k, hk⟩ := okS_jmp hl hx hjx
         rw [hk] at h
         simp at h
         have := findS_lt hk
         omega
        ·simp at h
       ·split at h
        ·simp at h
        ·rename_i h21
         simp at h
         exact he ⟨h21, by omega⟩
      ·omega
     rcases visitR_spec (n := i) hd' hst hlt (toR l i x) ds m toR_succs inv with ⟨e, hB⟩ | ⟨ds1, m1, e, i1, i2, i3, i4, i5, i6⟩
     ·rw [e]; exact .inl ⟨rfl, hB⟩
     ·rw [e]
      rcases sweepR_spec hl f (i + 1) ds1 m1 (by omega) i1 with h | ⟨ds', m', e', k1, k2, k3, k4⟩
      ·exact .inl h
      ·refine .inr ⟨ds', m', e', k1, fun h => ?_, by omega, fun h => ?_⟩
       ·obtain ⟨a, b, c⟩ := k2 h
        obtain ⟨a', b'⟩ := i4 a
        subst b'
        subst b
        refine ⟨a', rfl, fun j hj => ?_⟩
        by_cases hji : j = i
        ·subst hji
         intro d y hd h0 hy
         rw [hg] at hd
         obtain rfl := Option.some.inj hd
         rw [hx] at hy
         obtain rfl := Option.some.inj hy
         refine ⟨by omega, fun k hk => ?_⟩
         obtain ⟨k', hk', hd2⟩ := i3 _ (succs_toR hk)
         have : k = k' := by omega
         subst this
         exact hd2
        ·exact c j (by omega)
       ·rcases k4 h with h1 | h1
        ·rcases i6 h1 with h2 | h2
         ·exact .inl h2
         ·exact .inr (by omega)
        ·exact .inr (by omega)
def depRes : Option (List Int) → List Int × Int
 | none => ([], 8)
 | some ds => (ds, 0)
def findI (l : List S36) (a : Int) : Int := match findS l a with
 | some i => i
 | none => -1
/-- Where the instructions lie: small places. -/
def Placed (l : List S36) : Prop := ∀ x ∈ l, 0 ≤ x.f2 ∧ x.f2 < 9223372036854775808
theorem find_l0 {l : List S36} (hp : Placed l) (a : Int) (hl : l.length ≤ 4398046511104) : ∀ (d i : Nat), i + d = l.length →
  Ev (fun k => janusref06_find.l0 k l a (i : Int)) (match (l.drop i).findIdx? fun x => x.f2 == a with | some j => ((i + j : Nat) : Int) | none => -1)
 | 0, i, hd => by
  refine Ev.from 1 fun k => ?_
  simp only [janusref06_find.l0]
  rw [if_neg (by omega), List.drop_eq_nil_of_le (by omega)]
  rfl
 | d + 1, i, hd => by
  have hil : i < l.length := by omega
  obtain ⟨x, hx⟩ : ∃ x, l[i]? = some x := ⟨_, List.getElem?_eq_getElem hil⟩
  have hdr : l.drop i = x :: l.drop (i + 1) := by
   rw [List.drop_eq_getElem_cons hil]
   rw [List.getElem?_eq_getElem hil] at hx
   rw [Option.some.inj hx]
  have hpx := hp x (List.mem_of_getElem? hx)
  rw [hdr, List.findIdx?_cons]
  have hw : IntKind.u64.wrap x.f2 = x.f2 := u64_in _ hpx.1 (by omega)
  by_cases he : x.f2 = a
  ·rw [if_pos (by simpa using he)]
   refine Ev.from 1 fun k => ?_
   simp only [janusref06_find.l0]
   rw [if_pos (by omega), if_pos (by omega), rdT_of hx, hw, if_pos he]
   simp
  ·rw [if_neg (by simpa using he)]
   refine Ev.step (f := fun k => janusref06_find.l0 k l a ((i + 1 : Nat) : Int)) (fun k => ?_) ?_
   ·simp only [janusref06_find.l0]
    rw [if_pos (by omega), if_pos (by omega), rdT_of hx, hw, if_neg he, wrap_in (by omega) (by omega)]
    rfl
   ·have := find_l0 hp a hl d (i + 1) (by omega)
    cases e : (l.drop (i + 1)).findIdx? fun x => x.f2 == a with
    | none => rw [e] at this; simpa using this
    | some j => rw [e] at this; simpa [Nat.add_assoc, Nat.add_comm 1] using this
theorem RFind_ev {l : List S36} (hp : Placed l) (a : Int) (hl : l.length ≤ 4398046511104) : Ev (fun k => janusref06_find.f k l a) (findI l a) := by
 have := find_l0 hp a hl l.length 0 (by omega)
 unfold findI findS
 simp only [List.drop_zero, Nat.zero_add] at this
 exact this
end Go.Proofs.Ytjbpljcfogekhaa.Core
namespace Go.Proofs.Ytjbpljcfogekhaa.Core
open Go.RowKit Ytjbpljcfogekhaa.Q YtjbpljcfogekhaaW.PrintWords YtjbpljcfogekhaaW.PrintLast YtjbpljcfogekhaaW.PrintMore
theorem rdec_l0L (s : ByteArray) (hs : s.size ≤ 4398046511104) : ∀ (d : Nat) (p : Int) (b : List S36), 0 ≤ p → (s.size : Int) - p ≤ d → b.length ≤ p →
  Ev (fun k => janusref05_Decode.l0 k s b p) (decRes b (dec s d p))
 | 0, p, b, h0, hd, hb => by
  refine Ev.from 1 fun k => ?_
  simp only [janusref05_Decode.l0]
  rw [if_neg (by omega)]
  simp [dec, decRes]
 | d + 1, p, b, h0, hd, hb => by
  rw [dec]
  by_cases hp : p < s.size
  ·rw [if_pos hp]
   refine Ev.step (f := fun k => (janusref05_One.f k s p).bind fun bt121 => (if bt121.2.2.2.2 = 0 then (if b.length < 4398046511104 then (janusref05_Decode.l0 k s (b ++ [(⟨bt121.1, bt121.2.1, bt121.2.2.1, bt121.2.2.2.1⟩ : S36)]) (wrap64 (p + bt121.2.2.2.1))) else (none)) else (some (([] : List (S36)), bt121.2.2.2.2)))) (fun k => ?_) ?_
   ·simp only [janusref05_Decode.l0]
    rw [if_pos hp]
   ·refine Ev.bind (ROne_ev s (by omega) p) ?_
    rcases oneS_in h0 hp with ⟨he, hl, hle⟩ | he
    ·refine Ev.pos he (Ev.pos (by omega) ?_)
     rw [if_pos he, wrap_in (by omega) (by omega)]
     have := rdec_l0L s hs d (p + (oneS s p).2.2.2.1) (b ++ [mkIns (oneS s p)]) (by omega) (by omega) (by simp; omega)
     have e : decRes (b ++ [mkIns (oneS s p)]) (dec s d (p + (oneS s p).2.2.2.1)) = decRes b ((dec s d (p + (oneS s p).2.2.2.1)).bind fun l => some (mkIns (oneS s p) :: l)) := by
      cases dec s d (p + (oneS s p).2.2.2.1) <;> simp [decRes]
     rw [e] at this
     exact this
    ·rw [he]
     refine Ev.neg (by simp) ?_
     rw [if_neg (by simp)]
     exact Ev.now _
  ·rw [if_neg hp]
   refine Ev.from 1 fun k => ?_
   simp only [janusref05_Decode.l0]
   rw [if_neg hp]
   simp [decRes]
theorem RDecode_evL (s : ByteArray) (hs : s.size ≤ 4398046511104) : Ev (fun k => janusref05_Decode.f k s) (decRes [] (decAll s)) := by
 have := rdec_l0L s hs s.size 0 [] (by omega) (by omega) (by simp)
 simpa [janusref05_Decode.f, decAll] using this
theorem dec_range (s : ByteArray) : ∀ (d : Nat) (p : Int) (l : List S36), 0 ≤ p → dec s d p = some l → ∀ x ∈ l, p ≤ x.f2 ∧ x.f2 < s.size ∧ 0 ≤ x.f0 ∧ x.f0 ≤ 23 ∧ 0 ≤ x.f1 ∧ x.f1 < 18446744073709551616 ∧ 1 ≤ x.f3 ∧ x.f2 + x.f3 ≤ s.size
 | 0, p, l, _, h => by simp [dec] at h; subst h; intro x hx; cases hx
 | d + 1, p, l, h0, h => by
  rw [dec] at h
  split at h
  ·rename_i hp
   split at h
   ·rename_i he
    obtain ⟨m, hm, h⟩ := Option.bind_eq_some_iff.1 h
    simp only [Option.some.injEq] at h
    subst h
    have h1 : 0 ≤ (oneS s p).1 ∧ (oneS s p).1 ≤ 23 ∧ 0 ≤ (oneS s p).2.1 ∧ (oneS s p).2.1 < 18446744073709551616 ∧ (oneS s p).2.2.1 = p ∧ 1 ≤ (oneS s p).2.2.2.1 ∧ p + (oneS s p).2.2.2.1 ≤ s.size := by
     unfold oneS at he ⊢
     rw [if_neg (by omega)] at he ⊢
     split at he
     ·simp at he
     ·rename_i h2
      rw [if_neg h2]
      have ho := opw_op (op := bt s p) (by omega)
      have hl := opw_le (bt s p)
      have hr := leN_range _ (bytesAt_range s (opw (bt s p)).toNat (p + 1))
      rw [bytesAt_length] at hr
      have hk : (opw (bt s p)).toNat ≤ 8 := by omega
      have hpw : (256 : Int) ^ (opw (bt s p)).toNat ≤ 18446744073709551616 := by
       have : (opw (bt s p)).toNat = 0 ∨ (opw (bt s p)).toNat = 1 ∨ (opw (bt s p)).toNat = 2 ∨ (opw (bt s p)).toNat = 3 ∨ (opw (bt s p)).toNat = 4 ∨ (opw (bt s p)).toNat = 5 ∨ (opw (bt s p)).toNat = 6 ∨ (opw (bt s p)).toNat = 7 ∨ (opw (bt s p)).toNat = 8 := by omega
       rcases this with e | e | e | e | e | e | e | e | e <;> rw [e] <;> decide
      refine ⟨ho.1, ho.2, hr.1, Int.lt_of_lt_of_le hr.2 hpw, rfl, ?_, ?_⟩ <;> simp only <;> omega
    intro x hx
    rcases List.mem_cons.1 hx with rfl | hx
    ·simp only [mkIns]
     omega
    ·have := dec_range s d _ m (by omega) hm x hx
     omega
   ·cases h
  ·simp at h; subst h; intro x hx; cases hx
theorem dec_places (s : ByteArray) : ∀ (d : Nat) (p : Int) (l : List S36), 0 ≤ p → dec s d p = some l → l.Pairwise fun x y => x.f2 < y.f2
 | 0, p, l, _, h => by simp [dec] at h; subst h; exact List.Pairwise.nil
 | d + 1, p, l, h0, h => by
  rw [dec] at h
  split at h
  ·rename_i hp
   split at h
   ·rename_i he
    obtain ⟨m, hm, h⟩ := Option.bind_eq_some_iff.1 h
    simp only [Option.some.injEq] at h
    subst h
    have h1 : (oneS s p).2.2.1 = p ∧ 1 ≤ (oneS s p).2.2.2.1 := by
     unfold oneS at he ⊢
     rw [if_neg (by omega)] at he ⊢
     split at he
     ·simp at he
     ·rename_i h2
      rw [if_neg h2]
      exact ⟨rfl, by simp only; omega⟩
    refine List.Pairwise.cons (fun y hy => ?_) (dec_places s d _ m (by omega) hm)
    have := dec_range s d _ m (by omega) hm y hy
    simp only [mkIns]
    omega
   ·cases h
  ·simp at h; subst h; exact List.Pairwise.nil
end Go.Proofs.Ytjbpljcfogekhaa.Core
namespace Go.Proofs.Ytjbpljcfogekhaa.Q
open Go.RowKit YtjbpljcfogekhaaW.PrintWords YtjbpljcfogekhaaW.PrintLast YtjbpljcfogekhaaW.PrintMore
theorem clone_info34 : (Try.prog.info? 34).map (fun i => (i.zero, i.size, i.bytes)) = some (some (.int .u64 0), 1, 8) := by kernel_rfl
def slices_Clone_uint64_uint64.f (l0 : List Int) : Option (List Int) := if l0.length < 17592186044416 then some l0 else none
theorem clone_nil (n c : Nat) (w : World) :
  Calls Try.prog 47 #[.slice none n c] w fun e w' => e = .returned (.slice none 0 0) ∧ w = w' := by
 have qT : ∀ (w : World) (a : Option Addr) (n c n' c' : Nat), (binOp .eql 57 (.slice a n c) (.slice none n' c')).run Try.prog w = .ok (.bool a.isNone) w := fun w a n c n' c' => Lib.run_eql_slice_nil w _ _ a n c n' c' Try.underlying57
 go_enter Try.func47, Try.ntmps47
 go_wp2
 go_ret
 exact ⟨rfl, rfl⟩
theorem clone_some (a : Addr) (c0 : Nat) (l0 : List Int) (w : World) (hr0 : Kd.C (Kd.int .u64) w (some a) l0.length l0) (hl : l0.length < 17592186044416) :
  Calls Try.prog 47 #[.slice (some a) l0.length c0] w fun e w' => ∃ v0_ : Value, e = .returned v0_ ∧ Kd.R (Kd.int .u64) 34 w' w.heap.size (fun _ => True) v0_ l0 ∧ Below w.heap.size w w' := by
 have qT : ∀ (w : World) (a : Option Addr) (n c n' c' : Nat), (binOp .eql 57 (.slice a n c) (.slice none n' c')).run Try.prog w = .ok (.bool a.isNone) w := fun w a n c n' c' => Lib.run_eql_slice_nil w _ _ a n c n' c' Try.underlying57
 have HR0 := Aside0.mk hr0
 have HL := Aside0.mk hl
 clear hr0 hl
 go_enter Try.func47, Try.ntmps47
 go_wp2_with (first
  | ((with_reducible refine gate_dst (N := 5) rfl ?_); refine Kd.R_lit (Kd.int .u64) _ 34 ?hg (N := 5) ?hd (xs := ([] : List Int)) (inner := []) (ok := fun _ => True) (okp := fun _ => True) ?hr ?hp (fun _ hk => hk) trivial (Below.refl _ _) (Nat.le_refl _) (by simp) ?_; (case hd => rfl); (case hg => rfl); (case hr => first | (go_simp; done) | (go_simp; rfl)); (case hp => exact Reps.none _ _); intro v102 w4 ho5 hb hg_ hnew_; clear hg_ hnew_; have HO := Aside0.mk ho5; have HB := Aside0.mk hb; clear ho5 hb)
  | ((with_reducible refine gate_builtin (b := .append) (xs := #[.tmp 5, .tmp 6]) rfl ?_); at_builtin; refine Kd.R_append_row (Value.int .u64) 0 (h1 := fun _ => rfl) (w0 := w) w.heap.size rfl (.tmp 5) (.tmp 6) 57 34 (.int .u64 0) 8 rfl Try.underlying57 clone_info34 rfl (by omega) v102 [] l0 (some a) l0.length c0 (fun _ => True) rfl rfl (fun _ _ => trivial) HO.out (Kd.C_below HR0.out HB.out) HB.out HB.out.size (by have := HL.out; simp; omega) ?_; intro v1 w1 hR hB2 hg2 hat2; have HO2 := Aside0.mk hR; have HB2 := Aside0.mk hB2; clear hR hB2 hg2 hat2))
 go_ret
 exact ⟨_, rfl, by have h2 := HO2.out; simp only [List.nil_append] at h2; exact h2, HB2.out⟩
theorem slices_Clone_uint64_uint64.calls (A0 : Option Addr) (c0 : Nat) (l0 : List Int) (r : List Int) (w : World) (hr0 : Kd.C (Kd.int .u64) w A0 l0.length l0) (hc0 : l0.length ≤ c0) (h : slices_Clone_uint64_uint64.f l0 = some r) :
  Calls Try.prog 47 #[.slice A0 l0.length c0] w fun e w' => ∃ v0_ : Value, e = .returned v0_ ∧ Kd.R (Kd.int .u64) 34 w' w.heap.size (fun _ => True) v0_ r ∧ Below w.heap.size w w' := by
 have hl : l0.length < 17592186044416 := by
  unfold slices_Clone_uint64_uint64.f at h
  split at h
  ·assumption
  ·cases h
 have hr : r = l0 := by
  unfold slices_Clone_uint64_uint64.f at h
  rw [if_pos hl] at h
  exact (Option.some.inj h).symm
 subst hr
 cases A0 with
 | none =>
  have hn : r.length = 0 := by
   rcases Nat.eq_zero_or_pos r.length with h0 | h0
   ·exact h0
   ·obtain ⟨ad, he, _⟩ := hr0.2.2 h0
    cases he
  obtain rfl : r = [] := List.eq_nil_of_length_eq_zero hn
  refine (clone_nil _ _ w).mono ?_
  rintro e w' ⟨rfl, rfl⟩
  exact ⟨_, rfl, Kd.R_nil _ _ _ _ _, Below.refl _ _⟩
 | some a => exact clone_some a c0 r w hr0 hl
end Go.Proofs.Ytjbpljcfogekhaa.Q
namespace Go.Proofs.Ytjbpljcfogekhaa.Q
open Go.RowKit YtjbpljcfogekhaaW.PrintWords YtjbpljcfogekhaaW.PrintLast YtjbpljcfogekhaaW.PrintMore
attribute [local go_sem] max2_int min2_int max_two min_two max_three min_three max_four min_four
def vm_own.f (a0_0 : Int) (l0_1 : List Int) : Option (Int × List Int) := (slices_Clone_uint64_uint64.f l0_1).bind fun t436 => (some (a0_0, t436))
set_option maxHeartbeats 8000000 in
set_option maxRecDepth 100000 in
theorem vm_own.calls (a0_0 : Int) (A0_1 : Option Addr) (c0_1 : Nat) (l0_1 : List Int) (r1 : Int) (r2 : List Int) (w : World) (hr0_1 : Kd.C (Kd.int .u64) w A0_1 l0_1.length l0_1) (hc0_1 : l0_1.length ≤ c0_1) (h : vm_own.f a0_0 l0_1 = some (r1, r2)) :
  Calls Try.prog 46 #[.agg #[.int .i64 a0_0, .slice A0_1 l0_1.length c0_1]] w fun e w' => ∃ v1_ : Value, e = .returned (.agg #[.int .i64 r1, v1_]) ∧ Kd.R (Kd.int .u64) 34 w' w.heap.size (fun _ => True) v1_ r2 ∧ Below w.heap.size w w' := by
 have hu59 := Try.underlying59
 have HR0_1 := Aside0.mk hr0_1
 have HC0_1 := Aside0.mk hc0_1
 clear hr0_1 hc0_1
 have HB := Aside0.mk (Below.refl w.heap.size w)
 have H : ((slices_Clone_uint64_uint64.f l0_1).bind fun t436 => (some (a0_0, t436))) = some (r1, r2) := h
 clear h
 replace H := Option.bind_eq_some_iff.mp H
 obtain ⟨t436, A20, H⟩ := H
 replace H : (some (a0_0, t436)) = some (r1, r2) := H
 have A2 := Aside0.mk A20
 clear A20
 simp only [Option.some.injEq, Prod.mk.injEq] at H
 obtain ⟨rfl, rfl⟩ := H
 go_enter Try.func46, Try.ntmps46
 try go_wp2_with (first | ((with_reducible refine gate_dst (N := 1) rfl ?_); refine box_event ?hg (N := 1) ?hd (cs := #[.int .i64 a0_0, .slice A0_1 l0_1.length c0_1]) (t := 59) ?hr ?_; (case hd => rfl); (case hg => rfl); (case hr => first | (go_simp; done) | (go_simp; rfl)); intro gb434 hg w3 hbox hb; have n0_ := Aside0.mk (below_step (by repeat (first | (with_reducible first | exact HB.out | apply below_alloc | apply pw_below_drewN | apply below_drew1) | exact HB.out)) hb); have n1_ := Aside0.mk (hbox); have n2_ := Aside0.mk ((by rw [hg]; exact (below_size (by repeat (first | (with_reducible first | exact HB.out | apply below_alloc | apply pw_below_drewN | apply below_drew1) | exact HB.out))) : w.heap.size ≤ gb434)); have n3_ := Aside0.mk ((by rw [hg]; exact (below_size (by repeat (first | (with_reducible first | exact HB.out | apply below_alloc | apply pw_below_drewN | apply below_drew1) | exact HB.out))) : w.heap.size ≤ gb434)); clear HB; have HB := n0_; have BK434 := n1_; have GW434 := n2_; have GE434 := n3_; clear n0_ n1_ n2_ n3_; clear hb hbox hg) | ((with_reducible refine gate_dst (N := 2) rfl ?_); refine box_event ?hg (N := 2) ?hd (cs := #[.int .i64 0, .slice none 0 0]) (t := 59) ?hr ?_; (case hd => rfl); (case hg => rfl); (case hr => first | (go_simp; done) | (go_simp; rfl)); intro gb435 hg w4 hbox hb; have n0_ := Aside0.mk (blk_below (g := gb434) (o := .cells #[.int .i64 a0_0, .slice A0_1 l0_1.length c0_1] 59 (0, 0)) (by (with_reducible repeat (first | refine blk_drewN ?_ _ | refine blk_drew ?_ | refine blk_alloc ?_ _)); exact BK434.out) hb); have n1_ := Aside0.mk (below_step (by repeat (first | (with_reducible first | exact HB.out | apply below_alloc | apply pw_below_drewN | apply below_drew1 | refine below_set ?_ GE434.out) | exact HB.out)) hb); have n2_ := Aside0.mk (hbox); have n3_ := Aside0.mk ((by rw [hg]; exact (below_size (by repeat (first | (with_reducible first | exact HB.out | apply below_alloc | apply pw_below_drewN | apply below_drew1 | refine below_set ?_ GE434.out) | exact HB.out))) : w.heap.size ≤ gb435)); have n4_ := Aside0.mk ((by rw [hg]; exact (below_size (by repeat (first | (with_reducible first | exact HB.out | apply below_alloc | apply pw_below_drewN | apply below_drew1 | refine below_set ?_ GE434.out) | exact HB.out))) : w.heap.size ≤ gb435)); have n5_ := Aside0.mk ((by rw [hg]; exact Nat.ne_of_lt (blk_lt (g := gb434) (o := .cells #[.int .i64 a0_0, .slice A0_1 l0_1.length c0_1] 59 (0, 0)) (by (with_reducible repeat (first | refine blk_drewN ?_ _ | refine blk_drew ?_ | refine blk_alloc ?_ _)); exact BK434.out)) : gb434 ≠ gb435)); have n6_ := Aside0.mk ((by rw [hg]; exact Nat.ne_of_gt (blk_lt (g := gb434) (o := .cells #[.int .i64 a0_0, .slice A0_1 l0_1.length c0_1] 59 (0, 0)) (by (with_reducible repeat (first | refine blk_drewN ?_ _ | refine blk_drew ?_ | refine blk_alloc ?_ _)); exact BK434.out)) : gb435 ≠ gb434)); clear BK434; clear HB; have BK434 := n0_; have HB := n1_; have BK435 := n2_; have GW435 := n3_; have GE435 := n4_; have NB434_435 := n5_; have NB435_434 := n6_; clear n0_ n1_ n2_ n3_ n4_ n5_ n6_; clear hb hbox hg))
 have n0_ := Aside0.mk (blk_drew BK434.out)
 have n1_ := Aside0.mk (blk_drew BK435.out)
 have n2_ := Aside0.mk (below_drew1 HB.out)
 clear BK434
 clear BK435
 clear HB
 have BK434 := n0_
 have BK435 := n1_
 have HB := n2_
 clear n0_ n1_ n2_
 refine start_ (n := 7) (S := fun w' => w'.cell? ⟨gb434, 0, none⟩ = some (.int .i64 a0_0) ∧ w'.cell? ⟨gb434, 1, none⟩ = some (.slice A0_1 l0_1.length c0_1)) (ds := []) #[false, false, false, false, false, false, false] (by kernel_rfl) rfl rfl ⟨(blk_cell BK434.out 0).trans rfl, (blk_cell BK434.out 1).trans rfl⟩ (fun hHeld => ?_)
 generalize w4.drew = w5 at BK434 BK435 HB hHeld ⊢
 refine pure_ (i := 0) (N := some 3) (v := ?_) (a' := ?_) #[true, false, false, false, false, false, false] rfl rfl (by kernel_rfl) (fun _ _ _ h => h) (Or.inl ⟨by rfl, ?_⟩) ?_ ?_
 rotate_left
 ·intro w'
  go_simp
  with_reducible rfl
 rotate_left
 ·simp only [Act.put, List.setIfInBounds_toArray, List.set_cons_zero, List.set_cons_succ, i64_w, i32_w]
  rfl
 refine pure_ (i := 2) (N := some 5) (v := ?_) (a' := ?_) #[true, false, true, false, false, false, false] rfl rfl (by kernel_rfl) (fun _ _ _ h => h) (Or.inl ⟨by rfl, ?_⟩) ?_ ?_
 rotate_left
 ·intro w'
  go_simp
  with_reducible rfl
 rotate_left
 ·simp only [Act.put, List.setIfInBounds_toArray, List.set_cons_zero, List.set_cons_succ, i64_w, i32_w]
  rfl
 refine take_ (i := 1) (N := some 4) (v := ?_) (a' := ?_) #[true, true, true, false, false, false, false] rfl rfl (by kernel_rfl) (fun _ _ _ h => h) (Or.inl ⟨by rfl, ?_⟩) hHeld ?_ ?_
 rotate_left
 ·rintro w' ⟨s0, s1⟩
  go_simp
  with_reducible rfl
 rotate_left
 ·simp only [Act.put, List.setIfInBounds_toArray, List.set_cons_zero, List.set_cons_succ, i64_w, i32_w]
  rfl
 refine take_ (i := 3) (N := some 6) (v := ?_) (a' := ?_) #[true, true, true, true, false, false, false] rfl rfl (by kernel_rfl) (fun _ _ _ h => h) (Or.inl ⟨by rfl, ?_⟩) hHeld ?_ ?_
 rotate_left
 ·rintro w' ⟨s0, s1⟩
  go_simp
  with_reducible rfl
 rotate_left
 ·simp only [Act.put, List.setIfInBounds_toArray, List.set_cons_zero, List.set_cons_succ, i64_w, i32_w]
  rfl
 refine one_ (i := 4) (N := some 7) #[true, true, true, true, true, false, false] rfl rfl (by kernel_rfl) (by decide) (fun K hK => ?_)
 refine goes_ Try.func47 (by kernel_rfl) rfl #[.slice A0_1 l0_1.length c0_1] (by rfl) rfl rfl (by (try simp only [List.map_toArray, List.map_cons, List.map_nil]); first | done | rfl | (simp only [List.length_drop, List.length_take]; rfl)) ?_
 with_reducible refine (slices_Clone_uint64_uint64.calls _ _ l0_1 t436 _ ?side1 ?side2 A2.out).mono ?_
 (case side1 => repeat (first | exact (Kd.C_below HR0_1.out HB.out) | (with_reducible refine Kd.C_alloc ?_ _) | (with_reducible refine Kd.C_drewN ?_ _) | (with_reducible refine Kd.C_drew ?_)))
 (case side2 => exact HC0_1.out)
 rintro e w6 ⟨v437, rfl, ho0, hb⟩
 refine ⟨_, rfl, ?_⟩
 have n0_ := Aside0.mk (Kd.R_lower ho0 (below_size (by repeat (first | (with_reducible first | exact HB.out | apply below_alloc | apply pw_below_drewN | apply below_drew1 | refine below_set ?_ GE434.out | refine below_set ?_ GE435.out) | exact HB.out))))
 have n1_ := Aside0.mk (blk_below (g := gb434) (o := .cells #[.int .i64 a0_0, .slice A0_1 l0_1.length c0_1] 59 (0, 0)) (by (with_reducible repeat (first | refine blk_drewN ?_ _ | refine blk_drew ?_ | refine blk_alloc ?_ _)); exact BK434.out) hb)
 have n2_ := Aside0.mk (blk_below (g := gb435) (o := .cells #[.int .i64 0, .slice none 0 0] 59 (0, 0)) (by (with_reducible repeat (first | refine blk_drewN ?_ _ | refine blk_drew ?_ | refine blk_alloc ?_ _)); exact BK435.out) hb)
 have n3_ := Aside0.mk (below_step (by repeat (first | (with_reducible first | exact HB.out | apply below_alloc | apply pw_below_drewN | apply below_drew1 | refine below_set ?_ GE434.out | refine below_set ?_ GE435.out) | exact HB.out)) hb)
 clear BK434
 clear BK435
 clear HB
 have HO438 := n0_
 have BK434 := n1_
 have BK435 := n2_
 have HB := n3_
 clear n0_ n1_ n2_ n3_
 (try clear hb)
 (try clear hb2)
 (try clear hk)
 (try clear hi)
 (try clear ho0)
 obtain ⟨Ao7, co7, eo7⟩ := Kd.R_slice HO438.out
 (first | subst eo7 | (injection eo7 with f1_ f2_ f3_; have f4_ := f1_.symm; have f5_ := f3_.symm; clear f1_ f2_ f3_; subst f4_; subst f5_))
 refine hK.out _ _ ⟨(blk_cell BK434.out 0).trans rfl, (blk_cell BK434.out 1).trans rfl⟩ (fun hHeld => ?_)
 clear hK K
 refine norm_ (a' := ?_) ?_ ?_
 rotate_left
 ·show Act.put _ (some 7) _ = _
  simp only [Act.put, List.setIfInBounds_toArray, List.set_cons_zero, List.set_cons_succ, i64_w, i32_w]
  rfl
 refine pure_ (i := 5) (N := some 8) (v := ?_) (a' := ?_) #[true, true, true, true, true, true, false] rfl rfl (by kernel_rfl) (fun _ _ _ h => h) (Or.inl ⟨by rfl, ?_⟩) ?_ ?_
 rotate_left
 ·intro w'
  go_simp
  with_reducible rfl
 rotate_left
 ·simp only [Act.put, List.setIfInBounds_toArray, List.set_cons_zero, List.set_cons_succ, i64_w, i32_w]
  rfl
 refine one_ (i := 6) (N := none) #[true, true, true, true, true, true, true] rfl rfl (by kernel_rfl) (by decide) (fun K hK => ?_)
 have hs8 : w6.cell? ⟨gb435, 0, none⟩ = some (.int .i64 0) := (blk_cell BK435.out 0).trans rfl
 have hfs8 := blk_frozen BK435.out 0
 have hns8_0 := NB434_435.out
 have hms8_0 := NB435_434.out
 have hs9 : w6.cell? ⟨gb435, 1, none⟩ = some (.slice none 0 0) := (blk_cell BK435.out 1).trans rfl
 have hfs9 := blk_frozen BK435.out 1
 have hns9_0 := NB434_435.out
 have hms9_0 := NB435_434.out
 refine skip_ (w1 := ?_) (by rfl) rfl ?_ ?_
 rotate_left
 ·go_simp
  rfl
 refine hK.out _ _ ⟨((cell_far (p := ⟨gb435, _, none⟩) NB434_435.out _).trans (((cell_far (p := ⟨gb435, _, none⟩) NB434_435.out _).trans (hHeld.1)))), ((cell_far (p := ⟨gb435, _, none⟩) NB434_435.out _).trans (((cell_far (p := ⟨gb435, _, none⟩) NB434_435.out _).trans (hHeld.2))))⟩ (fun hHeld => ?_)
 clear hK K
 refine done_ (by kernel_rfl) ?_
 try go_wp2
 refine bodyPost_ret (results_cell_row rfl _ _ gb435 59 #[.int .i64 a0_0, .slice Ao7 t436.length co7] (0, 0) _ rfl (by (with_reducible repeat (first | refine blk_drewN ?_ _ | refine blk_drew ?_ | refine blk_alloc ?_ _)); refine blk_put (cs := #[.int .i64 a0_0, .slice none 0 0]) ?_ 1 _ rfl; (with_reducible repeat (first | refine blk_drewN ?_ _ | refine blk_drew ?_ | refine blk_alloc ?_ _)); refine blk_put (cs := #[.int .i64 0, .slice none 0 0]) ?_ 0 _ rfl; (with_reducible repeat (first | refine blk_drewN ?_ _ | refine blk_drew ?_ | refine blk_alloc ?_ _)); exact BK435.out) Try.underlying59 rfl (by kernel_rfl)) rfl ?_
 exact ⟨_, by first | rfl | (simp [errW_none, errW_some] <;> rfl) | (simp [*, errW_none, errW_some] <;> rfl), by (with_reducible repeat (first | apply Kd.R_alloc | apply Kd.R_drewN | apply Kd.R_drew)); exact Kd.R_mono (Kd.R_far (p := ⟨gb435, 1, none⟩) (Kd.R_far (p := ⟨gb435, 0, none⟩) (Kd.R_types HO438.out BK435.out (by decide)) (fun _ hk => hk.2) (.int .i64 a0_0)) (fun _ hk => hk.2) (.slice Ao7 t436.length co7)) (fun _ hk => trivial), by repeat (first | (with_reducible first | exact HB.out | apply below_alloc | apply pw_below_drewN | apply below_drew1 | refine below_set ?_ GE434.out | refine below_set ?_ GE435.out) | exact HB.out)⟩
end Go.Proofs.Ytjbpljcfogekhaa.Q
namespace Go.Proofs.Ytjbpljcfogekhaa.Q
open Go.RowKit YtjbpljcfogekhaaW.PrintWords YtjbpljcfogekhaaW.PrintLast YtjbpljcfogekhaaW.PrintMore
theorem own_is (pc : Int) (st : List Int) (hl : st.length < 17592186044416) : vm_own.f pc st = some (pc, st) := by
 simp [vm_own.f, slices_Clone_uint64_uint64.f, hl]
/-- The three blocks that Step lays first. -/
theorem three_blocks {w w4 : World} {o0 o1 o2 : Obj} (hb : Below (((w.alloc o0).alloc o1).alloc o2).heap.size (((w.alloc o0).alloc o1).alloc o2) w4) :
  w4.heap[w.heap.size]? = some o0 ∧ w4.heap[w.heap.size + 1]? = some o1 ∧ w4.heap[w.heap.size + 1 + 1]? = some o2 ∧ Below w.heap.size w w4 ∧ w.heap.size + 3 ≤ w4.heap.size := by
 have e1 : (w.alloc o0).heap.size = w.heap.size + 1 := by simp
 have e2 : ((w.alloc o0).alloc o1).heap.size = w.heap.size + 2 := by simp
 have e3 : (((w.alloc o0).alloc o1).alloc o2).heap.size = w.heap.size + 3 := by simp
 have b0 : (((w.alloc o0).alloc o1).alloc o2).heap[w.heap.size]? = some o0 := blk_alloc (blk_alloc (blk_new w o0) o1) o2
 have b1 : (((w.alloc o0).alloc o1).alloc o2).heap[w.heap.size + 1]? = some o1 := by have := blk_alloc (blk_new (w.alloc o0) o1) o2; rwa [e1] at this
 have b2 : (((w.alloc o0).alloc o1).alloc o2).heap[w.heap.size + 2]? = some o2 := by have := blk_new ((w.alloc o0).alloc o1) o2; rwa [e2] at this
 refine ⟨blk_below b0 hb, blk_below b1 hb, blk_below b2 hb, ?_, ?_⟩
 ·exact below_then (below_alloc (below_alloc (below_alloc (Below.refl _ _) _) _) _) (by omega) hb
 ·have := hb.size; omega
theorem cells2 {w : World} {g : Nat} {t : TypeId} {x0 x1 : Value} (h : w.heap[g]? = some (.cells #[x0, x1] t (0, 0))) :
  (w.cell? ⟨g, 0, none⟩ = some x0 ∧ w.cell? ⟨g, 1, none⟩ = some x1) ∧ w.frozen? ⟨g, 0, none⟩ = false ∧ w.frozen? ⟨g, 1, none⟩ = false :=
 ⟨⟨blk_cell h 0, blk_cell h 1⟩, blk_frozen h 0, blk_frozen h 1⟩
theorem cells4 {w : World} {g : Nat} {t : TypeId} {x0 x1 x2 x3 : Value} (h : w.heap[g]? = some (.cells #[x0, x1, x2, x3] t (0, 0))) :
  (w.cell? ⟨g, 0, none⟩ = some x0 ∧ w.cell? ⟨g, 1, none⟩ = some x1 ∧ w.cell? ⟨g, 2, none⟩ = some x2 ∧ w.cell? ⟨g, 3, none⟩ = some x3) ∧ w.frozen? ⟨g, 0, none⟩ = false ∧ w.frozen? ⟨g, 1, none⟩ = false ∧ w.frozen? ⟨g, 2, none⟩ = false ∧ w.frozen? ⟨g, 3, none⟩ = false :=
 ⟨⟨blk_cell h 0, blk_cell h 1, blk_cell h 2, blk_cell h 3⟩, blk_frozen h 0, blk_frozen h 1, blk_frozen h 2, blk_frozen h 3⟩
set_option maxHeartbeats 1000000 in
set_option maxRecDepth 100000 in
theorem step_none (k : Nat) (s : ByteArray) (pc : Int) (A : Option Addr) (c : Nat) (st : List Int) (t1 t2 t3 t4 t5 : Int) (w : World) (hr : Kd.C (Kd.int .u64) w A st.length st) (hc : st.length ≤ c) (hl : st.length < 17592186044416)
  (h : code_One.f k s pc = some (t1, t2, t3, t4, t5)) (hz : (t5 == 0) = false) (hz' : (t5 != 0) = true) :
  Calls Try.prog 45 #[.string s, .agg #[.int .i64 pc, .slice A st.length c]] w fun e w' => ∃ v1_ : Value, e = .returned (.tuple #[.agg #[.int .i64 pc, v1_], .agg #[.int .i64 4, .int .u64 0, .int .u64 0, .int .i64 0]]) ∧ Kd.R (Kd.int .u64) 34 w' w.heap.size (fun _ => True) v1_ st ∧ Below w.heap.size w w' := by
 have hu59 := Try.underlying59
 have hu61 := Try.underlying61
 have hu36 := Try.underlying36
 have HR := Aside0.mk hr
 have HC := Aside0.mk hc
 have HL := Aside0.mk hl
 have HO := Aside0.mk h
 clear hr hc hl h
 go_enter Try.func45, Try.ntmps45
 go_wp2_with (first
  | (go_at_call 20; refine (code_One.calls k s pc t1 t2 t3 t4 t5 _ HO.out).mono ?_; rintro e w4 ⟨rfl, hb⟩; obtain ⟨b0, b1, b2, hB, hz4⟩ := three_blocks hb; have z0 : w.heap.size < w4.heap.size := (by omega); have z1 : w.heap.size + 1 < w4.heap.size := (by omega); have z2 : w.heap.size + 1 + 1 < w4.heap.size := (by omega); clear hz4; obtain ⟨⟨c00, c01⟩, f00, f01⟩ := cells2 b0; obtain ⟨⟨c10, c11⟩, f10, f11⟩ := cells2 b1; obtain ⟨⟨c20, c21, c22, c23⟩, f20, f21, f22, f23⟩ := cells4 b2; have B0 := Aside0.mk b0; have B1 := Aside0.mk b1; have B2 := Aside0.mk b2; have HB := Aside0.mk hB; clear b0 b1 b2 hB hb)
  | (go_at_call 46; refine (vm_own.calls pc A c st pc st _ (Kd.C_below HR.out (below_alloc HB.out _)) HC.out (own_is _ _ HL.out)).mono ?_; rintro e w5 ⟨v1, rfl, hR, hb⟩; obtain ⟨A5, c5, rfl⟩ := Kd.R_slice hR; have b1 := blk_below (blk_alloc B1.out _) hb; have b2 := blk_below (blk_alloc B2.out _) hb; have HB5 := Aside0.mk (below_step (below_alloc HB.out _) hb); clear c00 c01 f00 f01 c10 c11 f10 f11 c20 c21 c22 c23 f20 f21 f22 f23; obtain ⟨⟨c10, c11⟩, f10, f11⟩ := cells2 b1; obtain ⟨⟨c20, c21, c22, c23⟩, f20, f21, f22, f23⟩ := cells4 b2; have B1' := Aside0.mk b1; have B2' := Aside0.mk b2; have HR5 := Aside0.mk hR; clear b1 b2 hR hb))
 refine bodyPost_ret (v := .tuple #[.agg #[.int .i64 pc, .slice A5 st.length c5], .agg #[.int .i64 4, .int .u64 0, .int .u64 0, .int .i64 0]]) (by simp [results, Try.results45, go_sem, c10, c11, c20, c21, c22, c23]) rfl ⟨_, rfl, ?_, ?_⟩
 ·have h1 := Kd.R_mono (ok' := fun k => k ≠ w.heap.size + 1 ∧ k ≠ w.heap.size + 1 + 1) (Kd.R_bound HR5.out) (fun k hk => by have := hk.2.1; simp at this; omega)
  have h2 := Kd.R_lower h1 (base' := w.heap.size) (by simp; omega)
  refine Kd.R_mono (ok := fun k => k ≠ w.heap.size + 1 ∧ k ≠ w.heap.size + 1 + 1) ?_ (fun _ _ => trivial)
  iterate 4 (with_reducible refine Kd.R_far ?_ (fun k hk => hk.2) _)
  iterate 2 (with_reducible refine Kd.R_far ?_ (fun k hk => hk.1) _)
  exact h2
 ·iterate 4 (with_reducible refine below_set ?_ (Nat.le_succ_of_le (Nat.le_succ _)))
  iterate 2 (with_reducible refine below_set ?_ (Nat.le_succ _))
  exact HB5.out
end Go.Proofs.Ytjbpljcfogekhaa.Q
namespace Go.Proofs.Ytjbpljcfogekhaa.Q
open Go.RowKit YtjbpljcfogekhaaW.PrintWords YtjbpljcfogekhaaW.PrintLast YtjbpljcfogekhaaW.PrintMore
attribute [local go_sem] max2_int min2_int max_two min_two max_three min_three max_four min_four
def vm_flag.f (a0 : Bool) : Option (Int × Bool) := if a0 = true then (some (1, true)) else (some (0, true))
set_option maxHeartbeats 8000000 in
set_option maxRecDepth 100000 in
theorem vm_flag.calls (a0 : Bool) (r1 : Int) (r2 : Bool) (w : World) (h : vm_flag.f a0 = some (r1, r2)) :
  Calls Try.prog 51 #[.bool a0] w fun e w' => e = .returned (.tuple #[.int .u64 r1, .bool r2]) ∧ Drawn0 w w' := by
 have H : (if a0 = true then (some (1, true)) else (some (0, true))) = some (r1, r2) := h
 clear h
 by_cases c2 : a0 = true
 ·subst c2
  have H1 : (some (1, true)) = some (r1, r2) := by rw [if_pos rfl] at H; exact H
  clear H
  have H := H1
  clear H1
  simp only [Option.some.injEq, Prod.mk.injEq] at H
  obtain ⟨rfl, rfl⟩ := H
  go_enter Try.func51, Try.ntmps51
  go_wp2
  go_ret2
  exact ⟨by first | rfl | (simp; done) | (simp [*]; done) | (simp; unfold wrap64; omega), by repeat (first | exact Drawn0.refl _ | apply Drawn0.step)⟩
 ·replace c2 := Bool.eq_false_iff.mpr c2
  subst c2
  have H1 : (some (0, true)) = some (r1, r2) := by rw [if_neg (show ¬ (false = true) by decide)] at H; exact H
  clear H
  have H := H1
  clear H1
  simp only [Option.some.injEq, Prod.mk.injEq] at H
  obtain ⟨rfl, rfl⟩ := H
  go_enter Try.func51, Try.ntmps51
  go_wp2
  go_ret2
  exact ⟨by first | rfl | (simp; done) | (simp [*]; done) | (simp; unfold wrap64; omega), by repeat (first | exact Drawn0.refl _ | apply Drawn0.step)⟩
end Go.Proofs.Ytjbpljcfogekhaa.Q
namespace Go.Proofs.Ytjbpljcfogekhaa.Q
open Go.RowKit YtjbpljcfogekhaaW.PrintWords YtjbpljcfogekhaaW.PrintLast YtjbpljcfogekhaaW.PrintMore
set_option maxHeartbeats 1000000 in
set_option maxRecDepth 100000 in
/-- push(l...): the row in the captured machine grows by l; nothing else of what was there turns, but that row's own block. -/
theorem push_any (g base : Nat) (pc : Int) (v : Value) (xs ys : List Int) (A : Option Addr) (c : Nat) (w0 w : World)
  (hg : w.heap[g]? = some (.cells #[.int .i64 pc, v] 59 (0, 0))) (hv : Kd.R (Kd.int .u64) 34 w base (fun _ => True) v xs) (hy : Kd.C (Kd.int .u64) w A ys.length ys) (hB : Below base w0 w) (hbase : base ≤ w.heap.size) (hl : xs.length + ys.length < 1000000) :
  Calls Try.prog 50 #[.slice A ys.length c, .pointer (some ⟨g, 0, none⟩)] w fun e w' => e = .returned (.tuple #[]) ∧ ∃ v1, w'.heap[g]? = some (.cells #[.int .i64 pc, v1] 59 (0, 0)) ∧ Kd.R (Kd.int .u64) 34 w' base (fun _ => True) v1 (xs ++ ys) ∧
   w'.os = w.os ∧ w'.tape = w.tape ∧ w'.output = w.output ∧ w.heap.size ≤ w'.heap.size ∧ (∀ k, k < w.heap.size → k ≠ g → some k ≠ v.ownBlock → w'.heap[k]? = w.heap[k]?) := by
 have hu59 := Try.underlying59
 have hu57 := Try.underlying57
 obtain ⟨A0, c0, rfl⟩ := Kd.R_slice hv
 obtain ⟨⟨c00, c01⟩, f00, f01⟩ := cells2 hg
 have HG := Aside0.mk hg
 have HV := Aside0.mk hv
 have HY := Aside0.mk hy
 have HB := Aside0.mk hB
 have HBS := Aside0.mk hbase
 have HL := Aside0.mk hl
 clear hg hv hy hB hbase hl
 go_enter Try.func50, Try.ntmps50
 go_wp2_with (first
  | ((with_reducible refine gate_builtin (b := .append) (xs := #[.tmp 4, .tmp 5]) rfl ?_); at_builtin; refine Kd.R_append_row (Value.int .u64) 0 (h1 := fun _ => rfl) (w0 := w0) base rfl (.tmp 4) (.tmp 5) 57 34 (.int .u64 0) 8 rfl Try.underlying57 clone_info34 rfl (by omega) (.slice A0 xs.length c0) xs ys A ys.length c (fun _ => True) rfl rfl (fun _ _ => trivial) HV.out HY.out HB.out HBS.out (by have := HL.out; omega) ?_; intro v1 w1 hR hB2 hg2 hat2; obtain ⟨A1, c1, rfl⟩ := Kd.R_slice hR; have e1 := blk_grown HG.out hg2 (Kd.R_ne HV.out HG.out (by decide)); clear c00 c01 f00 f01; obtain ⟨⟨c00, c01⟩, f00, f01⟩ := cells2 e1; have HE := Aside0.mk e1; have HR := Aside0.mk hR; have HG2 := Aside0.mk hg2; have HB2 := Aside0.mk hB2; clear e1 hR hg2 hB2 hat2))
 go_end0
 have hne := Kd.R_ne HR.out HE.out (by decide)
 refine ⟨rfl, .slice A1 (xs ++ ys).length c1, ?_, ?_, ?_, ?_, ?_, ?_, ?_⟩
 ·exact blk_put HE.out 1 _ (by simp)
 ·refine Kd.R_mono (Kd.R_far (p := ⟨g, 1, none⟩) (Kd.R_mono (ok' := fun k => k ≠ g) (Kd.R_tight rfl HR.out) (fun k hk => ?_)) (fun _ hk => hk) _) (fun _ _ => trivial)
  rintro rfl
  exact hne hk
 ·exact HG2.out.os
 ·exact HG2.out.tape
 ·exact HG2.out.output
 ·have := HG2.out.size; simpa [World.setCell] using this
 ·intro k hk h1 h2
  rw [Below.heap_setCell _ _ _ _ h1]
  exact HG2.out.block k hk h2
def fnOf (op : Int) : Nat := if op = 6 then 53 else if op = 7 then 54 else if op = 8 then 55 else if op = 9 then 56 else if op = 10 then 57 else if op = 11 then 58 else if op = 12 then 59 else if op = 13 then 60 else if op = 14 then 61 else if op = 15 then 62 else if op = 16 then 63 else 64
set_option maxHeartbeats 4000000 in
set_option maxRecDepth 100000 in
theorem find_any (op : Int) (h0 : 6 ≤ op) (h1 : op ≤ 17) (w : World) :
  Calls Try.prog 52 #[.int .i64 op] w fun e w' => e = .returned (.agg #[.func (Fn.func (fnOf op)) #[] #[]]) ∧ Below w.heap.size w w' := by
 have hu91 := Try.underlying91
 have h : op = 6 ∨ op = 7 ∨ op = 8 ∨ op = 9 ∨ op = 10 ∨ op = 11 ∨ op = 12 ∨ op = 13 ∨ op = 14 ∨ op = 15 ∨ op = 16 ∨ op = 17 := by omega
 clear h0 h1
 rcases h with rfl | rfl | rfl | rfl | rfl | rfl | rfl | rfl | rfl | rfl | rfl | rfl
 all_goals
  go_enter Try.func52, Try.ntmps52
  go_wp2
  exact bodyPost_ret (v := .agg #[.func (Fn.func (fnOf _)) #[] #[]]) (by simp [results, Try.results52, go_sem]; rfl) rfl ⟨rfl, below_alloc (Below.refl _ _) _⟩
def binY (op a b : Int) : Int :=
 if op = 6 then IntKind.u64.wrap (a + b) else if op = 7 then IntKind.u64.wrap (a - b) else if op = 8 then IntKind.u64.wrap (a * b)
 else if op = 9 then a / mx b 1 else if op = 10 then a % mx b 1 else if op = 11 then Go.bits .and .u64 a b else if op = 12 then Go.bits .or .u64 a b else if op = 13 then Go.bits .xor .u64 a b
 else if op = 14 then shl .u64 a b else if op = 15 then shr .u64 a b else if op = 16 then (if a < b then 1 else 0) else (if a = b then 1 else 0)
def binOk (op b : Int) : Bool := if op = 9 then decide (0 < b) else if op = 10 then decide (0 < b) else true
theorem mx_one {b : Int} (hb : 0 ≤ b) (h : ¬ 1 < b) : mx b 1 = 1 := by unfold mx; split <;> omega
theorem mx_self {b : Int} (h : 1 ≤ b) : mx b 1 = b := by unfold mx; split <;> omega
theorem ret2_int {a b : Int} {x y : Bool} (h : a = b) (g : x = y) : Ending.returned (.tuple #[.int .u64 a, .bool x]) = .returned (.tuple #[.int .u64 b, .bool y]) := by rw [h, g]
set_option maxHeartbeats 4000000 in
set_option maxRecDepth 100000 in
theorem bin_any (op : Int) (h0 : 6 ≤ op) (h1 : op ≤ 17) (a b : Int) (ha : 0 ≤ a) (ha' : a < 18446744073709551616) (hb : 0 ≤ b) (hb' : b < 18446744073709551616) (w : World) :
  Calls Try.prog (fnOf op) #[.int .u64 a, .int .u64 b] w fun e w' => e = .returned (.tuple #[.int .u64 (binY op a b), .bool (binOk op b)]) ∧ Below w.heap.size w w' := by
 have h : op = 6 ∨ op = 7 ∨ op = 8 ∨ op = 9 ∨ op = 10 ∨ op = 11 ∨ op = 12 ∨ op = 13 ∨ op = 14 ∨ op = 15 ∨ op = 16 ∨ op = 17 := by omega
 clear h0 h1
 rcases h with rfl | rfl | rfl | rfl | rfl | rfl | rfl | rfl | rfl | rfl | rfl | rfl
 ·show Calls Try.prog 53 _ _ _
  go_enter Try.func53, Try.ntmps53
  go_wp2
  go_ret2
  exact ⟨rfl, Below.refl _ _⟩
 ·show Calls Try.prog 54 _ _ _
  go_enter Try.func54, Try.ntmps54
  go_wp2
  go_ret2
  exact ⟨rfl, Below.refl _ _⟩
 ·show Calls Try.prog 55 _ _ _
  go_enter Try.func55, Try.ntmps55
  go_wp2
  go_ret2
  exact ⟨rfl, Below.refl _ _⟩
 ·show Calls Try.prog 56 _ _ _
  go_enter Try.func56, Try.ntmps56
  go_wp2
  ·have e : mx b 1 = 1 := mx_one hb (by omega)
   go_ret2
   exact ⟨ret2_int (by show _ = a / mx b 1; rw [e]; rw [Int.ediv_one]) rfl, Below.refl _ _⟩
  ·have e : mx b 1 = b := mx_self (by omega)
   go_ret2
   exact ⟨ret2_int (by show _ = a / mx b 1; rw [e]) rfl, Below.refl _ _⟩
 ·show Calls Try.prog 57 _ _ _
  go_enter Try.func57, Try.ntmps57
  go_wp2
  ·have e : mx b 1 = 1 := mx_one hb (by omega)
   go_ret2
   exact ⟨ret2_int (by show _ = a % mx b 1; rw [e]; rw [Int.emod_one]) rfl, Below.refl _ _⟩
  ·have e : mx b 1 = b := mx_self (by omega)
   go_ret2
   exact ⟨ret2_int (by show _ = a % mx b 1; rw [e]) rfl, Below.refl _ _⟩
 ·show Calls Try.prog 58 _ _ _
  go_enter Try.func58, Try.ntmps58
  go_wp2
  go_ret2
  exact ⟨rfl, Below.refl _ _⟩
 ·show Calls Try.prog 59 _ _ _
  go_enter Try.func59, Try.ntmps59
  go_wp2
  go_ret2
  exact ⟨rfl, Below.refl _ _⟩
 ·show Calls Try.prog 60 _ _ _
  go_enter Try.func60, Try.ntmps60
  go_wp2
  go_ret2
  exact ⟨rfl, Below.refl _ _⟩
 ·show Calls Try.prog 61 _ _ _
  go_enter Try.func61, Try.ntmps61
  go_wp2
  go_ret2
  exact ⟨rfl, Below.refl _ _⟩
 ·show Calls Try.prog 62 _ _ _
  go_enter Try.func62, Try.ntmps62
  go_wp2
  go_ret2
  exact ⟨rfl, Below.refl _ _⟩
 ·show Calls Try.prog 63 _ _ _
  by_cases hh : a < b
  ·have hq : decide (a < b) = true := decide_eq_true hh
   have e : binY 16 a b = 1 := if_pos hh
   rw [e]
   clear hh e
   go_enter Try.func63, Try.ntmps63
   go_wp2_with (go_at_call 51; refine (vm_flag.calls true 1 true _ rfl).mono ?_; rintro e w1 ⟨rfl, hd⟩)
   go_ret2
   exact ⟨rfl, hd.below⟩
  ·have hq : decide (a < b) = false := decide_eq_false hh
   have e : binY 16 a b = 0 := if_neg hh
   rw [e]
   clear hh e
   go_enter Try.func63, Try.ntmps63
   go_wp2_with (go_at_call 51; refine (vm_flag.calls false 0 true _ rfl).mono ?_; rintro e w1 ⟨rfl, hd⟩)
   go_ret2
   exact ⟨rfl, hd.below⟩
 ·show Calls Try.prog 64 _ _ _
  by_cases hh : a = b
  ·have hq : (a == b) = true := beq_iff_eq.mpr hh
   have e : binY 17 a b = 1 := if_pos hh
   rw [e]
   clear hh e
   go_enter Try.func64, Try.ntmps64
   go_wp2_with (go_at_call 51; refine (vm_flag.calls true 1 true _ rfl).mono ?_; rintro e w1 ⟨rfl, hd⟩)
   go_ret2
   exact ⟨rfl, hd.below⟩
  ·have hq : (a == b) = false := beq_eq_false_iff_ne.mpr hh
   have e : binY 17 a b = 0 := if_neg hh
   rw [e]
   clear hh e
   go_enter Try.func64, Try.ntmps64
   go_wp2_with (go_at_call 51; refine (vm_flag.calls false 0 true _ rfl).mono ?_; rintro e w1 ⟨rfl, hd⟩)
   go_ret2
   exact ⟨rfl, hd.below⟩
end Go.Proofs.Ytjbpljcfogekhaa.Q
namespace Go.Proofs.Ytjbpljcfogekhaa.Q
open Go.RowKit YtjbpljcfogekhaaW.PrintWords YtjbpljcfogekhaaW.PrintLast YtjbpljcfogekhaaW.PrintMore
/-- Behind the making of the new machine. -/
structure StepMid (w wc : World) (g6 g : Nat) (pc : Int) (A : Option Addr) (len c : Nat) (op t2 t3 t4 npc : Int) (vv : Value) (bs : List Int) : Prop where
 b0 : wc.heap[w.heap.size]? = some (.cells #[.int .i64 pc, .slice A len c] 59 (0, 0))
 b1 : wc.heap[w.heap.size + 1]? = some (.cells #[.int .i64 0, .slice none 0 0] 59 (0, 0))
 b2 : wc.heap[w.heap.size + 1 + 1]? = some (.cells #[.int .i64 0, .int .u64 0, .int .u64 0, .int .i64 0] 61 (0, 0))
 b6 : wc.heap[g6]? = some (.cells #[.int .i64 op, .int .u64 t2, .int .i64 t3, .int .i64 t4] 36 (0, 0))
 bg : wc.heap[g]? = some (.cells #[.int .i64 npc, vv] 59 (0, 0))
 row : Kd.R (Kd.int .u64) 34 wc w.heap.size (fun _ => True) vv bs
 bel : Below w.heap.size w wc
 n6 : w.heap.size + 1 + 1 < g6
 ng : g6 < g
theorem mid_new {w w5 w6 : World} {g6 b' : Nat} {pc op t2 t3 t4 npc : Int} {A : Option Addr} {len c : Nat} {vv : Value} {bs : List Int}
  (e0 : w6.heap[w.heap.size]? = some (.cells #[.int .i64 pc, .slice A len c] 59 (0, 0))) (e1 : w6.heap[w.heap.size + 1]? = some (.cells #[.int .i64 0, .slice none 0 0] 59 (0, 0)))
  (e2 : w6.heap[w.heap.size + 1 + 1]? = some (.cells #[.int .i64 0, .int .u64 0, .int .u64 0, .int .i64 0] 61 (0, 0))) (e6 : w6.heap[g6]? = some (.cells #[.int .i64 op, .int .u64 t2, .int .i64 t3, .int .i64 t4] 36 (0, 0)))
  (er : Kd.R (Kd.int .u64) 34 w6 b' (fun _ => True) vv bs) (hb' : w.heap.size ≤ b') (b5 : Below w.heap.size w w5) (b6 : Below w5.heap.size w5 w6) (n6 : w.heap.size + 1 + 1 < g6) :
  StepMid w (w6.alloc (.cells #[.int .i64 npc, vv] 59)) g6 w6.heap.size pc A len c op t2 t3 t4 npc vv bs :=
 ⟨blk_alloc e0 _, blk_alloc e1 _, blk_alloc e2 _, blk_alloc e6 _, blk_new w6 _, Kd.R_alloc (Kd.R_lower er hb') _, below_alloc (below_step b5 b6) _, n6, blk_lt e6⟩
theorem mid_old {w w5 w6 : World} {g6 b' : Nat} {pc op t2 t3 t4 npc : Int} {A : Option Addr} {len c : Nat} {vv : Value} {bs : List Int}
  (e0 : w6.heap[w.heap.size]? = some (.cells #[.int .i64 pc, .slice A len c] 59 (0, 0))) (e1 : w6.heap[w.heap.size + 1]? = some (.cells #[.int .i64 0, .slice none 0 0] 59 (0, 0)))
  (e2 : w6.heap[w.heap.size + 1 + 1]? = some (.cells #[.int .i64 0, .int .u64 0, .int .u64 0, .int .i64 0] 61 (0, 0))) (e6 : w6.heap[g6]? = some (.cells #[.int .i64 op, .int .u64 t2, .int .i64 t3, .int .i64 t4] 36 (0, 0)))
  (e11 : w6.heap[w5.heap.size]? = some (.cells #[.int .i64 0, .slice none 0 0] 59 (0, 0)))
  (er : Kd.R (Kd.int .u64) 34 w6 b' (fun _ => True) vv bs) (hb' : w5.heap.size < b') (b5 : Below w.heap.size w w5) (b6 : Below w5.heap.size w5 w6) (n6 : w.heap.size + 1 + 1 < g6) (y6 : g6 < w5.heap.size) :
  StepMid w ((w6.setCell ⟨w5.heap.size, 0, none⟩ (.int .i64 npc)).setCell ⟨w5.heap.size, 1, none⟩ vv) g6 w5.heap.size pc A len c op t2 t3 t4 npc vv bs := by
 have far : ∀ (k : Nat) (o : Obj), k ≠ w5.heap.size → w6.heap[k]? = some o → ((w6.setCell ⟨w5.heap.size, 0, none⟩ (.int .i64 npc)).setCell ⟨w5.heap.size, 1, none⟩ vv).heap[k]? = some o := by
  intro k o hk h
  rw [Below.heap_setCell _ _ _ _ hk, Below.heap_setCell _ _ _ _ hk]
  exact h
 have hs := b5.size
 refine ⟨far _ _ (by omega) e0, far _ _ (by omega) e1, far _ _ (by omega) e2, far _ _ (by omega) e6, blk_put (blk_put e11 0 _ rfl) 1 _ rfl, ?_, ?_, n6, y6⟩
 ·have h1 := Kd.R_mono (ok' := fun k => k ≠ w5.heap.size) (Kd.R_bound er) (fun k hk => by have := hk.2.1; omega)
  exact Kd.R_mono (Kd.R_far (p := ⟨w5.heap.size, 1, none⟩) (Kd.R_far (p := ⟨w5.heap.size, 0, none⟩) (Kd.R_lower h1 (by omega)) (fun _ hk => hk) _) (fun _ hk => hk) _) (fun _ _ => trivial)
 ·exact below_set (below_set (below_step b5 b6) hs) hs
theorem row_front {w : World} {a : Option Addr} {n : Nat} {bs xs : List Int} (h : Kd.C (Kd.int .u64) w a n (bs ++ xs)) : Kd.C (Kd.int .u64) w a bs.length bs := by
 have e := h.1
 rw [← e] at h
 have := Kd.C_take h (m := bs.length) (by simp)
 simpa using this
theorem row_at0 {w : World} {a : Addr} {n : Nat} {bs xs : List Int} {x0 : Int} (h : Kd.C (Kd.int .u64) w (some a) n (bs ++ x0 :: xs)) : w.cell? (a.add bs.length) = some (.int .u64 x0) := by
 have e := h.1
 obtain ⟨ad, e1, hc⟩ := h.2.2 (by rw [← e]; simp; omega)
 cases e1
 obtain ⟨c, hl, hk, hu⟩ := hc bs.length x0 (by simp)
 obtain rfl : c = [.int .u64 x0] := hk
 have := hu 0 _ rfl
 simpa [Kd.int, Kd.scalar] using this
theorem row_at1 {w : World} {a : Addr} {n : Nat} {bs xs : List Int} {x0 x1 : Int} (h : Kd.C (Kd.int .u64) w (some a) n (bs ++ x0 :: x1 :: xs)) : w.cell? (a.add (bs.length + 1)) = some (.int .u64 x1) := by
 have e : bs ++ x0 :: x1 :: xs = (bs ++ [x0]) ++ x1 :: xs := by simp
 rw [e] at h
 have := row_at0 h
 simpa using this
theorem end_row {w wc : World} {vv : Value} {xs : List Int} {c1 c2 : Array Value} (hr : Kd.R (Kd.int .u64) 34 wc w.heap.size (fun _ => True) vv xs) (b1 : wc.heap[w.heap.size + 1]? = some (.cells c1 59 (0, 0))) (b2 : wc.heap[w.heap.size + 1 + 1]? = some (.cells c2 61 (0, 0))) (u0 u1 u2 u3 u4 u5 : Value) :
  Kd.R (Kd.int .u64) 34 ((((((wc.setCell ⟨w.heap.size + 1, 0, none⟩ u0).setCell ⟨w.heap.size + 1, 1, none⟩ u1).setCell ⟨w.heap.size + 1 + 1, 0, none⟩ u2).setCell ⟨w.heap.size + 1 + 1, 1, none⟩ u3).setCell ⟨w.heap.size + 1 + 1, 2, none⟩ u4).setCell ⟨w.heap.size + 1 + 1, 3, none⟩ u5) w.heap.size (fun _ => True) vv xs := by
 have h2 := Kd.R_mono (ok' := fun k => k ≠ w.heap.size + 1 ∧ k ≠ w.heap.size + 1 + 1) (Kd.R_tight rfl hr) (fun k hk => ⟨fun e => Kd.R_ne hr b1 (by decide) (e ▸ hk), fun e => Kd.R_ne hr b2 (by decide) (e ▸ hk)⟩)
 refine Kd.R_mono (ok := fun k => k ≠ w.heap.size + 1 ∧ k ≠ w.heap.size + 1 + 1) ?_ (fun _ _ => trivial)
 iterate 4 (with_reducible refine Kd.R_far ?_ (fun k hk => hk.2) _)
 iterate 2 (with_reducible refine Kd.R_far ?_ (fun k hk => hk.1) _)
 exact h2
theorem end_below {w wc : World} (hb : Below w.heap.size w wc) (u0 u1 u2 u3 u4 u5 : Value) :
  Below w.heap.size w ((((((wc.setCell ⟨w.heap.size + 1, 0, none⟩ u0).setCell ⟨w.heap.size + 1, 1, none⟩ u1).setCell ⟨w.heap.size + 1 + 1, 0, none⟩ u2).setCell ⟨w.heap.size + 1 + 1, 1, none⟩ u3).setCell ⟨w.heap.size + 1 + 1, 2, none⟩ u4).setCell ⟨w.heap.size + 1 + 1, 3, none⟩ u5) := by
 iterate 4 (with_reducible refine below_set ?_ (Nat.le_succ_of_le (Nat.le_succ _)))
 iterate 2 (with_reducible refine below_set ?_ (Nat.le_succ _))
 exact hb
theorem clone_row (A0 : Option Addr) (c0 : Nat) (l0 : List Int) (w : World) (hr0 : Kd.C (Kd.int .u64) w A0 l0.length l0) (hc0 : l0.length ≤ c0) (hl : l0.length < 17592186044416) :
  Calls Try.prog 47 #[.slice A0 l0.length c0] w fun e w' => ∃ v0_ : Value, e = .returned v0_ ∧ Kd.R (Kd.int .u64) 34 w' w.heap.size (fun _ => True) v0_ l0 ∧ Below w.heap.size w w' :=
 slices_Clone_uint64_uint64.calls A0 c0 l0 l0 w hr0 hc0 (by unfold slices_Clone_uint64_uint64.f; rw [if_pos hl])
end Go.Proofs.Ytjbpljcfogekhaa.Q
namespace Go.Proofs.Ytjbpljcfogekhaa.Q
open Go.RowKit Go.Maps Ytjbpljcfogekhaa.Core YtjbpljcfogekhaaW.PrintWords YtjbpljcfogekhaaW.PrintLast YtjbpljcfogekhaaW.PrintMore
theorem mapLaw : Keyed Try.prog 34 := int_keyed Try.underlying34
theorem zero3 (w : World) : (zeroValue 3).run Try.prog w = .ok (.int .i64 0) w := by kernel_rfl
theorem u64_wf {a : Int} (h0 : 0 ≤ a) (h1 : a < 18446744073709551616) : (Lit.int .u64 a).wf = true := by
 simp only [Lit.wf, Bool.and_eq_true, decide_eq_true_eq]
 have e0 : IntKind.u64.min = 0 := rfl
 have e1 : IntKind.u64.max = 18446744073709551615 := rfl
 rw [e0, e1]
 omega
theorem i64_wf {a : Int} (h0 : 0 ≤ a) (h1 : a < 9223372036854775808) : (Lit.int .i64 a).wf = true := by
 simp only [Lit.wf, Bool.and_eq_true, decide_eq_true_eq]
 have e0 : IntKind.i64.min = -9223372036854775808 := rfl
 have e1 : IntKind.i64.max = 9223372036854775807 := rfl
 rw [e0, e1]
 omega
/-- Block b is a map of at most n places: F tells the number at a place. -/
def Mp (W : World) (b n : Nat) (F : Int → Option Nat) : Prop :=
 ∃ D : DataW Unit, W.ownsMap Try.prog 34 (plainElem Try.prog 3) b n D ∧ ∀ a, 0 ≤ a → a < 18446744073709551616 → Maps.has D (.int .u64 a) = (F a).isSome ∧ D.atKey (.int .u64 a) (.lit (.int .i64 0)) = .lit (.int .i64 ((F a).getD 0 : Nat))
theorem Mp.grown {W W1 : World} {b n : Nat} {F : Int → Option Nat} (h : Mp W b n F) {row : Option Nat} (hg : W.grownBy W1 row) (hne : some b ≠ row) : Mp W1 b n F := by
 obtain ⟨D, h, h2⟩ := h
 exact ⟨D, h.kept hg hne, h2⟩
theorem Mp.heap {W W1 : World} {b n : Nat} {F : Int → Option Nat} (h : Mp W b n F) (hb : W1.heap[b]? = W.heap[b]?) : Mp W1 b n F := by
 obtain ⟨D, ⟨es, clock, h0, h1⟩, h2⟩ := h
 exact ⟨D, ⟨es, clock, hb.trans h0, h1⟩, h2⟩
theorem Mp.lt {W : World} {b n : Nat} {F : Int → Option Nat} (h : Mp W b n F) : b < W.heap.size := by
 obtain ⟨D, h, h2⟩ := h
 exact h.lt
theorem Mp.kept {W W1 : World} {b n : Nat} {F : Int → Option Nat} (h : Mp W b n F) {S : Nat → Prop} (hk : Kept W W1 S) (hb : ¬ S b) : Mp W1 b n F := h.heap (hk.2 b h.lt hb)
theorem Mp.below {W W1 : World} {b n : Nat} {F : Int → Option Nat} (h : Mp W b n F) (hb : Below W.heap.size W W1) : Mp W1 b n F := h.heap (hb.block b h.lt)
theorem Mp.look {W : World} {b n : Nat} {F : Int → Option Nat} (h : Mp W b n F) {a : Int} (h0 : 0 ≤ a) (h1 : a < 18446744073709551616) :
  (Instr.lookup 76 (.map (some b)) (.int .u64 a) false).run Try.prog W = .ok (.int .i64 ((F a).getD 0 : Nat)) W := by
 obtain ⟨D, h, h2⟩ := h
 obtain ⟨c, hr, hc, _⟩ := h.lookup_int mapLaw Try.underlying76 Try.underlying3 (zero3 _) (keyOf_int_mk Try.underlying34 (u64_wf h0 h1))
 rw [(h2 a h0 h1).2] at hc
 have : c = ((F a).getD 0 : Nat) := by injection hc with hc; injection hc with _ hc; exact hc.symm
 rw [hr, this]
theorem Mp.new (W : World) : Mp (W.alloc (.map #[] 0)) W.heap.size 0 (fun _ => none) :=
 ⟨_, World.ownsMap_made W Try.prog 34 _, fun _ _ _ => ⟨rfl, rfl⟩⟩
theorem Mp.put {W : World} {b n : Nat} {F : Int → Option Nat} (h : Mp W b n F) (hn : n < maxLen) {a : Int} (h0 : 0 ≤ a) (h1 : a < 18446744073709551616) {i : Nat} (hi : (i : Int) < 9223372036854775808) :
  ∃ W', (Instr.mapUpdate 76 (.map (some b)) (.int .u64 a) (.int .i64 i)).run Try.prog W = .ok () W' ∧ Mp W' b (n + 1) (fun c => if c = a then some i else F c) ∧ W.grownBy W' (some b) := by
 obtain ⟨D, h, h2⟩ := h
 obtain ⟨W', hr, ho, hg⟩ := h.update mapLaw Try.underlying76 hn (keyOf_int_mk Try.underlying34 (u64_wf h0 h1)) (plainElem_int Try.underlying3 (i64_wf (by omega) hi))
 refine ⟨W', hr, ⟨_, ho, fun c hc0 hc1 => ?_⟩, hg⟩
 have hM : IsMap D := h.isMap
 by_cases hca : c = a
 ·subst hca
  dsimp only
  rw [if_pos rfl]
  have hk : WideAt.IsKeyLit (Lit.int .u64 c) := by first | trivial | (unfold WideAt.IsKeyLit; trivial) | (simp [WideAt.IsKeyLit])
  exact ⟨has_put_same hM hk _, atKey_put_same hM hk _ _⟩
 ·dsimp only
  rw [if_neg hca]
  have hne : Lit.int .u64 c ≠ Lit.int .u64 a := fun e => hca (by injection e)
  exact ⟨(has_put_other hne _).trans (h2 c hc0 hc1).1, (atKey_put_other hne _ _).trans (h2 c hc0 hc1).2⟩
/-- Element i of a row of numbers of one's own. -/
theorem R_cell {W : World} {base g n cap : Nat} {ok : Nat → Prop} {xs : List Int} (h : Kd.R (Kd.int .i64) 3 W base ok (.slice (some ⟨g, 0, none⟩) n cap) xs) {i : Nat} (hi : i < xs.length) :
  W.cell? ⟨g, i, none⟩ = some (.int .i64 (rd xs (i : Int))) ∧ W.frozen? ⟨g, i, none⟩ = false := by
 have hn := (Kd.R_reads' h).1
 obtain ⟨c, hcl, hM, hc, hf⟩ := Kd.R_elem h (0 : Int) (i : Int) (by omega) (by omega)
 have e : c = [.int .i64 (xs.getD i 0)] := hM
 subst e
 have h1 := hc 0 _ rfl
 have h2 := hf 0
 have es : ((i : Int)).toNat * (Kd.int .i64).sz + 0 = i := by simp [Kd.int, Kd.scalar]
 rw [es] at h1 h2
 exact ⟨by rw [h1]; simp [rd], h2⟩
theorem R_own0 {α : Type} {d : Kd α} {W : World} {base e : Nat} {ok : Nat → Prop} {v : Value} {xs : List α} (h : d.R e W base ok v xs) (hp : 0 < xs.length) : ∃ g c, v = .slice (some ⟨g, 0, none⟩) xs.length c ∧ base ≤ g ∧ xs.length ≤ c ∧ g < W.heap.size := by
 obtain ⟨_, inner, ⟨_, ho⟩, _⟩ := h
 rcases ho with ⟨_, hn⟩ | ⟨g, cap, cur, hv, hg, hh, hc, _⟩
 ·omega
 ·exact ⟨g, cap, hv, hg, hc, blk_lt hh⟩
end Go.Proofs.Ytjbpljcfogekhaa.Q
namespace Go.Proofs.Ytjbpljcfogekhaa.Q
open Go.RowKit Ytjbpljcfogekhaa.Core YtjbpljcfogekhaaW.PrintWords YtjbpljcfogekhaaW.PrintLast YtjbpljcfogekhaaW.PrintMore
theorem app_i64 {ops : Array Oper} {rest : List Oper} {o : Oper} {a : Act} {Q : Exit → Act → World → Prop} {W w0 : World} {base : Nat} {ok0 : Nat → Prop} (hgd : o.guard = none) (s x : Operand)
  (ho : o.op = .call { callee := .builtin .append, args := #[s, x], argTypes := #[50, 50] }) (v : Value) (xs : List Int) (p : Int) (hs : a.eval s = v) {B : Nat} (hBW : W.heap.size = B) (hx : a.eval x = .slice (some ⟨B, 0, none⟩) 1 1)
  (HO : Kd.R (Kd.int .i64) 3 W base ok0 v xs) (HB : Below w0.heap.size w0 W) (hb0 : w0.heap.size ≤ base) (hb1 : base ≤ W.heap.size) (hl : xs.length < 1000000)
  (h : ∀ v1 w1, Kd.R (Kd.int .i64) 3 w1 base (fun _ => True) v1 (xs ++ [p]) → Below w0.heap.size w0 w1 → W.grownBy w1 v.ownBlock → (v1.ownBlock = v.ownBlock ∨ ∃ b, v1.ownBlock = some b ∧ W.heap.size ≤ b) → wpList Try.prog ops Q rest (a.put o.dst v1) w1) :
  wpList Try.prog ops Q (o :: rest) a (W.alloc (.cells #[.int .i64 p] 3)) := by
 subst hBW
 refine Kd.R_append (Kd.int .i64) (w0 := w0) w0.heap.size hgd s x 50 3 (.int .i64 0) 8 ho Try.underlying50 info3 rfl (by decide) (by decide) v xs p [.int .i64 p] (fun _ => True) (fun _ => False) hs hx rfl (fun _ hk => hk.elim) (fun _ _ => trivial)
  (Kd.R_lower (Kd.R_mono HO (fun _ _ => trivial)) hb0) HB (Nat.le_trans hb0 hb1) (by omega) ?_
 intro v1 w1 h1 h2 h3 h4
 refine h v1 w1 (Kd.R_raise (d := Kd.int .i64) (b := w0.heap.size) (b' := base) (fun _ _ _ _ hm => hm) h1 (fun k hk => ?_)) h2 h3 h4
 rcases h4 with h4 | ⟨b, hb, hle⟩
 ·rw [h4] at hk
  have := Kd.R_bound HO
  exact (this.1 k hk).2.1
 ·rw [hb] at hk
  cases hk
  omega
end Go.Proofs.Ytjbpljcfogekhaa.Q
namespace Go.Proofs.Ytjbpljcfogekhaa.Q
open Go.RowKit Ytjbpljcfogekhaa.Core YtjbpljcfogekhaaW.PrintWords YtjbpljcfogekhaaW.PrintLast YtjbpljcfogekhaaW.PrintMore
/-- While it looks: the depths lie in block gd, what is to be done in rows of its own. -/
structure LS (w0 w : World) (gd cd : Nat) (ds wk : List Int) (wkv : Value) (wc : World) : Prop where
 kept : Kept w wc (fun k => k = gd)
 bel : Below w0.heap.size w0 wc
 rd : Kd.R (Kd.int .i64) 3 wc w0.heap.size (fun k => k = gd) (.slice (some ⟨gd, 0, none⟩) ds.length cd) ds
 rw : Kd.R (Kd.int .i64) 3 wc w.heap.size (fun _ => True) wkv wk
theorem LS.below {w0 w : World} {gd cd : Nat} {ds wk : List Int} {wkv : Value} {wc wd : World} (L : LS w0 w gd cd ds wk wkv wc) (hb : Below wc.heap.size wc wd) : LS w0 w gd cd ds wk wkv wd :=
 ⟨L.kept.below hb, below_step L.bel hb, Kd.R_below L.rd hb, Kd.R_below L.rw hb⟩
theorem LS.alloc {w0 w : World} {gd cd : Nat} {ds wk : List Int} {wkv : Value} {wc : World} (L : LS w0 w gd cd ds wk wkv wc) (o : Obj) : LS w0 w gd cd ds wk wkv (wc.alloc o) := L.below (below_alloc (Below.refl _ _) o)
/-- In the round, behind the reading of the instruction. -/
structure LX (w0 w : World) (gd cd : Nat) (ds wk : List Int) (wkv : Value) (x : S36) (v5 : Value) (wc : World) : Prop where
 ls : LS w0 w gd cd ds wk wkv wc
 b5 : ∃ g5, v5 = .pointer (some ⟨g5, 0, none⟩) ∧ wc.heap[g5]? = some (.cells #[.int .i64 x.f0, .int .u64 x.f1, .int .i64 x.f2, .int .i64 x.f3] 36 (0, 0)) ∧ w.heap.size ≤ g5
theorem LX.below {w0 w : World} {gd cd : Nat} {ds wk : List Int} {wkv v5 : Value} {x : S36} {wc wd : World} (L : LX w0 w gd cd ds wk wkv x v5 wc) (hb : Below wc.heap.size wc wd) : LX w0 w gd cd ds wk wkv x v5 wd :=
 ⟨L.ls.below hb, let ⟨g, e, h, hg⟩ := L.b5; ⟨g, e, blk_below h hb, hg⟩⟩
theorem LX.alloc {w0 w : World} {gd cd : Nat} {ds wk : List Int} {wkv v5 : Value} {x : S36} {wc : World} (L : LX w0 w gd cd ds wk wkv x v5 wc) (o : Obj) : LX w0 w gd cd ds wk wkv x v5 (wc.alloc o) := L.below (below_alloc (Below.refl _ _) o)
/-- .. and the list of where it leads. -/
structure LT (w0 w : World) (gd cd : Nat) (ds wk : List Int) (wkv : Value) (x : S36) (v5 : Value) (tl : List Int) (v9 : Value) (wc : World) : Prop where
 lx : LX w0 w gd cd ds wk wkv x v5 wc
 rt : Kd.R (Kd.int .i64) 3 wc w.heap.size (fun _ => True) v9 tl
 ne : ∀ k, wkv.ownBlock = some k → v9.ownBlock ≠ some k
theorem LT.below {w0 w : World} {gd cd : Nat} {ds wk tl : List Int} {wkv v5 v9 : Value} {x : S36} {wc wd : World} (L : LT w0 w gd cd ds wk wkv x v5 tl v9 wc) (hb : Below wc.heap.size wc wd) : LT w0 w gd cd ds wk wkv x v5 tl v9 wd :=
 ⟨L.lx.below hb, Kd.R_below L.rt hb, L.ne⟩
theorem LT.app {w0 w : World} {gd cd : Nat} {ds wk tl : List Int} {wkv v5 v9 : Value} {x : S36} {W w1 : World} {v1 : Value} {p : Int} (L : LT w0 w gd cd ds wk wkv x v5 tl v9 W) (hg0 : gd < w.heap.size)
  (h1 : Kd.R (Kd.int .i64) 3 w1 w.heap.size (fun _ => True) v1 (tl ++ [p])) (h2 : Below w0.heap.size w0 w1) (h3 : W.grownBy w1 v9.ownBlock) (h4 : v1.ownBlock = v9.ownBlock ∨ ∃ b, v1.ownBlock = some b ∧ W.heap.size ≤ b) :
  LT w0 w gd cd ds wk wkv x v5 (tl ++ [p]) v1 w1 := by
 have hB := Kd.R_bound L.rt
 have hW := Kd.R_bound L.lx.ls.rw
 have hbase : ∀ k, v9.ownBlock = some k → w.heap.size ≤ k := fun k hk => (hB.1 k hk).2.1
 obtain ⟨g5, e5, b5, hg5⟩ := L.lx.b5
 refine ⟨⟨⟨L.lx.ls.kept.of_grown h3 (fun k hk => .inr (hbase k hk)), h2, Kd.R_grown L.lx.ls.rd h3 (fun k hk e => ?_), Kd.R_grown2 L.lx.ls.rw rfl h3 (fun k hk e => L.ne k e.symm hk)⟩, ⟨g5, e5, blk_grown b5 h3 (fun e => ?_), hg5⟩⟩, h1, fun k hk e => ?_⟩
 ·subst hk
  have := hbase k e.symm
  omega
 ·obtain ⟨_, _, q, hq, cells, hc⟩ := (hB.1 g5 e.symm).2
  have : q = 3 := by simpa [Kd.int, Kd.scalar] using hq
  subst this
  rw [b5] at hc
  injection hc with hc
  injection hc with _ hc _
  exact absurd hc (by decide)
 ·rcases h4 with h4 | ⟨b, hb, hle⟩
  ·exact L.ne k hk (by rw [← h4]; exact e)
  ·rw [hb] at e
   cases e
   have := (hW.1 _ hk).2.2.1
   omega
theorem LT.set {w0 w : World} {gd cd : Nat} {ds wk tl : List Int} {wkv v5 v9 : Value} {x : S36} {W : World} (L : LT w0 w gd cd ds wk wkv x v5 tl v9 W) (hg0 : gd < w.heap.size) (hg1 : w0.heap.size ≤ gd) (k : Nat) (d : Int) :
  LT w0 w gd cd (ds.set k d) wk wkv x v5 tl v9 (W.setCell ⟨gd, k, none⟩ (.int .i64 d)) := by
 obtain ⟨g5, e5, b5, hg5⟩ := L.lx.b5
 have far : ∀ {v : Value} {xs : List Int}, Kd.R (Kd.int .i64) 3 W w.heap.size (fun _ => True) v xs → Kd.R (Kd.int .i64) 3 (W.setCell ⟨gd, k, none⟩ (.int .i64 d)) w.heap.size (fun _ => True) v xs := fun h =>
  Kd.R_mono (Kd.R_far (p := ⟨gd, k, none⟩) (Kd.R_mono (ok' := fun k => k ≠ gd) (Kd.R_bound h) (fun k hk => by have := hk.2.1; omega)) (fun _ hk => hk) _) (fun _ _ => trivial)
 have hp := (Kd.R_put L.lx.ls.rd (k : Int) d).1
 refine ⟨⟨⟨L.lx.ls.kept.setCell (.inl rfl) _, below_set L.lx.ls.bel hg1, ?_, far L.lx.ls.rw⟩, ⟨g5, e5, blk_far b5 (by show g5 ≠ gd; omega) _, hg5⟩⟩, far L.rt, L.ne⟩
 rw [List.length_set]
 have e : ((k : Int)).toNat = k := by simp
 rw [e] at hp
 exact hp
end Go.Proofs.Ytjbpljcfogekhaa.Q
namespace Go.Proofs.Ytjbpljcfogekhaa.Core
open Go.RowKit Ytjbpljcfogekhaa.Q YtjbpljcfogekhaaW.PrintWords YtjbpljcfogekhaaW.PrintLast YtjbpljcfogekhaaW.PrintMore
/-- What valid.read finds. -/
def readS (s : ByteArray) : Option (List S36 × List Int) :=
 match decAll s with
 | none => none
 | some l => if s.size < 1 ∨ 192 < s.size then none else if okS l = true then (match lookF l 400 [0] (start l) with | some (some ds) => some (l, ds) | _ => none) else none
theorem decAll_pos {s : ByteArray} {l : List S36} (h : decAll s = some l) (hs : 0 < s.size) : 0 < l.length := by
 unfold decAll at h
 obtain ⟨d, hd⟩ : ∃ d, s.size = d + 1 := ⟨s.size - 1, by omega⟩
 rw [hd, dec, if_pos (by omega)] at h
 split at h
 ·obtain ⟨m, _, h⟩ := Option.bind_eq_some_iff.1 h
  simp only [Option.some.injEq] at h
  subst h
  simp
 ·cases h
theorem decAll_length {s : ByteArray} {l : List S36} (h : decAll s = some l) : l.length ≤ s.size := dec_length s _ _ _ h
theorem decAll_range {s : ByteArray} {l : List S36} (h : decAll s = some l) : ∀ x ∈ l, 0 ≤ x.f2 ∧ x.f2 < s.size ∧ 0 ≤ x.f0 ∧ x.f0 ≤ 23 ∧ 0 ≤ x.f1 ∧ x.f1 < 18446744073709551616 ∧ 1 ≤ x.f3 ∧ x.f2 + x.f3 ≤ s.size := dec_range s _ 0 l (by omega) h
def okx (l : List S36) (x : S36) : Bool := decide (0 ≤ tk x) && (!jmp x || (findS l x.f1).isSome)
theorem okS_all (l : List S36) : okS l = l.all (okx l) := rfl
end Go.Proofs.Ytjbpljcfogekhaa.Core
namespace Go.Proofs.Ytjbpljcfogekhaa.Q
open Go.RowKit Ytjbpljcfogekhaa.Core YtjbpljcfogekhaaW.PrintWords YtjbpljcfogekhaaW.PrintLast YtjbpljcfogekhaaW.PrintMore
theorem blk_two (w : World) (o o' : Obj) : ((w.alloc o).alloc o').heap[w.heap.size + 1]? = some o' := by
 have h := blk_new (w.alloc o) o'
 simp only [World.size_alloc] at h
 exact h
/-- While the map and the depths are made. -/
structure R1 (W1 : World) (l : List S36) (vl : Value) (gp bm : Nat) (i j : Nat) (wc : World) : Prop where
 bel : Below W1.heap.size W1 wc
 bp : ∃ vd, wc.heap[gp]? = some (.cells #[vl, .map (some bm), vd] 78 (0, 0)) ∧ Kd.R (Kd.int .i64) 3 wc W1.heap.size (fun _ => True) vd (List.replicate i (-1))
 mp : Mp wc bm j (findS (l.take j))
 n : W1.heap.size ≤ gp ∧ W1.heap.size ≤ bm ∧ gp ≠ bm
theorem R1.below {W1 : World} {l : List S36} {vl : Value} {gp bm i j : Nat} {wc wd : World} (r : R1 W1 l vl gp bm i j wc) (hb : Below wc.heap.size wc wd) : R1 W1 l vl gp bm i j wd :=
 ⟨below_step r.bel hb, let ⟨vd, h, hR⟩ := r.bp; ⟨vd, blk_below h hb, Kd.R_below hR hb⟩, r.mp.below hb, r.n⟩
theorem R1.start (W1 : World) (l : List S36) (vl : Value) : R1 W1 l vl (W1.heap.size + 1) W1.heap.size 0 0 ((W1.alloc (.map #[] 0)).alloc (.cells #[vl, .map (some W1.heap.size), .slice none 0 0] 78)) := by
 refine ⟨below_alloc (below_alloc (Below.refl _ _) _) _, ⟨_, blk_two _ _ _, Kd.R_nil _ _ _ _ _⟩, ?_, by omega⟩
 have h := (Mp.new W1).below (below_alloc (Below.refl _ _) (.cells #[vl, .map (some W1.heap.size), .slice none 0 0] 78))
 exact h
theorem R1.put {W1 : World} {l : List S36} {vl : Value} {gp bm i j : Nat} {wc wd : World} {F : Int → Option Nat} (r : R1 W1 l vl gp bm i j wc) (hm : Mp wd bm (j + 1) F) (hF : F = findS (l.take (j + 1))) (hg : wc.grownBy wd (some bm)) : R1 W1 l vl gp bm i (j + 1) wd := by
 obtain ⟨vd, h, hR⟩ := r.bp
 refine ⟨?_, ⟨vd, blk_grown h hg (by simpa using r.n.2.2), ?_⟩, hF ▸ hm, r.n⟩
 ·exact r.bel.grown hg r.bel.size (fun k hk => by cases hk; exact r.n.2.1)
 ·refine Kd.R_grown2 hR rfl hg (fun k hk e => ?_)
  cases hk
  have hb := Kd.R_bound hR
  obtain ⟨_, _, _, q, _, cells, hc⟩ := hb.1 _ e.symm
  obtain ⟨D, ⟨es, clock, h0, _⟩, _⟩ := r.mp
  rw [h0] at hc
  cases hc
theorem R1.app {W1 : World} {l : List S36} {vl vd : Value} {gp bm i j : Nat} {wc w1 : World} {v1 : Value} (r : R1 W1 l vl gp bm i j wc) (h : wc.heap[gp]? = some (.cells #[vl, .map (some bm), vd] 78 (0, 0))) (hR : Kd.R (Kd.int .i64) 3 wc W1.heap.size (fun _ => True) vd (List.replicate i (-1)))
    (h1 : Kd.R (Kd.int .i64) 3 w1 W1.heap.size (fun _ => True) v1 (List.replicate i (-1) ++ [-1])) (h2 : Below W1.heap.size W1 w1) (h3 : wc.grownBy w1 vd.ownBlock) :
    w1.heap[gp]? = some (.cells #[vl, .map (some bm), vd] 78 (0, 0)) ∧ R1 W1 l vl gp bm (i + 1) j (w1.setCell ⟨gp, 2, none⟩ v1) := by
  have hb := Kd.R_bound hR
  have hgp : w1.heap[gp]? = some (.cells #[vl, .map (some bm), vd] 78 (0, 0)) := blk_grown h h3 (fun e => by
    obtain ⟨_, _, _, q, hq, cells, hc⟩ := hb.1 _ e.symm
    have : q = 3 := by simpa [Kd.int, Kd.scalar] using hq
    subst this
    rw [h] at hc
    injection hc with hc
    injection hc with _ hc _
    exact absurd hc (by decide))
  have hm : Mp w1 bm j (findS (l.take j)) := r.mp.grown h3 (fun e => by
    obtain ⟨_, _, _, q, _, cells, hc⟩ := hb.1 _ e.symm
    obtain ⟨D, ⟨es, clock, h0, _⟩, _⟩ := r.mp
    rw [h0] at hc
    cases hc)
  refine ⟨hgp, below_set h2 r.n.1, ⟨v1, blk_put hgp 2 _ rfl, ?_⟩, hm.heap (Below.heap_setCell _ _ _ _ (fun e => r.n.2.2 e.symm)), r.n⟩
  rw [List.replicate_succ']
  exact Kd.R_set h1 hgp (by intro q hq; have : q = 3 := by simpa [Kd.int, Kd.scalar] using hq
                            subst this; decide) 2 v1
structure R2 (W1 : World) (l : List S36) (vl : Value) (gp bm : Nat) (x : S36) (g9 : Nat) (wc : World) : Prop where
 r : R1 W1 l vl gp bm l.length l.length wc
 b9 : wc.heap[g9]? = some (.cells #[.int .i64 x.f0, .int .u64 x.f1, .int .i64 x.f2, .int .i64 x.f3] 36 (0, 0))
theorem R2.below {W1 : World} {l : List S36} {vl : Value} {gp bm : Nat} {x : S36} {g9 : Nat} {wc wd : World} (q : R2 W1 l vl gp bm x g9 wc) (hb : Below wc.heap.size wc wd) : R2 W1 l vl gp bm x g9 wd :=
 ⟨q.r.below hb, blk_below q.b9 hb⟩
theorem readS_bad {s : ByteArray} {l : List S36} (hda : decAll s = some l) (hsz : ¬ (s.size < 1 ∨ 192 < s.size)) {x : S36} (hx : x ∈ l) (hb : okx l x = false) : readS s = none := by
 unfold readS
 rw [hda]
 simp only
 rw [if_neg hsz, if_neg]
 intro h
 rw [okS_all, List.all_eq_true] at h
 rw [h x hx] at hb
 cases hb
end Go.Proofs.Ytjbpljcfogekhaa.Q
namespace Go.Proofs.Ytjbpljcfogekhaa.Q
open Go.RowKit Ytjbpljcfogekhaa.Core YtjbpljcfogekhaaW.PrintWords YtjbpljcfogekhaaW.PrintLast YtjbpljcfogekhaaW.PrintMore
def depthsS (s : ByteArray) : List Int × Int := depRes ((readS s).map Prod.snd)
end Go.Proofs.Ytjbpljcfogekhaa.Q
namespace Go.Proofs.Ytjbpljcfogekhaa.Core
open Go.RowKit Ytjbpljcfogekhaa.Q YtjbpljcfogekhaaW.PrintWords YtjbpljcfogekhaaW.PrintLast YtjbpljcfogekhaaW.PrintMore
structure Ready (s : ByteArray) (l : List S36) (ds : List Int) : Prop where
 dec : decAll s = some l
 size : ¬ (s.size < 1 ∨ 192 < s.size)
 ok : okS l = true
 found : Core.Found l ds
 good : ¬ Bad l
theorem readS_some {s : ByteArray} {l : List S36} {ds : List Int} (h : readS s = some (l, ds)) : Ready s l ds := by
 unfold readS at h
 cases hd : decAll s with
 | none => rw [hd] at h; cases h
 | some l' =>
  rw [hd] at h
  simp only at h
  split at h
  ·cases h
  ·rename_i hsz
   split at h
   ·rename_i hok
    have hlp := decAll_pos hd (by omega)
    have hln := decAll_length hd
    obtain ⟨r, hr, hR⟩ := look_right hok hlp 400 (by omega)
    rw [hr] at h
    cases r with
    | none => cases h
    | some ds' =>
     simp only [Option.some.injEq, Prod.mk.injEq] at h
     obtain ⟨rfl, rfl⟩ := h
     cases hR with
     | yes F hB => exact ⟨hd, hsz, hok, F, hB⟩
   ·cases h
theorem depths_none' {s : ByteArray} (h : readS s = none) : depthsS s = ([], 8) := by unfold depthsS; rw [h]; rfl
theorem depthsS_some {s : ByteArray} {l : List S36} {ds : List Int} (h : readS s = some (l, ds)) : depthsS s = (ds, 0) := by unfold depthsS; rw [h]; rfl
theorem RDec_ev {s : ByteArray} (hs : s.size ≤ 1048576) {l : List S36} (h : decAll s = some l) : Ev (fun k => janusref05_Decode.f k s) (l, 0) := by
 have := RDecode_evL s (by omega)
 rw [h] at this
 simpa [decRes] using this
end Go.Proofs.Ytjbpljcfogekhaa.Core
namespace Go.Proofs.Ytjbpljcfogekhaa.Core
open Go.RowKit Ytjbpljcfogekhaa.Q YtjbpljcfogekhaaW.PrintWords YtjbpljcfogekhaaW.PrintLast YtjbpljcfogekhaaW.PrintMore
abbrev StepT := Int × List Int × Int × Int × Int × Int
def doS (op arg npc pc : Int) (st bs : List Int) : List Int → StepT
 | [] => if op = 21 then (wrap64 arg, bs, 0, 0, 0, 0) else (npc, bs ++ [arg], 0, 0, 0, 0)
 | [x0] =>
  if op = 2 then (npc, bs ++ [x0, x0], 0, 0, 0, 0) else if op = 3 then (npc, bs, 0, 0, 0, 0) else if op = 18 then (npc, bs ++ [if x0 = 0 then 1 else 0], 0, 0, 0, 0)
  else if op = 19 then (npc, bs, 1, x0, 0, 0) else (if x0 = 0 then wrap64 arg else npc, bs, 0, 0, 0, 0)
 | x0 :: x1 :: _ =>
  if op = 4 then (npc, bs ++ [x1, x0], 0, 0, 0, 0) else if op = 5 then (npc, bs ++ [x0, x1, x0], 0, 0, 0, 0) else if op = 20 then (npc, bs, 2, x1, x0, 0)
  else if binOk op x1 = true then (npc, bs ++ [binY op x0 x1], 0, 0, 0, 0) else (pc, st, 4, 0, 0, 0)
def stepS (s : ByteArray) (pc : Int) (st : List Int) : StepT :=
 if (oneS s pc).2.2.2.2 ≠ 0 then (pc, st, 4, 0, 0, 0)
 else if (oneS s pc).1 = 23 then (pc, st, 3, 0, 0, wrap64 (oneS s pc).2.1)
 else if (st.length : Int) - (movesS (oneS s pc).1 (oneS s pc).2.1).1 < 0 ∨ 32 < (st.length : Int) - (movesS (oneS s pc).1 (oneS s pc).2.1).1 + (movesS (oneS s pc).1 (oneS s pc).2.1).2 then (pc, st, 4, 0, 0, 0)
 else doS (oneS s pc).1 (oneS s pc).2.1 (wrap64 (pc + (oneS s pc).2.2.2.1)) pc st (st.take (st.length - (movesS (oneS s pc).1 (oneS s pc).2.1).1.toNat)) (st.drop (st.length - (movesS (oneS s pc).1 (oneS s pc).2.1).1.toNat))
theorem oneS_ok {s : ByteArray} {pc : Int} (h : (oneS s pc).2.2.2.2 = 0) : 0 ≤ pc ∧ pc < s.size ∧ 0 ≤ (oneS s pc).1 ∧ (oneS s pc).1 ≤ 23 ∧ 0 ≤ opw (oneS s pc).1 ∧ 0 ≤ (oneS s pc).2.1 ∧ (oneS s pc).2.1 < 256 ^ (opw (oneS s pc).1).toNat ∧ (oneS s pc).2.2.1 = pc ∧ (oneS s pc).2.2.2.1 = 1 + opw (oneS s pc).1 ∧ pc + (oneS s pc).2.2.2.1 ≤ s.size := by
 unfold oneS at h ⊢
 split at h
 ·simp at h
 ·rename_i h1
  split at h
  ·simp at h
  ·rename_i h2
   rw [if_neg h1, if_neg h2]
   have ho := opw_op (op := bt s pc) (by omega)
   have hr := leN_range _ (bytesAt_range s (opw (bt s pc)).toNat (pc + 1))
   rw [bytesAt_length] at hr
   refine ⟨by omega, by omega, ho.1, ho.2, (by show 0 ≤ opw (bt s pc); omega), hr.1, hr.2, rfl, rfl, ?_⟩
   show pc + (1 + opw (bt s pc)) ≤ (s.size : Int)
   omega
theorem moves_op {op arg : Int} (h0 : 0 ≤ op) (h1 : op ≤ 22) : (movesS op arg = (0, 1) ∧ (op = 0 ∨ op = 1)) ∨ (movesS op arg = (1, 2) ∧ op = 2) ∨ (movesS op arg = (1, 0) ∧ (op = 3 ∨ op = 22)) ∨ (movesS op arg = (2, 2) ∧ op = 4) ∨ (movesS op arg = (2, 3) ∧ op = 5) ∨
  (movesS op arg = (1, 1) ∧ (op = 18 ∨ op = 19)) ∨ (movesS op arg = (2, 0) ∧ op = 20) ∨ (movesS op arg = (0, 0) ∧ op = 21) ∨ (movesS op arg = (2, 1) ∧ 6 ≤ op ∧ op ≤ 17) := by
 have h : op = 0 ∨ op = 1 ∨ op = 2 ∨ op = 3 ∨ op = 4 ∨ op = 5 ∨ (6 ≤ op ∧ op ≤ 17) ∨ op = 18 ∨ op = 19 ∨ op = 20 ∨ op = 21 ∨ op = 22 := by omega
 rcases h with rfl | rfl | rfl | rfl | rfl | rfl | h | rfl | rfl | rfl | rfl | rfl
 ·exact .inl ⟨rfl, .inl rfl⟩
 ·exact .inl ⟨rfl, .inr rfl⟩
 ·exact .inr (.inl ⟨rfl, rfl⟩)
 ·exact .inr (.inr (.inl ⟨rfl, .inl rfl⟩))
 ·exact .inr (.inr (.inr (.inl ⟨rfl, rfl⟩)))
 ·exact .inr (.inr (.inr (.inr (.inl ⟨rfl, rfl⟩))))
 ·refine .inr (.inr (.inr (.inr (.inr (.inr (.inr (.inr ⟨?_, h⟩)))))))
  unfold movesS
  rw [if_neg (by omega), if_neg (by omega), if_neg (by omega), if_neg (by omega), if_neg (by omega), if_neg (by omega), if_neg (by omega), if_neg (by omega), if_neg (by omega), if_neg (by omega), if_neg (by omega), if_neg (by omega), if_pos h.1, if_pos h.2]
 ·exact .inr (.inr (.inr (.inr (.inr (.inl ⟨rfl, .inl rfl⟩)))))
 ·exact .inr (.inr (.inr (.inr (.inr (.inl ⟨rfl, .inr rfl⟩)))))
 ·exact .inr (.inr (.inr (.inr (.inr (.inr (.inl ⟨rfl, rfl⟩))))))
 ·exact .inr (.inr (.inr (.inr (.inr (.inr (.inr (.inl ⟨rfl, rfl⟩)))))))
 ·exact .inr (.inr (.inl ⟨rfl, .inr rfl⟩))
end Go.Proofs.Ytjbpljcfogekhaa.Core
namespace Go.Proofs.Ytjbpljcfogekhaa.Q
open Go.RowKit YtjbpljcfogekhaaW.PrintWords YtjbpljcfogekhaaW.PrintLast YtjbpljcfogekhaaW.PrintMore
set_option maxHeartbeats 2000000 in
set_option maxRecDepth 100000 in
theorem step_sys (k : Nat) (s : ByteArray) (pc : Int) (A : Option Addr) (c : Nat) (st : List Int) (t2 t3 t4 : Int) (w : World) (hr : Kd.C (Kd.int .u64) w A st.length st) (hc : st.length ≤ c) (hl : st.length < 17592186044416)
  (h : code_One.f k s pc = some (23, t2, t3, t4, 0)) :
  Calls Try.prog 45 #[.string s, .agg #[.int .i64 pc, .slice A st.length c]] w fun e w' => ∃ v1_ : Value, e = .returned (.tuple #[.agg #[.int .i64 pc, v1_], .agg #[.int .i64 3, .int .u64 0, .int .u64 0, .int .i64 (wrap64 t2)]]) ∧ Kd.R (Kd.int .u64) 34 w' w.heap.size (fun _ => True) v1_ st ∧ Below w.heap.size w w' := by
 have hu59 := Try.underlying59
 have hu61 := Try.underlying61
 have hu36 := Try.underlying36
 have HR := Aside0.mk hr
 have HC := Aside0.mk hc
 have HL := Aside0.mk hl
 have HO := Aside0.mk h
 clear hr hc hl h
 go_enter Try.func45, Try.ntmps45
 go_wp2_with (first
  | (go_at_call 20; refine (code_One.calls k s pc 23 t2 t3 t4 0 _ HO.out).mono ?_; rintro e w4 ⟨rfl, hb⟩; obtain ⟨b0, b1, b2, hB, hz4⟩ := three_blocks hb; have z0 : w.heap.size < w4.heap.size := (by omega); have z1 : w.heap.size + 1 < w4.heap.size := (by omega); have z2 : w.heap.size + 1 + 1 < w4.heap.size := (by omega); clear hz4; obtain ⟨⟨c00, c01⟩, f00, f01⟩ := cells2 b0; obtain ⟨⟨c10, c11⟩, f10, f11⟩ := cells2 b1; obtain ⟨⟨c20, c21, c22, c23⟩, f20, f21, f22, f23⟩ := cells4 b2; have B0 := Aside0.mk b0; have B1 := Aside0.mk b1; have B2 := Aside0.mk b2; have HB := Aside0.mk hB; clear b0 b1 b2 hB hb))
 go_region_with (go_at_call 46; refine (vm_own.calls pc A c st pc st _ (Kd.C_below HR.out (by repeat (first | (with_reducible exact HB.out) | (with_reducible apply below_alloc) | (with_reducible apply below_drew)))) HC.out (own_is _ _ HL.out)).mono ?_; rintro e w5 ⟨v1, rfl, hR, hb⟩; obtain ⟨A5, c5, rfl⟩ := Kd.R_slice hR; have b1 := blk_below (blk_drew (blk_alloc B1.out _)) hb; have b2 := blk_below (blk_drew (blk_alloc B2.out _)) hb; have b6 := blk_below (blk_drew (blk_new w4 _)) hb; have HB5 := Aside0.mk (below_step (below_drew (below_alloc HB.out _)) hb); clear c00 c01 f00 f01 c10 c11 f10 f11 c20 c21 c22 c23 f20 f21 f22 f23; obtain ⟨⟨c10, c11⟩, f10, f11⟩ := cells2 b1; obtain ⟨⟨c20, c21, c22, c23⟩, f20, f21, f22, f23⟩ := cells4 b2; obtain ⟨⟨c60, c61, c62, c63⟩, f60, f61, f62, f63⟩ := cells4 b6; have HR5 := Aside0.mk hR; clear b1 b2 b6 hR hb)
 all_goals
  go_wp2
  refine bodyPost_ret (v := .tuple #[.agg #[.int .i64 pc, .slice A5 st.length c5], .agg #[.int .i64 3, .int .u64 0, .int .u64 0, .int .i64 (wrap64 t2)]]) (by simp [results, Try.results45, go_sem, c10, c11, c20, c21, c22, c23, i64_w]) rfl ⟨_, rfl, ?_, ?_⟩
  ·have h1 := Kd.R_mono (ok' := fun k => k ≠ w.heap.size + 1 ∧ k ≠ w.heap.size + 1 + 1) (Kd.R_bound HR5.out) (fun k hk => by have := hk.2.1; simp at this; omega)
   have h2 := Kd.R_lower h1 (base' := w.heap.size) (by simp; omega)
   refine Kd.R_mono (ok := fun k => k ≠ w.heap.size + 1 ∧ k ≠ w.heap.size + 1 + 1) ?_ (fun _ _ => trivial)
   iterate 4 (with_reducible refine Kd.R_far ?_ (fun k hk => hk.2) _)
   iterate 2 (with_reducible refine Kd.R_far ?_ (fun k hk => hk.1) _)
   exact h2
  ·iterate 4 (with_reducible refine below_set ?_ (Nat.le_succ_of_le (Nat.le_succ _)))
   iterate 2 (with_reducible refine below_set ?_ (Nat.le_succ _))
   exact HB5.out
end Go.Proofs.Ytjbpljcfogekhaa.Q
namespace Go.Proofs.Ytjbpljcfogekhaa.Q
open Go.RowKit YtjbpljcfogekhaaW.PrintWords YtjbpljcfogekhaaW.PrintLast YtjbpljcfogekhaaW.PrintMore
set_option maxHeartbeats 2000000 in
set_option maxRecDepth 100000 in
theorem step_fault (k : Nat) (s : ByteArray) (pc : Int) (A : Option Addr) (c : Nat) (st : List Int) (op t2 t3 t4 p q : Int) (w : World) (hr : Kd.C (Kd.int .u64) w A st.length st) (hc : st.length ≤ c) (hl : st.length < 1000000)
  (h : code_One.f k s pc = some (op, t2, t3, t4, 0)) (hop : (op == 23) = false) (h2 : code_Moves.f k op t2 t3 t4 = some (p, q)) (hp0 : 0 ≤ p) (hp1 : p ≤ 10) (hq0 : 0 ≤ q) (hq1 : q ≤ 10) (hbad : (st.length : Int) - p < 0 ∨ 0 ≤ (st.length : Int) - p ∧ 32 < (st.length : Int) - p + q) :
  Calls Try.prog 45 #[.string s, .agg #[.int .i64 pc, .slice A st.length c]] w fun e w' => ∃ v1_ : Value, e = .returned (.tuple #[.agg #[.int .i64 pc, v1_], .agg #[.int .i64 4, .int .u64 0, .int .u64 0, .int .i64 0]]) ∧ Kd.R (Kd.int .u64) 34 w' w.heap.size (fun _ => True) v1_ st ∧ Below w.heap.size w w' := by
 have hu59 := Try.underlying59
 have hu61 := Try.underlying61
 have hu36 := Try.underlying36
 have HR := Aside0.mk hr
 have HC := Aside0.mk hc
 have HL := Aside0.mk (show st.length < 17592186044416 by omega)
 have HO := Aside0.mk h
 have HM := Aside0.mk h2
 clear hr hc h h2
 rcases hbad with hbad | ⟨hbad0, hbad⟩
 all_goals
  go_enter Try.func45, Try.ntmps45
  go_wp2_with (first
   | (go_at_call 20; refine (code_One.calls k s pc op t2 t3 t4 0 _ HO.out).mono ?_; rintro e w4 ⟨rfl, hb⟩; obtain ⟨b0, b1, b2, hB, hz4⟩ := three_blocks hb; have z0 : w.heap.size < w4.heap.size := (by omega); have z1 : w.heap.size + 1 < w4.heap.size := (by omega); have z2 : w.heap.size + 1 + 1 < w4.heap.size := (by omega); clear hz4; obtain ⟨⟨c00, c01⟩, f00, f01⟩ := cells2 b0; obtain ⟨⟨c10, c11⟩, f10, f11⟩ := cells2 b1; obtain ⟨⟨c20, c21, c22, c23⟩, f20, f21, f22, f23⟩ := cells4 b2; have B0 := Aside0.mk b0; have B1 := Aside0.mk b1; have B2 := Aside0.mk b2; have HB := Aside0.mk hB; clear b0 b1 b2 hB hb)
   | (go_at_call 23; refine (code_Moves.calls k op t2 t3 t4 p q _ HM.out).mono ?_; rintro e w5 ⟨rfl, hb⟩; have b0 := blk_below (blk_alloc B0.out _) hb; have b1 := blk_below (blk_alloc B1.out _) hb; have b2 := blk_below (blk_alloc B2.out _) hb; have b6 := blk_below (blk_new w4 _) hb; have HB5 := Aside0.mk (below_step (below_alloc HB.out _) hb); have y6 : w4.heap.size < w5.heap.size := (blk_lt b6); have y0 : w.heap.size < w5.heap.size := (blk_lt b0); have y1 : w.heap.size + 1 < w5.heap.size := (blk_lt b1); have y2 : w.heap.size + 1 + 1 < w5.heap.size := (blk_lt b2); clear c00 c01 f00 f01 c10 c11 f10 f11 c20 c21 c22 c23 f20 f21 f22 f23; obtain ⟨⟨c00, c01⟩, f00, f01⟩ := cells2 b0; obtain ⟨⟨c10, c11⟩, f10, f11⟩ := cells2 b1; obtain ⟨⟨c20, c21, c22, c23⟩, f20, f21, f22, f23⟩ := cells4 b2; obtain ⟨⟨c60, c61, c62, c63⟩, f60, f61, f62, f63⟩ := cells4 b6; have B0' := Aside0.mk b0; have B1' := Aside0.mk b1; have B2' := Aside0.mk b2; have B6' := Aside0.mk b6; clear b0 b1 b2 b6 hb)
   | (go_at_call 46; refine (vm_own.calls pc A c st pc st _ (Kd.C_below HR.out HB5.out) HC.out (own_is _ _ HL.out)).mono ?_; rintro e w6 ⟨v1, rfl, hR, hb⟩; obtain ⟨A5, c5, rfl⟩ := Kd.R_slice hR; have b1 := blk_below B1'.out hb; have b2 := blk_below B2'.out hb; have HB6 := Aside0.mk (below_step HB5.out hb); clear c00 c01 f00 f01 c10 c11 f10 f11 c20 c21 c22 c23 f20 f21 f22 f23 c60 c61 c62 c63 f60 f61 f62 f63; obtain ⟨⟨c10, c11⟩, f10, f11⟩ := cells2 b1; obtain ⟨⟨c20, c21, c22, c23⟩, f20, f21, f22, f23⟩ := cells4 b2; have HR5 := Aside0.mk hR; clear b1 b2 hR hb))
  refine bodyPost_ret (v := .tuple #[.agg #[.int .i64 pc, .slice A5 st.length c5], .agg #[.int .i64 4, .int .u64 0, .int .u64 0, .int .i64 0]]) (by simp [results, Try.results45, go_sem, c10, c11, c20, c21, c22, c23]) rfl ⟨_, rfl, ?_, ?_⟩
  ·have h1 := Kd.R_mono (ok' := fun k => k ≠ w.heap.size + 1 ∧ k ≠ w.heap.size + 1 + 1) (Kd.R_bound HR5.out) (fun k hk => by have := hk.2.1; omega)
   have h2 := Kd.R_lower h1 (base' := w.heap.size) (by omega)
   refine Kd.R_mono (ok := fun k => k ≠ w.heap.size + 1 ∧ k ≠ w.heap.size + 1 + 1) ?_ (fun _ _ => trivial)
   iterate 4 (with_reducible refine Kd.R_far ?_ (fun k hk => hk.2) _)
   iterate 2 (with_reducible refine Kd.R_far ?_ (fun k hk => hk.1) _)
   exact h2
  ·iterate 4 (with_reducible refine below_set ?_ (Nat.le_succ_of_le (Nat.le_succ _)))
   iterate 2 (with_reducible refine below_set ?_ (Nat.le_succ _))
   exact HB6.out
end Go.Proofs.Ytjbpljcfogekhaa.Q
namespace Go.Proofs.Ytjbpljcfogekhaa.Q
open Go.RowKit YtjbpljcfogekhaaW.PrintWords YtjbpljcfogekhaaW.PrintLast YtjbpljcfogekhaaW.PrintMore
set_option maxHeartbeats 4000000 in
set_option maxRecDepth 100000 in
theorem step_drop (k : Nat) (s : ByteArray) (pc : Int) (a : Addr) (c : Nat) (bs : List Int) (x0 t2 t3 t4 q : Int) (w : World) (hr : Kd.C (Kd.int .u64) w (some a) (bs.length + 1) (bs ++ [x0])) (hc : bs.length + 1 ≤ c) (hl : bs.length < 1000000)
  (h : code_One.f k s pc = some (3, t2, t3, t4, 0)) (h2 : code_Moves.f k 3 t2 t3 t4 = some (1, q)) (hq0 : 0 ≤ q) (hq1 : q ≤ 10) (hfit : (bs.length : Int) + q ≤ 32) :
  Calls Try.prog 45 #[.string s, .agg #[.int .i64 pc, .slice (some a) (bs.length + 1) c]] w fun e w' => ∃ v1_ : Value, e = .returned (.tuple #[.agg #[.int .i64 (wrap64 (t3 + t4)), v1_], .agg #[.int .i64 0, .int .u64 0, .int .u64 0, .int .i64 0]]) ∧ Kd.R (Kd.int .u64) 34 w' w.heap.size (fun _ => True) v1_ (bs) ∧ Below w.heap.size w w' := by
 have hu59 := Try.underlying59
 have hu61 := Try.underlying61
 have hu36 := Try.underlying36
 have HO := Aside0.mk h
 have HM := Aside0.mk h2
 have HR := Aside0.mk hr
 have HRb := Aside0.mk (row_front hr)
 have HL := Aside0.mk (show bs.length < 17592186044416 by omega)
 have hcb : (bs.length : Int) ≤ (c : Int) := by omega
 have hcb0 : (0 : Int) ≤ (bs.length : Int) := by omega
 clear h h2 hr
 go_enter Try.func45, Try.ntmps45
 go_wp2_with (first
  | (go_at_call 20; refine (code_One.calls k s pc 3 t2 t3 t4 0 _ HO.out).mono ?_; rintro e w4 ⟨rfl, hb⟩; obtain ⟨b0, b1, b2, hB, hz4⟩ := three_blocks hb; have z0 : w.heap.size < w4.heap.size := (by omega); have z1 : w.heap.size + 1 < w4.heap.size := (by omega); have z2 : w.heap.size + 1 + 1 < w4.heap.size := (by omega); clear hz4; obtain ⟨⟨c00, c01⟩, f00, f01⟩ := cells2 b0; obtain ⟨⟨c10, c11⟩, f10, f11⟩ := cells2 b1; obtain ⟨⟨c20, c21, c22, c23⟩, f20, f21, f22, f23⟩ := cells4 b2; have B0 := Aside0.mk b0; have B1 := Aside0.mk b1; have B2 := Aside0.mk b2; have HB := Aside0.mk hB; clear b0 b1 b2 hB hb)
  | (go_at_call 23; refine (code_Moves.calls k 3 t2 t3 t4 1 q _ HM.out).mono ?_; rintro e w5 ⟨rfl, hb⟩; have b0 := blk_below (blk_alloc B0.out _) hb; have b1 := blk_below (blk_alloc B1.out _) hb; have b2 := blk_below (blk_alloc B2.out _) hb; have b6 := blk_below (blk_new w4 _) hb; have HB5 := Aside0.mk (below_step (below_alloc HB.out _) hb); have y6 : w4.heap.size < w5.heap.size := (blk_lt b6); have y0 : w.heap.size < w5.heap.size := (blk_lt b0); have y1 : w.heap.size + 1 < w5.heap.size := (blk_lt b1); have y2 : w.heap.size + 1 + 1 < w5.heap.size := (blk_lt b2); have n6 : ¬ w4.heap.size = w5.heap.size := (Nat.ne_of_lt y6); have n0 : ¬ w.heap.size = w5.heap.size := (Nat.ne_of_lt y0); have n1 : ¬ w.heap.size + 1 = w5.heap.size := (Nat.ne_of_lt y1); have n2 : ¬ w.heap.size + 1 + 1 = w5.heap.size := (Nat.ne_of_lt y2); have m6 : ¬ w5.heap.size = w4.heap.size := (Nat.ne_of_gt y6); have m0 : ¬ w5.heap.size = w.heap.size := (Nat.ne_of_gt y0); have m1 : ¬ w5.heap.size = w.heap.size + 1 := (Nat.ne_of_gt y1); have m2 : ¬ w5.heap.size = w.heap.size + 1 + 1 := (Nat.ne_of_gt y2); clear c00 c01 f00 f01 c10 c11 f10 f11 c20 c21 c22 c23 f20 f21 f22 f23; obtain ⟨⟨c00, c01⟩, f00, f01⟩ := cells2 b0; obtain ⟨⟨c10, c11⟩, f10, f11⟩ := cells2 b1; obtain ⟨⟨c20, c21, c22, c23⟩, f20, f21, f22, f23⟩ := cells4 b2; obtain ⟨⟨c60, c61, c62, c63⟩, f60, f61, f62, f63⟩ := cells4 b6; have B0' := Aside0.mk b0; have B1' := Aside0.mk b1; have B2' := Aside0.mk b2; have B6' := Aside0.mk b6; clear b0 b1 b2 b6 hb))
 go_cut [11] (fun v11 wc => ∃ (g : Nat) (vv : Value), v11 = .pointer (some ⟨g, 0, none⟩) ∧ Aside0 (StepMid w wc w4.heap.size g pc (some a) (bs.length + 1) c 3 t2 t3 t4 (wrap64 (t3 + t4)) vv bs))
 case first =>
  go_region_held3 (fun w' => w'.cell? ⟨w4.heap.size, 2, none⟩ = some (.int .i64 t3) ∧ w'.cell? ⟨w4.heap.size, 3, none⟩ = some (.int .i64 t4) ∧ w'.cell? ⟨w.heap.size, 1, none⟩ = some (.slice (some a) (bs.length + 1) c))
   (first | go_keep | ((try dsimp only); (repeat' apply And.intro); all_goals go_keep))
   ((go_at_call 47; go_must (refine (clone_row (some a) c bs _ (Kd.C_below HRb.out (by repeat (first | (with_reducible exact HB5.out) | (with_reducible apply below_alloc) | (with_reducible apply below_drew)))) (by omega) HL.out).mono ?_; rintro e w6 ⟨vv, rfl, hR, hb⟩; obtain ⟨A5, c5, rfl⟩ := Kd.R_slice hR; have hB56 : Below w5.heap.size w5 w6 := (by refine below_step ?_ hb; repeat (first | (with_reducible exact Below.refl _ _) | (with_reducible apply below_alloc) | (with_reducible apply below_drew))); have b0 := blk_below B0'.out hB56; have b1 := blk_below B1'.out hB56; have b2 := blk_below B2'.out hB56; have b6 := blk_below B6'.out hB56; have v0 := blk_lt b0; have v1 := blk_lt b1; have v2 := blk_lt b2; have v6 := blk_lt b6; clear c00 c01 f00 f01 c10 c11 f10 f11 c20 c21 c22 c23 f20 f21 f22 f23 c60 c61 c62 c63 f60 f61 f62 f63; obtain ⟨⟨c00, c01⟩, f00, f01⟩ := cells2 b0; obtain ⟨⟨c10, c11⟩, f10, f11⟩ := cells2 b1; obtain ⟨⟨c20, c21, c22, c23⟩, f20, f21, f22, f23⟩ := cells4 b2; obtain ⟨⟨c60, c61, c62, c63⟩, f60, f61, f62, f63⟩ := cells4 b6; have E0 := Aside0.mk b0; have E1 := Aside0.mk b1; have E2 := Aside0.mk b2; have E6 := Aside0.mk b6; clear b0 b1 b2 b6; have ER := Aside0.mk hR; have EB := Aside0.mk hB56; (try (have b11 : w6.heap[w5.heap.size]? = some (.cells #[.int .i64 0, .slice none 0 0] 59 (0, 0)) := (by with_reducible exact blk_below (blk_drew (blk_new w5 _)) hb); obtain ⟨⟨d0, d1⟩, e0, e1⟩ := cells2 b11; have y11 := blk_lt b11; have E11 := Aside0.mk b11; clear b11)); clear hR)))
  all_goals go_wp2
  all_goals go_meet
  all_goals simp only [i64_w]
  case rel => exact ⟨_, _, rfl, ⟨mid_new E0.out E1.out E2.out E6.out ER.out (by simp; omega) HB5.out EB.out (by omega)⟩⟩
  case rel => exact ⟨_, _, rfl, ⟨mid_old E0.out E1.out E2.out E6.out E11.out ER.out (by simp) HB5.out EB.out (by omega) (by omega)⟩⟩
 case rest =>
  obtain ⟨g, vv, rfl, HC⟩ := hcut
  have m := HC.out
  obtain ⟨A5, c5, rfl⟩ := Kd.R_slice m.row
  clear c00 c01 f00 f01 c10 c11 f10 f11 c20 c21 c22 c23 f20 f21 f22 f23 c60 c61 c62 c63 f60 f61 f62 f63 y6 y0 y1 y2 n6 n0 n1 n2 m6 m0 m1 m2 z0 z1 z2 HB HB5 B0 B1 B2 B0' B1' B2' B6'
  obtain ⟨⟨c00, c01⟩, f00, f01⟩ := cells2 m.b0
  obtain ⟨⟨c10, c11⟩, f10, f11⟩ := cells2 m.b1
  obtain ⟨⟨c20, c21, c22, c23⟩, f20, f21, f22, f23⟩ := cells4 m.b2
  obtain ⟨⟨c60, c61, c62, c63⟩, f60, f61, f62, f63⟩ := cells4 m.b6
  obtain ⟨⟨cg0, cg1⟩, fg0, fg1⟩ := cells2 m.bg
  have hx0 : wc.cell? (a.add bs.length) = some (.int .u64 x0) := row_at0 (Kd.C_below HR.out m.bel)
  have LB := m.bel.size
  have L6 := m.n6
  have LG := m.ng
  clear m
  go_wp2
  refine bodyPost_ret (v := .tuple #[.agg #[.int .i64 (wrap64 (t3 + t4)), .slice A5 bs.length c5], .agg #[.int .i64 0, .int .u64 0, .int .u64 0, .int .i64 0]]) (by simp [results, Try.results45, go_sem, c10, c11, c20, c21, c22, c23]) rfl ⟨_, rfl, end_row HC.out.row HC.out.b1 HC.out.b2 _ _ _ _ _ _, end_below HC.out.bel _ _ _ _ _ _⟩
end Go.Proofs.Ytjbpljcfogekhaa.Q
namespace Go.Proofs.Ytjbpljcfogekhaa.Q
open Go.RowKit YtjbpljcfogekhaaW.PrintWords YtjbpljcfogekhaaW.PrintLast YtjbpljcfogekhaaW.PrintMore
structure StepOut (w w' : World) (g : Nat) (npc : Int) (v1 : Value) (xs : List Int) : Prop where
 b1 : w'.heap[w.heap.size + 1]? = some (.cells #[.int .i64 0, .slice none 0 0] 59 (0, 0))
 b2 : w'.heap[w.heap.size + 1 + 1]? = some (.cells #[.int .i64 0, .int .u64 0, .int .u64 0, .int .i64 0] 61 (0, 0))
 bg : w'.heap[g]? = some (.cells #[.int .i64 npc, v1] 59 (0, 0))
 row : Kd.R (Kd.int .u64) 34 w' w.heap.size (fun _ => True) v1 xs
 bel : Below w.heap.size w w'
 ng : w.heap.size + 1 + 1 < g
theorem push_mid {w wc : World} {g6 g : Nat} {pc op t2 t3 t4 npc : Int} {A : Option Addr} {len c : Nat} {vv : Value} {bs : List Int} (m : StepMid w wc g6 g pc A len c op t2 t3 t4 npc vv bs) (W : World) (hW : Below wc.heap.size wc W)
  (ys : List Int) (A' : Option Addr) (c' : Nat) (hy : Kd.C (Kd.int .u64) W A' ys.length ys) (hl : bs.length + ys.length < 1000000) :
  Calls Try.prog 50 #[.slice A' ys.length c', .pointer (some ⟨g, 0, none⟩)] W fun e w' => e = .returned (.tuple #[]) ∧ ∃ v1, StepOut w w' g npc v1 (bs ++ ys) := by
 have hg := blk_below m.bg hW
 have h1 := blk_below m.b1 hW
 have h2 := blk_below m.b2 hW
 have hr := Kd.R_below m.row hW
 have hb := below_step m.bel hW
 refine (push_any g w.heap.size npc vv bs ys A' c' w W hg hr hy hb hb.size hl).mono ?_
 rintro e w' ⟨rfl, v1, hg', hR', ho, ht, hu, hs, hk⟩
 have n6 := m.n6
 have ng := m.ng
 refine ⟨rfl, v1, ?_, ?_, hg', hR', ?_, by omega⟩
 ·rw [hk _ (blk_lt h1) (by omega) (Kd.R_ne hr h1 (by decide))]; exact h1
 ·rw [hk _ (blk_lt h2) (by omega) (Kd.R_ne hr h2 (by decide))]; exact h2
 ·refine ⟨ho.trans hb.os, ht.trans hb.tape, hu.trans hb.output, Nat.le_trans hb.size hs, fun i hi => ?_⟩
  rw [hk i (Nat.lt_of_lt_of_le hi hb.size) (by omega) ?_]
  ·exact hb.block i hi
  ·intro he
   have := (Kd.R_bound hr).1 i he.symm
   omega
theorem row_at1f {w : World} {a : Addr} {n : Nat} {bs xs : List Int} {x0 x1 : Int} (h : Kd.C (Kd.int .u64) w (some a) n (bs ++ x0 :: x1 :: xs)) : w.cell? ⟨(a.add bs.length).block, (a.add bs.length).off + 1, none⟩ = some (.int .u64 x1) := by
 rw [← add_field _ _ 1 (by omega)]
 exact row_at1 h
theorem set_far {a p : Addr} (h : a.block ≠ p.block) : ∀ (W : World) (v : Value), (W.setCell p v).cell? a = W.cell? a := fun W v => World.cell?_of_block (w := W) (Below.heap_setCell W p v a.block h)
theorem mid_row {w wc : World} {g6 g : Nat} {pc op t2 t3 t4 npc : Int} {A : Option Addr} {len c : Nat} {vv : Value} {bs : List Int} (m : StepMid w wc g6 g pc A len c op t2 t3 t4 npc vv bs) (u : Value) : Kd.R (Kd.int .u64) 34 (wc.setCell ⟨g, 0, none⟩ u) w.heap.size (fun _ => True) vv bs :=
 Kd.R_mono (Kd.R_far (p := ⟨g, 0, none⟩) (Kd.R_mono (ok' := fun k => k ≠ g) (Kd.R_tight rfl m.row) (fun k hk e => Kd.R_ne m.row m.bg (by decide) (e ▸ hk))) (fun _ hk => hk) u) (fun _ _ => trivial)
theorem mid_b1 {w wc : World} {g6 g : Nat} {pc op t2 t3 t4 npc : Int} {A : Option Addr} {len c : Nat} {vv : Value} {bs : List Int} (m : StepMid w wc g6 g pc A len c op t2 t3 t4 npc vv bs) (u : Value) : (wc.setCell ⟨g, 0, none⟩ u).heap[w.heap.size + 1]? = some (.cells #[.int .i64 0, .slice none 0 0] 59 (0, 0)) := by
 have := m.n6; have := m.ng
 rw [Below.heap_setCell _ _ _ _ (by show w.heap.size + 1 ≠ g; omega)]; exact m.b1
theorem mid_b2 {w wc : World} {g6 g : Nat} {pc op t2 t3 t4 npc : Int} {A : Option Addr} {len c : Nat} {vv : Value} {bs : List Int} (m : StepMid w wc g6 g pc A len c op t2 t3 t4 npc vv bs) (u : Value) : (wc.setCell ⟨g, 0, none⟩ u).heap[w.heap.size + 1 + 1]? = some (.cells #[.int .i64 0, .int .u64 0, .int .u64 0, .int .i64 0] 61 (0, 0)) := by
 have := m.n6; have := m.ng
 rw [Below.heap_setCell _ _ _ _ (by show w.heap.size + 1 + 1 ≠ g; omega)]; exact m.b2
theorem mid_bel {w wc : World} {g6 g : Nat} {pc op t2 t3 t4 npc : Int} {A : Option Addr} {len c : Nat} {vv : Value} {bs : List Int} (m : StepMid w wc g6 g pc A len c op t2 t3 t4 npc vv bs) (u : Value) : Below w.heap.size w (wc.setCell ⟨g, 0, none⟩ u) := by
 have := m.n6; have := m.ng
 exact below_set m.bel (by omega)
theorem own_n (n : Nat) (l : List Int) (hn : l.length = n) (pc : Int) (A : Option Addr) (c : Nat) (w : World) (hr : Kd.C (Kd.int .u64) w A n l) (hc : n ≤ c) (hl : n < 17592186044416) :
  Calls Try.prog 46 #[.agg #[.int .i64 pc, .slice A n c]] w fun e w' => ∃ v1_ : Value, e = .returned (.agg #[.int .i64 pc, v1_]) ∧ Kd.R (Kd.int .u64) 34 w' w.heap.size (fun _ => True) v1_ l ∧ Below w.heap.size w w' := by
 subst hn
 exact vm_own.calls pc A c l pc l w hr hc (own_is _ _ hl)
theorem lit_row {W : World} {gb : Nat} (l : List Int) (hl : l.length < 1000) (h : W.heap[gb]? = some (.cells (l.map (Value.int .u64)).toArray 34 (0, 0))) : Kd.C (Kd.int .u64) W (some ⟨gb, 0, none⟩) l.length l := by
 refine ⟨rfl, by omega, fun _ => ⟨_, rfl, fun j p hj => ⟨[.int .u64 p], rfl, rfl, fun i u hu => ?_⟩⟩⟩
 have hi : i = 0 := by have := (List.getElem?_eq_some_iff.1 hu).1; simpa using this
 subst hi
 simp only [List.getElem?_cons_zero, Option.some.injEq] at hu
 subst hu
 have e : (⟨gb, 0, none⟩ : Addr).add (j * (Kd.int .u64).sz + 0) = ⟨gb, j, none⟩ := by
  rw [add_plain]
  simp [Kd.int, Kd.scalar]
 rw [e, blk_cell h j]
 simp [hj]
end Go.Proofs.Ytjbpljcfogekhaa.Q
namespace Go.Proofs.Ytjbpljcfogekhaa.Q
open Go.RowKit YtjbpljcfogekhaaW.PrintWords YtjbpljcfogekhaaW.PrintLast YtjbpljcfogekhaaW.PrintMore
set_option maxHeartbeats 4000000 in
set_option maxRecDepth 100000 in
theorem step_not1 (k : Nat) (s : ByteArray) (pc : Int) (a : Addr) (c : Nat) (bs : List Int) (x0 t2 t3 t4 q : Int) (w : World) (hr : Kd.C (Kd.int .u64) w (some a) (bs.length + 1) (bs ++ [x0])) (hc : bs.length + 1 ≤ c) (hl : bs.length < 1000000)
  (h : code_One.f k s pc = some (18, t2, t3, t4, 0)) (h2 : code_Moves.f k 18 t2 t3 t4 = some (1, q)) (hq0 : 0 ≤ q) (hq1 : q ≤ 10) (hfit : (bs.length : Int) + q ≤ 32)
  (hx : (x0 == 0) = true) :
  Calls Try.prog 45 #[.string s, .agg #[.int .i64 pc, .slice (some a) (bs.length + 1) c]] w fun e w' => ∃ v1_ : Value, e = .returned (.tuple #[.agg #[.int .i64 (wrap64 (t3 + t4)), v1_], .agg #[.int .i64 0, .int .u64 0, .int .u64 0, .int .i64 0]]) ∧ Kd.R (Kd.int .u64) 34 w' w.heap.size (fun _ => True) v1_ (bs ++ [1]) ∧ Below w.heap.size w w' := by
 have hu59 := Try.underlying59
 have hu61 := Try.underlying61
 have hu36 := Try.underlying36
 have HO := Aside0.mk h
 have HM := Aside0.mk h2
 have HR := Aside0.mk hr
 have HRb := Aside0.mk (row_front hr)
 have HL := Aside0.mk (show bs.length < 17592186044416 by omega)
 have hcb : (bs.length : Int) ≤ (c : Int) := by omega
 have hcb0 : (0 : Int) ≤ (bs.length : Int) := by omega
 clear h h2 hr
 go_enter Try.func45, Try.ntmps45
 go_wp2_with (first
  | (go_at_call 20; refine (code_One.calls k s pc 18 t2 t3 t4 0 _ HO.out).mono ?_; rintro e w4 ⟨rfl, hb⟩; obtain ⟨b0, b1, b2, hB, hz4⟩ := three_blocks hb; have z0 : w.heap.size < w4.heap.size := (by omega); have z1 : w.heap.size + 1 < w4.heap.size := (by omega); have z2 : w.heap.size + 1 + 1 < w4.heap.size := (by omega); clear hz4; obtain ⟨⟨c00, c01⟩, f00, f01⟩ := cells2 b0; obtain ⟨⟨c10, c11⟩, f10, f11⟩ := cells2 b1; obtain ⟨⟨c20, c21, c22, c23⟩, f20, f21, f22, f23⟩ := cells4 b2; have B0 := Aside0.mk b0; have B1 := Aside0.mk b1; have B2 := Aside0.mk b2; have HB := Aside0.mk hB; clear b0 b1 b2 hB hb)
  | (go_at_call 23; refine (code_Moves.calls k 18 t2 t3 t4 1 q _ HM.out).mono ?_; rintro e w5 ⟨rfl, hb⟩; have b0 := blk_below (blk_alloc B0.out _) hb; have b1 := blk_below (blk_alloc B1.out _) hb; have b2 := blk_below (blk_alloc B2.out _) hb; have b6 := blk_below (blk_new w4 _) hb; have HB5 := Aside0.mk (below_step (below_alloc HB.out _) hb); have y6 : w4.heap.size < w5.heap.size := (blk_lt b6); have y0 : w.heap.size < w5.heap.size := (blk_lt b0); have y1 : w.heap.size + 1 < w5.heap.size := (blk_lt b1); have y2 : w.heap.size + 1 + 1 < w5.heap.size := (blk_lt b2); have n6 : ¬ w4.heap.size = w5.heap.size := (Nat.ne_of_lt y6); have n0 : ¬ w.heap.size = w5.heap.size := (Nat.ne_of_lt y0); have n1 : ¬ w.heap.size + 1 = w5.heap.size := (Nat.ne_of_lt y1); have n2 : ¬ w.heap.size + 1 + 1 = w5.heap.size := (Nat.ne_of_lt y2); have m6 : ¬ w5.heap.size = w4.heap.size := (Nat.ne_of_gt y6); have m0 : ¬ w5.heap.size = w.heap.size := (Nat.ne_of_gt y0); have m1 : ¬ w5.heap.size = w.heap.size + 1 := (Nat.ne_of_gt y1); have m2 : ¬ w5.heap.size = w.heap.size + 1 + 1 := (Nat.ne_of_gt y2); clear c00 c01 f00 f01 c10 c11 f10 f11 c20 c21 c22 c23 f20 f21 f22 f23; obtain ⟨⟨c00, c01⟩, f00, f01⟩ := cells2 b0; obtain ⟨⟨c10, c11⟩, f10, f11⟩ := cells2 b1; obtain ⟨⟨c20, c21, c22, c23⟩, f20, f21, f22, f23⟩ := cells4 b2; obtain ⟨⟨c60, c61, c62, c63⟩, f60, f61, f62, f63⟩ := cells4 b6; have B0' := Aside0.mk b0; have B1' := Aside0.mk b1; have B2' := Aside0.mk b2; have B6' := Aside0.mk b6; clear b0 b1 b2 b6 hb))
 go_cut [11] (fun v11 wc => ∃ (g : Nat) (vv : Value), v11 = .pointer (some ⟨g, 0, none⟩) ∧ Aside0 (StepMid w wc w4.heap.size g pc (some a) (bs.length + 1) c 18 t2 t3 t4 (wrap64 (t3 + t4)) vv bs))
 case first =>
  go_region_held3 (fun w' => w'.cell? ⟨w4.heap.size, 2, none⟩ = some (.int .i64 t3) ∧ w'.cell? ⟨w4.heap.size, 3, none⟩ = some (.int .i64 t4) ∧ w'.cell? ⟨w.heap.size, 1, none⟩ = some (.slice (some a) (bs.length + 1) c))
   (first | go_keep | ((try dsimp only); (repeat' apply And.intro); all_goals go_keep))
   ((go_at_call 47; go_must (refine (clone_row (some a) c bs _ (Kd.C_below HRb.out (by repeat (first | (with_reducible exact HB5.out) | (with_reducible apply below_alloc) | (with_reducible apply below_drew)))) (by omega) HL.out).mono ?_; rintro e w6 ⟨vv, rfl, hR, hb⟩; obtain ⟨A5, c5, rfl⟩ := Kd.R_slice hR; have hB56 : Below w5.heap.size w5 w6 := (by refine below_step ?_ hb; repeat (first | (with_reducible exact Below.refl _ _) | (with_reducible apply below_alloc) | (with_reducible apply below_drew))); have b0 := blk_below B0'.out hB56; have b1 := blk_below B1'.out hB56; have b2 := blk_below B2'.out hB56; have b6 := blk_below B6'.out hB56; have v0 := blk_lt b0; have v1 := blk_lt b1; have v2 := blk_lt b2; have v6 := blk_lt b6; clear c00 c01 f00 f01 c10 c11 f10 f11 c20 c21 c22 c23 f20 f21 f22 f23 c60 c61 c62 c63 f60 f61 f62 f63; obtain ⟨⟨c00, c01⟩, f00, f01⟩ := cells2 b0; obtain ⟨⟨c10, c11⟩, f10, f11⟩ := cells2 b1; obtain ⟨⟨c20, c21, c22, c23⟩, f20, f21, f22, f23⟩ := cells4 b2; obtain ⟨⟨c60, c61, c62, c63⟩, f60, f61, f62, f63⟩ := cells4 b6; have E0 := Aside0.mk b0; have E1 := Aside0.mk b1; have E2 := Aside0.mk b2; have E6 := Aside0.mk b6; clear b0 b1 b2 b6; have ER := Aside0.mk hR; have EB := Aside0.mk hB56; (try (have b11 : w6.heap[w5.heap.size]? = some (.cells #[.int .i64 0, .slice none 0 0] 59 (0, 0)) := (by with_reducible exact blk_below (blk_drew (blk_new w5 _)) hb); obtain ⟨⟨d0, d1⟩, e0, e1⟩ := cells2 b11; have y11 := blk_lt b11; have E11 := Aside0.mk b11; clear b11)); clear hR)))
  all_goals go_wp2
  all_goals go_meet
  all_goals simp only [i64_w]
  case rel => exact ⟨_, _, rfl, ⟨mid_new E0.out E1.out E2.out E6.out ER.out (by simp; omega) HB5.out EB.out (by omega)⟩⟩
  case rel => exact ⟨_, _, rfl, ⟨mid_old E0.out E1.out E2.out E6.out E11.out ER.out (by simp) HB5.out EB.out (by omega) (by omega)⟩⟩
 case rest =>
  obtain ⟨g, vv, rfl, HC⟩ := hcut
  have m := HC.out
  obtain ⟨A5, c5, rfl⟩ := Kd.R_slice m.row
  clear c00 c01 f00 f01 c10 c11 f10 f11 c20 c21 c22 c23 f20 f21 f22 f23 c60 c61 c62 c63 f60 f61 f62 f63 y6 y0 y1 y2 n6 n0 n1 n2 m6 m0 m1 m2 z0 z1 z2 HB HB5 B0 B1 B2 B0' B1' B2' B6'
  obtain ⟨⟨c00, c01⟩, f00, f01⟩ := cells2 m.b0
  obtain ⟨⟨c10, c11⟩, f10, f11⟩ := cells2 m.b1
  obtain ⟨⟨c20, c21, c22, c23⟩, f20, f21, f22, f23⟩ := cells4 m.b2
  obtain ⟨⟨c60, c61, c62, c63⟩, f60, f61, f62, f63⟩ := cells4 m.b6
  obtain ⟨⟨cg0, cg1⟩, fg0, fg1⟩ := cells2 m.bg
  have hx0 : wc.cell? (a.add bs.length) = some (.int .u64 x0) := row_at0 (Kd.C_below HR.out m.bel)
  have LB := m.bel.size
  have L6 := m.n6
  have LG := m.ng
  clear m
  go_wp2_with (first | (go_at_call 51; refine (vm_flag.calls true 1 true _ rfl).mono ?_; rintro e w8 ⟨rfl, ⟨⟨n8, rfl⟩⟩⟩) | (go_at_call 50; go_must (refine (push_mid HC.out _ (by repeat (first | (with_reducible exact Below.refl _ _) | (with_reducible apply below_alloc) | (with_reducible apply below_drew) | (with_reducible refine pw_below_drewN ?_ _))) [1] _ _ (lit_row [1] (by simp) (by repeat (first | (with_reducible exact blk_new _ _) | (with_reducible refine blk_drew ?_) | (with_reducible refine blk_drewN ?_ _) | exact blk_new _ _))) (by simp; omega)).mono ?_; rintro e w7 ⟨rfl, v7, hm⟩; obtain ⟨A7, c7, rfl⟩ := Kd.R_slice hm.row; clear c00 c01 f00 f01 c10 c11 f10 f11 c20 c21 c22 c23 f20 f21 f22 f23 c60 c61 c62 c63 f60 f61 f62 f63 cg0 cg1 fg0 fg1; obtain ⟨⟨c10, c11⟩, f10, f11⟩ := cells2 hm.b1; obtain ⟨⟨c20, c21, c22, c23⟩, f20, f21, f22, f23⟩ := cells4 hm.b2; obtain ⟨⟨cg0, cg1⟩, fg0, fg1⟩ := cells2 hm.bg; have HM7 := Aside0.mk hm; clear hm)))
  refine bodyPost_ret (v := .tuple #[.agg #[.int .i64 (wrap64 (t3 + t4)), .slice A7 (bs ++ [1]).length c7], .agg #[.int .i64 0, .int .u64 0, .int .u64 0, .int .i64 0]]) (by simp [results, Try.results45, go_sem, c10, c11, c20, c21, c22, c23, i64_w, List.length_append]) rfl ⟨_, rfl, end_row HM7.out.row HM7.out.b1 HM7.out.b2 _ _ _ _ _ _, end_below HM7.out.bel _ _ _ _ _ _⟩
set_option maxHeartbeats 4000000 in
set_option maxRecDepth 100000 in
theorem step_not0 (k : Nat) (s : ByteArray) (pc : Int) (a : Addr) (c : Nat) (bs : List Int) (x0 t2 t3 t4 q : Int) (w : World) (hr : Kd.C (Kd.int .u64) w (some a) (bs.length + 1) (bs ++ [x0])) (hc : bs.length + 1 ≤ c) (hl : bs.length < 1000000)
  (h : code_One.f k s pc = some (18, t2, t3, t4, 0)) (h2 : code_Moves.f k 18 t2 t3 t4 = some (1, q)) (hq0 : 0 ≤ q) (hq1 : q ≤ 10) (hfit : (bs.length : Int) + q ≤ 32)
  (hx : (x0 == 0) = false) :
  Calls Try.prog 45 #[.string s, .agg #[.int .i64 pc, .slice (some a) (bs.length + 1) c]] w fun e w' => ∃ v1_ : Value, e = .returned (.tuple #[.agg #[.int .i64 (wrap64 (t3 + t4)), v1_], .agg #[.int .i64 0, .int .u64 0, .int .u64 0, .int .i64 0]]) ∧ Kd.R (Kd.int .u64) 34 w' w.heap.size (fun _ => True) v1_ (bs ++ [0]) ∧ Below w.heap.size w w' := by
 have hu59 := Try.underlying59
 have hu61 := Try.underlying61
 have hu36 := Try.underlying36
 have HO := Aside0.mk h
 have HM := Aside0.mk h2
 have HR := Aside0.mk hr
 have HRb := Aside0.mk (row_front hr)
 have HL := Aside0.mk (show bs.length < 17592186044416 by omega)
 have hcb : (bs.length : Int) ≤ (c : Int) := by omega
 have hcb0 : (0 : Int) ≤ (bs.length : Int) := by omega
 clear h h2 hr
 go_enter Try.func45, Try.ntmps45
 go_wp2_with (first
  | (go_at_call 20; refine (code_One.calls k s pc 18 t2 t3 t4 0 _ HO.out).mono ?_; rintro e w4 ⟨rfl, hb⟩; obtain ⟨b0, b1, b2, hB, hz4⟩ := three_blocks hb; have z0 : w.heap.size < w4.heap.size := (by omega); have z1 : w.heap.size + 1 < w4.heap.size := (by omega); have z2 : w.heap.size + 1 + 1 < w4.heap.size := (by omega); clear hz4; obtain ⟨⟨c00, c01⟩, f00, f01⟩ := cells2 b0; obtain ⟨⟨c10, c11⟩, f10, f11⟩ := cells2 b1; obtain ⟨⟨c20, c21, c22, c23⟩, f20, f21, f22, f23⟩ := cells4 b2; have B0 := Aside0.mk b0; have B1 := Aside0.mk b1; have B2 := Aside0.mk b2; have HB := Aside0.mk hB; clear b0 b1 b2 hB hb)
  | (go_at_call 23; refine (code_Moves.calls k 18 t2 t3 t4 1 q _ HM.out).mono ?_; rintro e w5 ⟨rfl, hb⟩; have b0 := blk_below (blk_alloc B0.out _) hb; have b1 := blk_below (blk_alloc B1.out _) hb; have b2 := blk_below (blk_alloc B2.out _) hb; have b6 := blk_below (blk_new w4 _) hb; have HB5 := Aside0.mk (below_step (below_alloc HB.out _) hb); have y6 : w4.heap.size < w5.heap.size := (blk_lt b6); have y0 : w.heap.size < w5.heap.size := (blk_lt b0); have y1 : w.heap.size + 1 < w5.heap.size := (blk_lt b1); have y2 : w.heap.size + 1 + 1 < w5.heap.size := (blk_lt b2); have n6 : ¬ w4.heap.size = w5.heap.size := (Nat.ne_of_lt y6); have n0 : ¬ w.heap.size = w5.heap.size := (Nat.ne_of_lt y0); have n1 : ¬ w.heap.size + 1 = w5.heap.size := (Nat.ne_of_lt y1); have n2 : ¬ w.heap.size + 1 + 1 = w5.heap.size := (Nat.ne_of_lt y2); have m6 : ¬ w5.heap.size = w4.heap.size := (Nat.ne_of_gt y6); have m0 : ¬ w5.heap.size = w.heap.size := (Nat.ne_of_gt y0); have m1 : ¬ w5.heap.size = w.heap.size + 1 := (Nat.ne_of_gt y1); have m2 : ¬ w5.heap.size = w.heap.size + 1 + 1 := (Nat.ne_of_gt y2); clear c00 c01 f00 f01 c10 c11 f10 f11 c20 c21 c22 c23 f20 f21 f22 f23; obtain ⟨⟨c00, c01⟩, f00, f01⟩ := cells2 b0; obtain ⟨⟨c10, c11⟩, f10, f11⟩ := cells2 b1; obtain ⟨⟨c20, c21, c22, c23⟩, f20, f21, f22, f23⟩ := cells4 b2; obtain ⟨⟨c60, c61, c62, c63⟩, f60, f61, f62, f63⟩ := cells4 b6; have B0' := Aside0.mk b0; have B1' := Aside0.mk b1; have B2' := Aside0.mk b2; have B6' := Aside0.mk b6; clear b0 b1 b2 b6 hb))
 go_cut [11] (fun v11 wc => ∃ (g : Nat) (vv : Value), v11 = .pointer (some ⟨g, 0, none⟩) ∧ Aside0 (StepMid w wc w4.heap.size g pc (some a) (bs.length + 1) c 18 t2 t3 t4 (wrap64 (t3 + t4)) vv bs))
 case first =>
  go_region_held3 (fun w' => w'.cell? ⟨w4.heap.size, 2, none⟩ = some (.int .i64 t3) ∧ w'.cell? ⟨w4.heap.size, 3, none⟩ = some (.int .i64 t4) ∧ w'.cell? ⟨w.heap.size, 1, none⟩ = some (.slice (some a) (bs.length + 1) c))
   (first | go_keep | ((try dsimp only); (repeat' apply And.intro); all_goals go_keep))
   ((go_at_call 47; go_must (refine (clone_row (some a) c bs _ (Kd.C_below HRb.out (by repeat (first | (with_reducible exact HB5.out) | (with_reducible apply below_alloc) | (with_reducible apply below_drew)))) (by omega) HL.out).mono ?_; rintro e w6 ⟨vv, rfl, hR, hb⟩; obtain ⟨A5, c5, rfl⟩ := Kd.R_slice hR; have hB56 : Below w5.heap.size w5 w6 := (by refine below_step ?_ hb; repeat (first | (with_reducible exact Below.refl _ _) | (with_reducible apply below_alloc) | (with_reducible apply below_drew))); have b0 := blk_below B0'.out hB56; have b1 := blk_below B1'.out hB56; have b2 := blk_below B2'.out hB56; have b6 := blk_below B6'.out hB56; have v0 := blk_lt b0; have v1 := blk_lt b1; have v2 := blk_lt b2; have v6 := blk_lt b6; clear c00 c01 f00 f01 c10 c11 f10 f11 c20 c21 c22 c23 f20 f21 f22 f23 c60 c61 c62 c63 f60 f61 f62 f63; obtain ⟨⟨c00, c01⟩, f00, f01⟩ := cells2 b0; obtain ⟨⟨c10, c11⟩, f10, f11⟩ := cells2 b1; obtain ⟨⟨c20, c21, c22, c23⟩, f20, f21, f22, f23⟩ := cells4 b2; obtain ⟨⟨c60, c61, c62, c63⟩, f60, f61, f62, f63⟩ := cells4 b6; have E0 := Aside0.mk b0; have E1 := Aside0.mk b1; have E2 := Aside0.mk b2; have E6 := Aside0.mk b6; clear b0 b1 b2 b6; have ER := Aside0.mk hR; have EB := Aside0.mk hB56; (try (have b11 : w6.heap[w5.heap.size]? = some (.cells #[.int .i64 0, .slice none 0 0] 59 (0, 0)) := (by with_reducible exact blk_below (blk_drew (blk_new w5 _)) hb); obtain ⟨⟨d0, d1⟩, e0, e1⟩ := cells2 b11; have y11 := blk_lt b11; have E11 := Aside0.mk b11; clear b11)); clear hR)))
  all_goals go_wp2
  all_goals go_meet
  all_goals simp only [i64_w]
  case rel => exact ⟨_, _, rfl, ⟨mid_new E0.out E1.out E2.out E6.out ER.out (by simp; omega) HB5.out EB.out (by omega)⟩⟩
  case rel => exact ⟨_, _, rfl, ⟨mid_old E0.out E1.out E2.out E6.out E11.out ER.out (by simp) HB5.out EB.out (by omega) (by omega)⟩⟩
 case rest =>
  obtain ⟨g, vv, rfl, HC⟩ := hcut
  have m := HC.out
  obtain ⟨A5, c5, rfl⟩ := Kd.R_slice m.row
  clear c00 c01 f00 f01 c10 c11 f10 f11 c20 c21 c22 c23 f20 f21 f22 f23 c60 c61 c62 c63 f60 f61 f62 f63 y6 y0 y1 y2 n6 n0 n1 n2 m6 m0 m1 m2 z0 z1 z2 HB HB5 B0 B1 B2 B0' B1' B2' B6'
  obtain ⟨⟨c00, c01⟩, f00, f01⟩ := cells2 m.b0
  obtain ⟨⟨c10, c11⟩, f10, f11⟩ := cells2 m.b1
  obtain ⟨⟨c20, c21, c22, c23⟩, f20, f21, f22, f23⟩ := cells4 m.b2
  obtain ⟨⟨c60, c61, c62, c63⟩, f60, f61, f62, f63⟩ := cells4 m.b6
  obtain ⟨⟨cg0, cg1⟩, fg0, fg1⟩ := cells2 m.bg
  have hx0 : wc.cell? (a.add bs.length) = some (.int .u64 x0) := row_at0 (Kd.C_below HR.out m.bel)
  have LB := m.bel.size
  have L6 := m.n6
  have LG := m.ng
  clear m
  go_wp2_with (first | (go_at_call 51; refine (vm_flag.calls false 0 true _ rfl).mono ?_; rintro e w8 ⟨rfl, ⟨⟨n8, rfl⟩⟩⟩) | (go_at_call 50; go_must (refine (push_mid HC.out _ (by repeat (first | (with_reducible exact Below.refl _ _) | (with_reducible apply below_alloc) | (with_reducible apply below_drew) | (with_reducible refine pw_below_drewN ?_ _))) [0] _ _ (lit_row [0] (by simp) (by repeat (first | (with_reducible exact blk_new _ _) | (with_reducible refine blk_drew ?_) | (with_reducible refine blk_drewN ?_ _) | exact blk_new _ _))) (by simp; omega)).mono ?_; rintro e w7 ⟨rfl, v7, hm⟩; obtain ⟨A7, c7, rfl⟩ := Kd.R_slice hm.row; clear c00 c01 f00 f01 c10 c11 f10 f11 c20 c21 c22 c23 f20 f21 f22 f23 c60 c61 c62 c63 f60 f61 f62 f63 cg0 cg1 fg0 fg1; obtain ⟨⟨c10, c11⟩, f10, f11⟩ := cells2 hm.b1; obtain ⟨⟨c20, c21, c22, c23⟩, f20, f21, f22, f23⟩ := cells4 hm.b2; obtain ⟨⟨cg0, cg1⟩, fg0, fg1⟩ := cells2 hm.bg; have HM7 := Aside0.mk hm; clear hm)))
  refine bodyPost_ret (v := .tuple #[.agg #[.int .i64 (wrap64 (t3 + t4)), .slice A7 (bs ++ [0]).length c7], .agg #[.int .i64 0, .int .u64 0, .int .u64 0, .int .i64 0]]) (by simp [results, Try.results45, go_sem, c10, c11, c20, c21, c22, c23, i64_w, List.length_append]) rfl ⟨_, rfl, end_row HM7.out.row HM7.out.b1 HM7.out.b2 _ _ _ _ _ _, end_below HM7.out.bel _ _ _ _ _ _⟩
end Go.Proofs.Ytjbpljcfogekhaa.Q
namespace Go.Proofs.Ytjbpljcfogekhaa.Q
open Go.RowKit YtjbpljcfogekhaaW.PrintWords YtjbpljcfogekhaaW.PrintLast YtjbpljcfogekhaaW.PrintMore
set_option maxHeartbeats 4000000 in
set_option maxRecDepth 100000 in
theorem step_dup (k : Nat) (s : ByteArray) (pc : Int) (a : Addr) (c : Nat) (bs : List Int) (x0 t2 t3 t4 q : Int) (w : World) (hr : Kd.C (Kd.int .u64) w (some a) (bs.length + 1) (bs ++ [x0])) (hc : bs.length + 1 ≤ c) (hl : bs.length < 1000000)
  (h : code_One.f k s pc = some (2, t2, t3, t4, 0)) (h2 : code_Moves.f k 2 t2 t3 t4 = some (1, q)) (hq0 : 0 ≤ q) (hq1 : q ≤ 10) (hfit : (bs.length : Int) + q ≤ 32) :
  Calls Try.prog 45 #[.string s, .agg #[.int .i64 pc, .slice (some a) (bs.length + 1) c]] w fun e w' => ∃ v1_ : Value, e = .returned (.tuple #[.agg #[.int .i64 (wrap64 (t3 + t4)), v1_], .agg #[.int .i64 0, .int .u64 0, .int .u64 0, .int .i64 0]]) ∧ Kd.R (Kd.int .u64) 34 w' w.heap.size (fun _ => True) v1_ (bs ++ [x0, x0]) ∧ Below w.heap.size w w' := by
 have hu59 := Try.underlying59
 have hu61 := Try.underlying61
 have hu36 := Try.underlying36
 have HO := Aside0.mk h
 have HM := Aside0.mk h2
 have HR := Aside0.mk hr
 have HRb := Aside0.mk (row_front hr)
 have HL := Aside0.mk (show bs.length < 17592186044416 by omega)
 have hcb : (bs.length : Int) ≤ (c : Int) := by omega
 have hcb0 : (0 : Int) ≤ (bs.length : Int) := by omega
 clear h h2 hr
 go_enter Try.func45, Try.ntmps45
 go_wp2_with (first
  | (go_at_call 20; refine (code_One.calls k s pc 2 t2 t3 t4 0 _ HO.out).mono ?_; rintro e w4 ⟨rfl, hb⟩; obtain ⟨b0, b1, b2, hB, hz4⟩ := three_blocks hb; have z0 : w.heap.size < w4.heap.size := (by omega); have z1 : w.heap.size + 1 < w4.heap.size := (by omega); have z2 : w.heap.size + 1 + 1 < w4.heap.size := (by omega); clear hz4; obtain ⟨⟨c00, c01⟩, f00, f01⟩ := cells2 b0; obtain ⟨⟨c10, c11⟩, f10, f11⟩ := cells2 b1; obtain ⟨⟨c20, c21, c22, c23⟩, f20, f21, f22, f23⟩ := cells4 b2; have B0 := Aside0.mk b0; have B1 := Aside0.mk b1; have B2 := Aside0.mk b2; have HB := Aside0.mk hB; clear b0 b1 b2 hB hb)
  | (go_at_call 23; refine (code_Moves.calls k 2 t2 t3 t4 1 q _ HM.out).mono ?_; rintro e w5 ⟨rfl, hb⟩; have b0 := blk_below (blk_alloc B0.out _) hb; have b1 := blk_below (blk_alloc B1.out _) hb; have b2 := blk_below (blk_alloc B2.out _) hb; have b6 := blk_below (blk_new w4 _) hb; have HB5 := Aside0.mk (below_step (below_alloc HB.out _) hb); have y6 : w4.heap.size < w5.heap.size := (blk_lt b6); have y0 : w.heap.size < w5.heap.size := (blk_lt b0); have y1 : w.heap.size + 1 < w5.heap.size := (blk_lt b1); have y2 : w.heap.size + 1 + 1 < w5.heap.size := (blk_lt b2); have n6 : ¬ w4.heap.size = w5.heap.size := (Nat.ne_of_lt y6); have n0 : ¬ w.heap.size = w5.heap.size := (Nat.ne_of_lt y0); have n1 : ¬ w.heap.size + 1 = w5.heap.size := (Nat.ne_of_lt y1); have n2 : ¬ w.heap.size + 1 + 1 = w5.heap.size := (Nat.ne_of_lt y2); have m6 : ¬ w5.heap.size = w4.heap.size := (Nat.ne_of_gt y6); have m0 : ¬ w5.heap.size = w.heap.size := (Nat.ne_of_gt y0); have m1 : ¬ w5.heap.size = w.heap.size + 1 := (Nat.ne_of_gt y1); have m2 : ¬ w5.heap.size = w.heap.size + 1 + 1 := (Nat.ne_of_gt y2); clear c00 c01 f00 f01 c10 c11 f10 f11 c20 c21 c22 c23 f20 f21 f22 f23; obtain ⟨⟨c00, c01⟩, f00, f01⟩ := cells2 b0; obtain ⟨⟨c10, c11⟩, f10, f11⟩ := cells2 b1; obtain ⟨⟨c20, c21, c22, c23⟩, f20, f21, f22, f23⟩ := cells4 b2; obtain ⟨⟨c60, c61, c62, c63⟩, f60, f61, f62, f63⟩ := cells4 b6; have B0' := Aside0.mk b0; have B1' := Aside0.mk b1; have B2' := Aside0.mk b2; have B6' := Aside0.mk b6; clear b0 b1 b2 b6 hb))
 go_cut [11] (fun v11 wc => ∃ (g : Nat) (vv : Value), v11 = .pointer (some ⟨g, 0, none⟩) ∧ Aside0 (StepMid w wc w4.heap.size g pc (some a) (bs.length + 1) c 2 t2 t3 t4 (wrap64 (t3 + t4)) vv bs))
 case first =>
  go_region_held3 (fun w' => w'.cell? ⟨w4.heap.size, 2, none⟩ = some (.int .i64 t3) ∧ w'.cell? ⟨w4.heap.size, 3, none⟩ = some (.int .i64 t4) ∧ w'.cell? ⟨w.heap.size, 1, none⟩ = some (.slice (some a) (bs.length + 1) c))
   (first | go_keep | ((try dsimp only); (repeat' apply And.intro); all_goals go_keep))
   ((go_at_call 47; go_must (refine (clone_row (some a) c bs _ (Kd.C_below HRb.out (by repeat (first | (with_reducible exact HB5.out) | (with_reducible apply below_alloc) | (with_reducible apply below_drew)))) (by omega) HL.out).mono ?_; rintro e w6 ⟨vv, rfl, hR, hb⟩; obtain ⟨A5, c5, rfl⟩ := Kd.R_slice hR; have hB56 : Below w5.heap.size w5 w6 := (by refine below_step ?_ hb; repeat (first | (with_reducible exact Below.refl _ _) | (with_reducible apply below_alloc) | (with_reducible apply below_drew))); have b0 := blk_below B0'.out hB56; have b1 := blk_below B1'.out hB56; have b2 := blk_below B2'.out hB56; have b6 := blk_below B6'.out hB56; have v0 := blk_lt b0; have v1 := blk_lt b1; have v2 := blk_lt b2; have v6 := blk_lt b6; clear c00 c01 f00 f01 c10 c11 f10 f11 c20 c21 c22 c23 f20 f21 f22 f23 c60 c61 c62 c63 f60 f61 f62 f63; obtain ⟨⟨c00, c01⟩, f00, f01⟩ := cells2 b0; obtain ⟨⟨c10, c11⟩, f10, f11⟩ := cells2 b1; obtain ⟨⟨c20, c21, c22, c23⟩, f20, f21, f22, f23⟩ := cells4 b2; obtain ⟨⟨c60, c61, c62, c63⟩, f60, f61, f62, f63⟩ := cells4 b6; have E0 := Aside0.mk b0; have E1 := Aside0.mk b1; have E2 := Aside0.mk b2; have E6 := Aside0.mk b6; clear b0 b1 b2 b6; have ER := Aside0.mk hR; have EB := Aside0.mk hB56; (try (have b11 : w6.heap[w5.heap.size]? = some (.cells #[.int .i64 0, .slice none 0 0] 59 (0, 0)) := (by with_reducible exact blk_below (blk_drew (blk_new w5 _)) hb); obtain ⟨⟨d0, d1⟩, e0, e1⟩ := cells2 b11; have y11 := blk_lt b11; have E11 := Aside0.mk b11; clear b11)); clear hR)))
  all_goals go_wp2
  all_goals go_meet
  all_goals simp only [i64_w]
  case rel => exact ⟨_, _, rfl, ⟨mid_new E0.out E1.out E2.out E6.out ER.out (by simp; omega) HB5.out EB.out (by omega)⟩⟩
  case rel => exact ⟨_, _, rfl, ⟨mid_old E0.out E1.out E2.out E6.out E11.out ER.out (by simp) HB5.out EB.out (by omega) (by omega)⟩⟩
 case rest =>
  obtain ⟨g, vv, rfl, HC⟩ := hcut
  have m := HC.out
  obtain ⟨A5, c5, rfl⟩ := Kd.R_slice m.row
  clear c00 c01 f00 f01 c10 c11 f10 f11 c20 c21 c22 c23 f20 f21 f22 f23 c60 c61 c62 c63 f60 f61 f62 f63 y6 y0 y1 y2 n6 n0 n1 n2 m6 m0 m1 m2 z0 z1 z2 HB HB5 B0 B1 B2 B0' B1' B2' B6'
  obtain ⟨⟨c00, c01⟩, f00, f01⟩ := cells2 m.b0
  obtain ⟨⟨c10, c11⟩, f10, f11⟩ := cells2 m.b1
  obtain ⟨⟨c20, c21, c22, c23⟩, f20, f21, f22, f23⟩ := cells4 m.b2
  obtain ⟨⟨c60, c61, c62, c63⟩, f60, f61, f62, f63⟩ := cells4 m.b6
  obtain ⟨⟨cg0, cg1⟩, fg0, fg1⟩ := cells2 m.bg
  have hx0 : wc.cell? (a.add bs.length) = some (.int .u64 x0) := row_at0 (Kd.C_below HR.out m.bel)
  have LB := m.bel.size
  have L6 := m.n6
  have LG := m.ng
  clear m
  go_wp2_with fail
  go_region_held3 (fun w' => w'.cell? (a.add bs.length) = some (.int .u64 x0))
   (first | go_keep | ((try dsimp only); (repeat' apply And.intro); all_goals go_keep))
   ((go_at_call 50; go_must (refine (push_mid HC.out _ (by repeat (first | (with_reducible exact Below.refl _ _) | (with_reducible apply below_alloc) | (with_reducible apply below_drew) | (with_reducible refine pw_below_drewN ?_ _))) [x0, x0] _ _ (lit_row [x0, x0] (by simp) (by repeat (first | (with_reducible exact blk_new _ _) | (with_reducible refine blk_drew ?_) | (with_reducible refine blk_drewN ?_ _) | exact blk_new _ _))) (by simp; omega)).mono ?_; rintro e w7 ⟨rfl, v7, hm⟩; obtain ⟨A7, c7, rfl⟩ := Kd.R_slice hm.row; clear c00 c01 f00 f01 c10 c11 f10 f11 c20 c21 c22 c23 f20 f21 f22 f23 c60 c61 c62 c63 f60 f61 f62 f63 cg0 cg1 fg0 fg1; obtain ⟨⟨c10, c11⟩, f10, f11⟩ := cells2 hm.b1; obtain ⟨⟨c20, c21, c22, c23⟩, f20, f21, f22, f23⟩ := cells4 hm.b2; obtain ⟨⟨cg0, cg1⟩, fg0, fg1⟩ := cells2 hm.bg; have hx0' : w7.cell? (a.add bs.length) = some (.int .u64 x0) := row_at0 (Kd.C_below HR.out hm.bel); have HM7 := Aside0.mk hm; clear hm)))
  go_wp2
  refine bodyPost_ret (v := .tuple #[.agg #[.int .i64 (wrap64 (t3 + t4)), .slice A7 (bs ++ [x0, x0]).length c7], .agg #[.int .i64 0, .int .u64 0, .int .u64 0, .int .i64 0]]) (by simp [results, Try.results45, go_sem, c10, c11, c20, c21, c22, c23, i64_w, List.length_append]) rfl ⟨_, rfl, end_row HM7.out.row HM7.out.b1 HM7.out.b2 _ _ _ _ _ _, end_below HM7.out.bel _ _ _ _ _ _⟩
end Go.Proofs.Ytjbpljcfogekhaa.Q
namespace Go.Proofs.Ytjbpljcfogekhaa.Q
open Go.RowKit YtjbpljcfogekhaaW.PrintWords YtjbpljcfogekhaaW.PrintLast YtjbpljcfogekhaaW.PrintMore
set_option maxHeartbeats 4000000 in
set_option maxRecDepth 100000 in
theorem step_swap (k : Nat) (s : ByteArray) (pc : Int) (a : Addr) (c : Nat) (bs : List Int) (x0 x1 t2 t3 t4 q : Int) (w : World) (hr : Kd.C (Kd.int .u64) w (some a) (bs.length + 2) (bs ++ [x0, x1])) (hc : bs.length + 2 ≤ c) (hl : bs.length < 1000000)
  (h : code_One.f k s pc = some (4, t2, t3, t4, 0)) (h2 : code_Moves.f k 4 t2 t3 t4 = some (2, q)) (hq0 : 0 ≤ q) (hq1 : q ≤ 10) (hfit : (bs.length : Int) + q ≤ 32) :
  Calls Try.prog 45 #[.string s, .agg #[.int .i64 pc, .slice (some a) (bs.length + 2) c]] w fun e w' => ∃ v1_ : Value, e = .returned (.tuple #[.agg #[.int .i64 (wrap64 (t3 + t4)), v1_], .agg #[.int .i64 0, .int .u64 0, .int .u64 0, .int .i64 0]]) ∧ Kd.R (Kd.int .u64) 34 w' w.heap.size (fun _ => True) v1_ (bs ++ [x1, x0]) ∧ Below w.heap.size w w' := by
 have hu59 := Try.underlying59
 have hu61 := Try.underlying61
 have hu36 := Try.underlying36
 have HO := Aside0.mk h
 have HM := Aside0.mk h2
 have HR := Aside0.mk hr
 have HRb := Aside0.mk (row_front hr)
 have HL := Aside0.mk (show bs.length < 17592186044416 by omega)
 have hcb : (bs.length : Int) ≤ (c : Int) := by omega
 have hcb0 : (0 : Int) ≤ (bs.length : Int) := by omega
 clear h h2 hr
 go_enter Try.func45, Try.ntmps45
 go_wp2_with (first
  | (go_at_call 20; refine (code_One.calls k s pc 4 t2 t3 t4 0 _ HO.out).mono ?_; rintro e w4 ⟨rfl, hb⟩; obtain ⟨b0, b1, b2, hB, hz4⟩ := three_blocks hb; have z0 : w.heap.size < w4.heap.size := (by omega); have z1 : w.heap.size + 1 < w4.heap.size := (by omega); have z2 : w.heap.size + 1 + 1 < w4.heap.size := (by omega); clear hz4; obtain ⟨⟨c00, c01⟩, f00, f01⟩ := cells2 b0; obtain ⟨⟨c10, c11⟩, f10, f11⟩ := cells2 b1; obtain ⟨⟨c20, c21, c22, c23⟩, f20, f21, f22, f23⟩ := cells4 b2; have B0 := Aside0.mk b0; have B1 := Aside0.mk b1; have B2 := Aside0.mk b2; have HB := Aside0.mk hB; clear b0 b1 b2 hB hb)
  | (go_at_call 23; refine (code_Moves.calls k 4 t2 t3 t4 2 q _ HM.out).mono ?_; rintro e w5 ⟨rfl, hb⟩; have b0 := blk_below (blk_alloc B0.out _) hb; have b1 := blk_below (blk_alloc B1.out _) hb; have b2 := blk_below (blk_alloc B2.out _) hb; have b6 := blk_below (blk_new w4 _) hb; have HB5 := Aside0.mk (below_step (below_alloc HB.out _) hb); have y6 : w4.heap.size < w5.heap.size := (blk_lt b6); have y0 : w.heap.size < w5.heap.size := (blk_lt b0); have y1 : w.heap.size + 1 < w5.heap.size := (blk_lt b1); have y2 : w.heap.size + 1 + 1 < w5.heap.size := (blk_lt b2); have n6 : ¬ w4.heap.size = w5.heap.size := (Nat.ne_of_lt y6); have n0 : ¬ w.heap.size = w5.heap.size := (Nat.ne_of_lt y0); have n1 : ¬ w.heap.size + 1 = w5.heap.size := (Nat.ne_of_lt y1); have n2 : ¬ w.heap.size + 1 + 1 = w5.heap.size := (Nat.ne_of_lt y2); have m6 : ¬ w5.heap.size = w4.heap.size := (Nat.ne_of_gt y6); have m0 : ¬ w5.heap.size = w.heap.size := (Nat.ne_of_gt y0); have m1 : ¬ w5.heap.size = w.heap.size + 1 := (Nat.ne_of_gt y1); have m2 : ¬ w5.heap.size = w.heap.size + 1 + 1 := (Nat.ne_of_gt y2); clear c00 c01 f00 f01 c10 c11 f10 f11 c20 c21 c22 c23 f20 f21 f22 f23; obtain ⟨⟨c00, c01⟩, f00, f01⟩ := cells2 b0; obtain ⟨⟨c10, c11⟩, f10, f11⟩ := cells2 b1; obtain ⟨⟨c20, c21, c22, c23⟩, f20, f21, f22, f23⟩ := cells4 b2; obtain ⟨⟨c60, c61, c62, c63⟩, f60, f61, f62, f63⟩ := cells4 b6; have B0' := Aside0.mk b0; have B1' := Aside0.mk b1; have B2' := Aside0.mk b2; have B6' := Aside0.mk b6; clear b0 b1 b2 b6 hb))
 go_cut [11] (fun v11 wc => ∃ (g : Nat) (vv : Value), v11 = .pointer (some ⟨g, 0, none⟩) ∧ Aside0 (StepMid w wc w4.heap.size g pc (some a) (bs.length + 2) c 4 t2 t3 t4 (wrap64 (t3 + t4)) vv bs))
 case first =>
  go_region_held3 (fun w' => w'.cell? ⟨w4.heap.size, 2, none⟩ = some (.int .i64 t3) ∧ w'.cell? ⟨w4.heap.size, 3, none⟩ = some (.int .i64 t4) ∧ w'.cell? ⟨w.heap.size, 1, none⟩ = some (.slice (some a) (bs.length + 2) c))
   (first | go_keep | ((try dsimp only); (repeat' apply And.intro); all_goals go_keep))
   ((go_at_call 47; go_must (refine (clone_row (some a) c bs _ (Kd.C_below HRb.out (by repeat (first | (with_reducible exact HB5.out) | (with_reducible apply below_alloc) | (with_reducible apply below_drew)))) (by omega) HL.out).mono ?_; rintro e w6 ⟨vv, rfl, hR, hb⟩; obtain ⟨A5, c5, rfl⟩ := Kd.R_slice hR; have hB56 : Below w5.heap.size w5 w6 := (by refine below_step ?_ hb; repeat (first | (with_reducible exact Below.refl _ _) | (with_reducible apply below_alloc) | (with_reducible apply below_drew))); have b0 := blk_below B0'.out hB56; have b1 := blk_below B1'.out hB56; have b2 := blk_below B2'.out hB56; have b6 := blk_below B6'.out hB56; have v0 := blk_lt b0; have v1 := blk_lt b1; have v2 := blk_lt b2; have v6 := blk_lt b6; clear c00 c01 f00 f01 c10 c11 f10 f11 c20 c21 c22 c23 f20 f21 f22 f23 c60 c61 c62 c63 f60 f61 f62 f63; obtain ⟨⟨c00, c01⟩, f00, f01⟩ := cells2 b0; obtain ⟨⟨c10, c11⟩, f10, f11⟩ := cells2 b1; obtain ⟨⟨c20, c21, c22, c23⟩, f20, f21, f22, f23⟩ := cells4 b2; obtain ⟨⟨c60, c61, c62, c63⟩, f60, f61, f62, f63⟩ := cells4 b6; have E0 := Aside0.mk b0; have E1 := Aside0.mk b1; have E2 := Aside0.mk b2; have E6 := Aside0.mk b6; clear b0 b1 b2 b6; have ER := Aside0.mk hR; have EB := Aside0.mk hB56; (try (have b11 : w6.heap[w5.heap.size]? = some (.cells #[.int .i64 0, .slice none 0 0] 59 (0, 0)) := (by with_reducible exact blk_below (blk_drew (blk_new w5 _)) hb); obtain ⟨⟨d0, d1⟩, e0, e1⟩ := cells2 b11; have y11 := blk_lt b11; have E11 := Aside0.mk b11; clear b11)); clear hR)))
  all_goals go_wp2
  all_goals go_meet
  all_goals simp only [i64_w]
  case rel => exact ⟨_, _, rfl, ⟨mid_new E0.out E1.out E2.out E6.out ER.out (by simp; omega) HB5.out EB.out (by omega)⟩⟩
  case rel => exact ⟨_, _, rfl, ⟨mid_old E0.out E1.out E2.out E6.out E11.out ER.out (by simp) HB5.out EB.out (by omega) (by omega)⟩⟩
 case rest =>
  obtain ⟨g, vv, rfl, HC⟩ := hcut
  have m := HC.out
  obtain ⟨A5, c5, rfl⟩ := Kd.R_slice m.row
  clear c00 c01 f00 f01 c10 c11 f10 f11 c20 c21 c22 c23 f20 f21 f22 f23 c60 c61 c62 c63 f60 f61 f62 f63 y6 y0 y1 y2 n6 n0 n1 n2 m6 m0 m1 m2 z0 z1 z2 HB HB5 B0 B1 B2 B0' B1' B2' B6'
  obtain ⟨⟨c00, c01⟩, f00, f01⟩ := cells2 m.b0
  obtain ⟨⟨c10, c11⟩, f10, f11⟩ := cells2 m.b1
  obtain ⟨⟨c20, c21, c22, c23⟩, f20, f21, f22, f23⟩ := cells4 m.b2
  obtain ⟨⟨c60, c61, c62, c63⟩, f60, f61, f62, f63⟩ := cells4 m.b6
  obtain ⟨⟨cg0, cg1⟩, fg0, fg1⟩ := cells2 m.bg
  have hx0 : wc.cell? (a.add bs.length) = some (.int .u64 x0) := row_at0 (Kd.C_below HR.out m.bel)
  have hx1 : wc.cell? ⟨(a.add bs.length).block, (a.add bs.length).off + 1, none⟩ = some (.int .u64 x1) := row_at1f (Kd.C_below HR.out m.bel)
  have LB := m.bel.size
  have L6 := m.n6
  have LG := m.ng
  clear m
  go_wp2_with fail
  go_region_held3 (fun w' => w'.cell? (a.add bs.length) = some (.int .u64 x0) ∧ w'.cell? ⟨(a.add bs.length).block, (a.add bs.length).off + 1, none⟩ = some (.int .u64 x1))
   (first | go_keep | ((try dsimp only); (repeat' apply And.intro); all_goals go_keep))
   ((go_at_call 50; go_must (refine (push_mid HC.out _ (by repeat (first | (with_reducible exact Below.refl _ _) | (with_reducible apply below_alloc) | (with_reducible apply below_drew) | (with_reducible refine pw_below_drewN ?_ _))) [x1, x0] _ _ (lit_row [x1, x0] (by simp) (by repeat (first | (with_reducible exact blk_new _ _) | (with_reducible refine blk_drew ?_) | (with_reducible refine blk_drewN ?_ _) | exact blk_new _ _))) (by simp; omega)).mono ?_; rintro e w7 ⟨rfl, v7, hm⟩; obtain ⟨A7, c7, rfl⟩ := Kd.R_slice hm.row; clear c00 c01 f00 f01 c10 c11 f10 f11 c20 c21 c22 c23 f20 f21 f22 f23 c60 c61 c62 c63 f60 f61 f62 f63 cg0 cg1 fg0 fg1; obtain ⟨⟨c10, c11⟩, f10, f11⟩ := cells2 hm.b1; obtain ⟨⟨c20, c21, c22, c23⟩, f20, f21, f22, f23⟩ := cells4 hm.b2; obtain ⟨⟨cg0, cg1⟩, fg0, fg1⟩ := cells2 hm.bg; have hx0' : w7.cell? (a.add bs.length) = some (.int .u64 x0) := row_at0 (Kd.C_below HR.out hm.bel); have hx1' : w7.cell? ⟨(a.add bs.length).block, (a.add bs.length).off + 1, none⟩ = some (.int .u64 x1) := row_at1f (Kd.C_below HR.out hm.bel); have HM7 := Aside0.mk hm; clear hm)))
  go_wp2
  refine bodyPost_ret (v := .tuple #[.agg #[.int .i64 (wrap64 (t3 + t4)), .slice A7 (bs ++ [x1, x0]).length c7], .agg #[.int .i64 0, .int .u64 0, .int .u64 0, .int .i64 0]]) (by simp [results, Try.results45, go_sem, c10, c11, c20, c21, c22, c23, i64_w, List.length_append]) rfl ⟨_, rfl, end_row HM7.out.row HM7.out.b1 HM7.out.b2 _ _ _ _ _ _, end_below HM7.out.bel _ _ _ _ _ _⟩
end Go.Proofs.Ytjbpljcfogekhaa.Q
namespace Go.Proofs.Ytjbpljcfogekhaa.Q
open Go.RowKit YtjbpljcfogekhaaW.PrintWords YtjbpljcfogekhaaW.PrintLast YtjbpljcfogekhaaW.PrintMore
set_option maxHeartbeats 4000000 in
set_option maxRecDepth 100000 in
theorem step_over (k : Nat) (s : ByteArray) (pc : Int) (a : Addr) (c : Nat) (bs : List Int) (x0 x1 t2 t3 t4 q : Int) (w : World) (hr : Kd.C (Kd.int .u64) w (some a) (bs.length + 2) (bs ++ [x0, x1])) (hc : bs.length + 2 ≤ c) (hl : bs.length < 1000000)
  (h : code_One.f k s pc = some (5, t2, t3, t4, 0)) (h2 : code_Moves.f k 5 t2 t3 t4 = some (2, q)) (hq0 : 0 ≤ q) (hq1 : q ≤ 10) (hfit : (bs.length : Int) + q ≤ 32) :
  Calls Try.prog 45 #[.string s, .agg #[.int .i64 pc, .slice (some a) (bs.length + 2) c]] w fun e w' => ∃ v1_ : Value, e = .returned (.tuple #[.agg #[.int .i64 (wrap64 (t3 + t4)), v1_], .agg #[.int .i64 0, .int .u64 0, .int .u64 0, .int .i64 0]]) ∧ Kd.R (Kd.int .u64) 34 w' w.heap.size (fun _ => True) v1_ (bs ++ [x0, x1, x0]) ∧ Below w.heap.size w w' := by
 have hu59 := Try.underlying59
 have hu61 := Try.underlying61
 have hu36 := Try.underlying36
 have HO := Aside0.mk h
 have HM := Aside0.mk h2
 have HR := Aside0.mk hr
 have HRb := Aside0.mk (row_front hr)
 have HL := Aside0.mk (show bs.length < 17592186044416 by omega)
 have hcb : (bs.length : Int) ≤ (c : Int) := by omega
 have hcb0 : (0 : Int) ≤ (bs.length : Int) := by omega
 clear h h2 hr
 go_enter Try.func45, Try.ntmps45
 go_wp2_with (first
  | (go_at_call 20; refine (code_One.calls k s pc 5 t2 t3 t4 0 _ HO.out).mono ?_; rintro e w4 ⟨rfl, hb⟩; obtain ⟨b0, b1, b2, hB, hz4⟩ := three_blocks hb; have z0 : w.heap.size < w4.heap.size := (by omega); have z1 : w.heap.size + 1 < w4.heap.size := (by omega); have z2 : w.heap.size + 1 + 1 < w4.heap.size := (by omega); clear hz4; obtain ⟨⟨c00, c01⟩, f00, f01⟩ := cells2 b0; obtain ⟨⟨c10, c11⟩, f10, f11⟩ := cells2 b1; obtain ⟨⟨c20, c21, c22, c23⟩, f20, f21, f22, f23⟩ := cells4 b2; have B0 := Aside0.mk b0; have B1 := Aside0.mk b1; have B2 := Aside0.mk b2; have HB := Aside0.mk hB; clear b0 b1 b2 hB hb)
  | (go_at_call 23; refine (code_Moves.calls k 5 t2 t3 t4 2 q _ HM.out).mono ?_; rintro e w5 ⟨rfl, hb⟩; have b0 := blk_below (blk_alloc B0.out _) hb; have b1 := blk_below (blk_alloc B1.out _) hb; have b2 := blk_below (blk_alloc B2.out _) hb; have b6 := blk_below (blk_new w4 _) hb; have HB5 := Aside0.mk (below_step (below_alloc HB.out _) hb); have y6 : w4.heap.size < w5.heap.size := (blk_lt b6); have y0 : w.heap.size < w5.heap.size := (blk_lt b0); have y1 : w.heap.size + 1 < w5.heap.size := (blk_lt b1); have y2 : w.heap.size + 1 + 1 < w5.heap.size := (blk_lt b2); have n6 : ¬ w4.heap.size = w5.heap.size := (Nat.ne_of_lt y6); have n0 : ¬ w.heap.size = w5.heap.size := (Nat.ne_of_lt y0); have n1 : ¬ w.heap.size + 1 = w5.heap.size := (Nat.ne_of_lt y1); have n2 : ¬ w.heap.size + 1 + 1 = w5.heap.size := (Nat.ne_of_lt y2); have m6 : ¬ w5.heap.size = w4.heap.size := (Nat.ne_of_gt y6); have m0 : ¬ w5.heap.size = w.heap.size := (Nat.ne_of_gt y0); have m1 : ¬ w5.heap.size = w.heap.size + 1 := (Nat.ne_of_gt y1); have m2 : ¬ w5.heap.size = w.heap.size + 1 + 1 := (Nat.ne_of_gt y2); clear c00 c01 f00 f01 c10 c11 f10 f11 c20 c21 c22 c23 f20 f21 f22 f23; obtain ⟨⟨c00, c01⟩, f00, f01⟩ := cells2 b0; obtain ⟨⟨c10, c11⟩, f10, f11⟩ := cells2 b1; obtain ⟨⟨c20, c21, c22, c23⟩, f20, f21, f22, f23⟩ := cells4 b2; obtain ⟨⟨c60, c61, c62, c63⟩, f60, f61, f62, f63⟩ := cells4 b6; have B0' := Aside0.mk b0; have B1' := Aside0.mk b1; have B2' := Aside0.mk b2; have B6' := Aside0.mk b6; clear b0 b1 b2 b6 hb))
 go_cut [11] (fun v11 wc => ∃ (g : Nat) (vv : Value), v11 = .pointer (some ⟨g, 0, none⟩) ∧ Aside0 (StepMid w wc w4.heap.size g pc (some a) (bs.length + 2) c 5 t2 t3 t4 (wrap64 (t3 + t4)) vv bs))
 case first =>
  go_region_held3 (fun w' => w'.cell? ⟨w4.heap.size, 2, none⟩ = some (.int .i64 t3) ∧ w'.cell? ⟨w4.heap.size, 3, none⟩ = some (.int .i64 t4) ∧ w'.cell? ⟨w.heap.size, 1, none⟩ = some (.slice (some a) (bs.length + 2) c))
   (first | go_keep | ((try dsimp only); (repeat' apply And.intro); all_goals go_keep))
   ((go_at_call 47; go_must (refine (clone_row (some a) c bs _ (Kd.C_below HRb.out (by repeat (first | (with_reducible exact HB5.out) | (with_reducible apply below_alloc) | (with_reducible apply below_drew)))) (by omega) HL.out).mono ?_; rintro e w6 ⟨vv, rfl, hR, hb⟩; obtain ⟨A5, c5, rfl⟩ := Kd.R_slice hR; have hB56 : Below w5.heap.size w5 w6 := (by refine below_step ?_ hb; repeat (first | (with_reducible exact Below.refl _ _) | (with_reducible apply below_alloc) | (with_reducible apply below_drew))); have b0 := blk_below B0'.out hB56; have b1 := blk_below B1'.out hB56; have b2 := blk_below B2'.out hB56; have b6 := blk_below B6'.out hB56; have v0 := blk_lt b0; have v1 := blk_lt b1; have v2 := blk_lt b2; have v6 := blk_lt b6; clear c00 c01 f00 f01 c10 c11 f10 f11 c20 c21 c22 c23 f20 f21 f22 f23 c60 c61 c62 c63 f60 f61 f62 f63; obtain ⟨⟨c00, c01⟩, f00, f01⟩ := cells2 b0; obtain ⟨⟨c10, c11⟩, f10, f11⟩ := cells2 b1; obtain ⟨⟨c20, c21, c22, c23⟩, f20, f21, f22, f23⟩ := cells4 b2; obtain ⟨⟨c60, c61, c62, c63⟩, f60, f61, f62, f63⟩ := cells4 b6; have E0 := Aside0.mk b0; have E1 := Aside0.mk b1; have E2 := Aside0.mk b2; have E6 := Aside0.mk b6; clear b0 b1 b2 b6; have ER := Aside0.mk hR; have EB := Aside0.mk hB56; (try (have b11 : w6.heap[w5.heap.size]? = some (.cells #[.int .i64 0, .slice none 0 0] 59 (0, 0)) := (by with_reducible exact blk_below (blk_drew (blk_new w5 _)) hb); obtain ⟨⟨d0, d1⟩, e0, e1⟩ := cells2 b11; have y11 := blk_lt b11; have E11 := Aside0.mk b11; clear b11)); clear hR)))
  all_goals go_wp2
  all_goals go_meet
  all_goals simp only [i64_w]
  case rel => exact ⟨_, _, rfl, ⟨mid_new E0.out E1.out E2.out E6.out ER.out (by simp; omega) HB5.out EB.out (by omega)⟩⟩
  case rel => exact ⟨_, _, rfl, ⟨mid_old E0.out E1.out E2.out E6.out E11.out ER.out (by simp) HB5.out EB.out (by omega) (by omega)⟩⟩
 case rest =>
  obtain ⟨g, vv, rfl, HC⟩ := hcut
  have m := HC.out
  obtain ⟨A5, c5, rfl⟩ := Kd.R_slice m.row
  clear c00 c01 f00 f01 c10 c11 f10 f11 c20 c21 c22 c23 f20 f21 f22 f23 c60 c61 c62 c63 f60 f61 f62 f63 y6 y0 y1 y2 n6 n0 n1 n2 m6 m0 m1 m2 z0 z1 z2 HB HB5 B0 B1 B2 B0' B1' B2' B6'
  obtain ⟨⟨c00, c01⟩, f00, f01⟩ := cells2 m.b0
  obtain ⟨⟨c10, c11⟩, f10, f11⟩ := cells2 m.b1
  obtain ⟨⟨c20, c21, c22, c23⟩, f20, f21, f22, f23⟩ := cells4 m.b2
  obtain ⟨⟨c60, c61, c62, c63⟩, f60, f61, f62, f63⟩ := cells4 m.b6
  obtain ⟨⟨cg0, cg1⟩, fg0, fg1⟩ := cells2 m.bg
  have hx0 : wc.cell? (a.add bs.length) = some (.int .u64 x0) := row_at0 (Kd.C_below HR.out m.bel)
  have hx1 : wc.cell? ⟨(a.add bs.length).block, (a.add bs.length).off + 1, none⟩ = some (.int .u64 x1) := row_at1f (Kd.C_below HR.out m.bel)
  have LB := m.bel.size
  have L6 := m.n6
  have LG := m.ng
  clear m
  go_wp2_with fail
  go_region_held3 (fun w' => w'.cell? (a.add bs.length) = some (.int .u64 x0) ∧ w'.cell? ⟨(a.add bs.length).block, (a.add bs.length).off + 1, none⟩ = some (.int .u64 x1))
   (first | go_keep | ((try dsimp only); (repeat' apply And.intro); all_goals go_keep))
   ((go_at_call 50; go_must (refine (push_mid HC.out _ (by repeat (first | (with_reducible exact Below.refl _ _) | (with_reducible apply below_alloc) | (with_reducible apply below_drew) | (with_reducible refine pw_below_drewN ?_ _))) [x0, x1, x0] _ _ (lit_row [x0, x1, x0] (by simp) (by repeat (first | (with_reducible exact blk_new _ _) | (with_reducible refine blk_drew ?_) | (with_reducible refine blk_drewN ?_ _) | exact blk_new _ _))) (by simp; omega)).mono ?_; rintro e w7 ⟨rfl, v7, hm⟩; obtain ⟨A7, c7, rfl⟩ := Kd.R_slice hm.row; clear c00 c01 f00 f01 c10 c11 f10 f11 c20 c21 c22 c23 f20 f21 f22 f23 c60 c61 c62 c63 f60 f61 f62 f63 cg0 cg1 fg0 fg1; obtain ⟨⟨c10, c11⟩, f10, f11⟩ := cells2 hm.b1; obtain ⟨⟨c20, c21, c22, c23⟩, f20, f21, f22, f23⟩ := cells4 hm.b2; obtain ⟨⟨cg0, cg1⟩, fg0, fg1⟩ := cells2 hm.bg; have hx0' : w7.cell? (a.add bs.length) = some (.int .u64 x0) := row_at0 (Kd.C_below HR.out hm.bel); have hx1' : w7.cell? ⟨(a.add bs.length).block, (a.add bs.length).off + 1, none⟩ = some (.int .u64 x1) := row_at1f (Kd.C_below HR.out hm.bel); have HM7 := Aside0.mk hm; clear hm)))
  go_wp2
  refine bodyPost_ret (v := .tuple #[.agg #[.int .i64 (wrap64 (t3 + t4)), .slice A7 (bs ++ [x0, x1, x0]).length c7], .agg #[.int .i64 0, .int .u64 0, .int .u64 0, .int .i64 0]]) (by simp [results, Try.results45, go_sem, c10, c11, c20, c21, c22, c23, i64_w, List.length_append]) rfl ⟨_, rfl, end_row HM7.out.row HM7.out.b1 HM7.out.b2 _ _ _ _ _ _, end_below HM7.out.bel _ _ _ _ _ _⟩
end Go.Proofs.Ytjbpljcfogekhaa.Q
namespace Go.Proofs.Ytjbpljcfogekhaa.Q
open Go.RowKit YtjbpljcfogekhaaW.PrintWords YtjbpljcfogekhaaW.PrintLast YtjbpljcfogekhaaW.PrintMore
set_option maxHeartbeats 4000000 in
set_option maxRecDepth 100000 in
theorem step_load (k : Nat) (s : ByteArray) (pc : Int) (a : Addr) (c : Nat) (bs : List Int) (x0 t2 t3 t4 q : Int) (w : World) (hr : Kd.C (Kd.int .u64) w (some a) (bs.length + 1) (bs ++ [x0])) (hc : bs.length + 1 ≤ c) (hl : bs.length < 1000000)
  (h : code_One.f k s pc = some (19, t2, t3, t4, 0)) (h2 : code_Moves.f k 19 t2 t3 t4 = some (1, q)) (hq0 : 0 ≤ q) (hq1 : q ≤ 10) (hfit : (bs.length : Int) + q ≤ 32) :
  Calls Try.prog 45 #[.string s, .agg #[.int .i64 pc, .slice (some a) (bs.length + 1) c]] w fun e w' => ∃ v1_ : Value, e = .returned (.tuple #[.agg #[.int .i64 (wrap64 (t3 + t4)), v1_], .agg #[.int .i64 1, .int .u64 x0, .int .u64 0, .int .i64 0]]) ∧ Kd.R (Kd.int .u64) 34 w' w.heap.size (fun _ => True) v1_ (bs) ∧ Below w.heap.size w w' := by
 have hu59 := Try.underlying59
 have hu61 := Try.underlying61
 have hu36 := Try.underlying36
 have HO := Aside0.mk h
 have HM := Aside0.mk h2
 have HR := Aside0.mk hr
 have HRb := Aside0.mk (row_front hr)
 have HL := Aside0.mk (show bs.length < 17592186044416 by omega)
 have hcb : (bs.length : Int) ≤ (c : Int) := by omega
 have hcb0 : (0 : Int) ≤ (bs.length : Int) := by omega
 clear h h2 hr
 go_enter Try.func45, Try.ntmps45
 go_wp2_with (first
  | (go_at_call 20; refine (code_One.calls k s pc 19 t2 t3 t4 0 _ HO.out).mono ?_; rintro e w4 ⟨rfl, hb⟩; obtain ⟨b0, b1, b2, hB, hz4⟩ := three_blocks hb; have z0 : w.heap.size < w4.heap.size := (by omega); have z1 : w.heap.size + 1 < w4.heap.size := (by omega); have z2 : w.heap.size + 1 + 1 < w4.heap.size := (by omega); clear hz4; obtain ⟨⟨c00, c01⟩, f00, f01⟩ := cells2 b0; obtain ⟨⟨c10, c11⟩, f10, f11⟩ := cells2 b1; obtain ⟨⟨c20, c21, c22, c23⟩, f20, f21, f22, f23⟩ := cells4 b2; have B0 := Aside0.mk b0; have B1 := Aside0.mk b1; have B2 := Aside0.mk b2; have HB := Aside0.mk hB; clear b0 b1 b2 hB hb)
  | (go_at_call 23; refine (code_Moves.calls k 19 t2 t3 t4 1 q _ HM.out).mono ?_; rintro e w5 ⟨rfl, hb⟩; have b0 := blk_below (blk_alloc B0.out _) hb; have b1 := blk_below (blk_alloc B1.out _) hb; have b2 := blk_below (blk_alloc B2.out _) hb; have b6 := blk_below (blk_new w4 _) hb; have HB5 := Aside0.mk (below_step (below_alloc HB.out _) hb); have y6 : w4.heap.size < w5.heap.size := (blk_lt b6); have y0 : w.heap.size < w5.heap.size := (blk_lt b0); have y1 : w.heap.size + 1 < w5.heap.size := (blk_lt b1); have y2 : w.heap.size + 1 + 1 < w5.heap.size := (blk_lt b2); have n6 : ¬ w4.heap.size = w5.heap.size := (Nat.ne_of_lt y6); have n0 : ¬ w.heap.size = w5.heap.size := (Nat.ne_of_lt y0); have n1 : ¬ w.heap.size + 1 = w5.heap.size := (Nat.ne_of_lt y1); have n2 : ¬ w.heap.size + 1 + 1 = w5.heap.size := (Nat.ne_of_lt y2); have m6 : ¬ w5.heap.size = w4.heap.size := (Nat.ne_of_gt y6); have m0 : ¬ w5.heap.size = w.heap.size := (Nat.ne_of_gt y0); have m1 : ¬ w5.heap.size = w.heap.size + 1 := (Nat.ne_of_gt y1); have m2 : ¬ w5.heap.size = w.heap.size + 1 + 1 := (Nat.ne_of_gt y2); clear c00 c01 f00 f01 c10 c11 f10 f11 c20 c21 c22 c23 f20 f21 f22 f23; obtain ⟨⟨c00, c01⟩, f00, f01⟩ := cells2 b0; obtain ⟨⟨c10, c11⟩, f10, f11⟩ := cells2 b1; obtain ⟨⟨c20, c21, c22, c23⟩, f20, f21, f22, f23⟩ := cells4 b2; obtain ⟨⟨c60, c61, c62, c63⟩, f60, f61, f62, f63⟩ := cells4 b6; have B0' := Aside0.mk b0; have B1' := Aside0.mk b1; have B2' := Aside0.mk b2; have B6' := Aside0.mk b6; clear b0 b1 b2 b6 hb))
 go_cut [11] (fun v11 wc => ∃ (g : Nat) (vv : Value), v11 = .pointer (some ⟨g, 0, none⟩) ∧ Aside0 (StepMid w wc w4.heap.size g pc (some a) (bs.length + 1) c 19 t2 t3 t4 (wrap64 (t3 + t4)) vv bs))
 case first =>
  go_region_held3 (fun w' => w'.cell? ⟨w4.heap.size, 2, none⟩ = some (.int .i64 t3) ∧ w'.cell? ⟨w4.heap.size, 3, none⟩ = some (.int .i64 t4) ∧ w'.cell? ⟨w.heap.size, 1, none⟩ = some (.slice (some a) (bs.length + 1) c))
   (first | go_keep | ((try dsimp only); (repeat' apply And.intro); all_goals go_keep))
   ((go_at_call 47; go_must (refine (clone_row (some a) c bs _ (Kd.C_below HRb.out (by repeat (first | (with_reducible exact HB5.out) | (with_reducible apply below_alloc) | (with_reducible apply below_drew)))) (by omega) HL.out).mono ?_; rintro e w6 ⟨vv, rfl, hR, hb⟩; obtain ⟨A5, c5, rfl⟩ := Kd.R_slice hR; have hB56 : Below w5.heap.size w5 w6 := (by refine below_step ?_ hb; repeat (first | (with_reducible exact Below.refl _ _) | (with_reducible apply below_alloc) | (with_reducible apply below_drew))); have b0 := blk_below B0'.out hB56; have b1 := blk_below B1'.out hB56; have b2 := blk_below B2'.out hB56; have b6 := blk_below B6'.out hB56; have v0 := blk_lt b0; have v1 := blk_lt b1; have v2 := blk_lt b2; have v6 := blk_lt b6; clear c00 c01 f00 f01 c10 c11 f10 f11 c20 c21 c22 c23 f20 f21 f22 f23 c60 c61 c62 c63 f60 f61 f62 f63; obtain ⟨⟨c00, c01⟩, f00, f01⟩ := cells2 b0; obtain ⟨⟨c10, c11⟩, f10, f11⟩ := cells2 b1; obtain ⟨⟨c20, c21, c22, c23⟩, f20, f21, f22, f23⟩ := cells4 b2; obtain ⟨⟨c60, c61, c62, c63⟩, f60, f61, f62, f63⟩ := cells4 b6; have E0 := Aside0.mk b0; have E1 := Aside0.mk b1; have E2 := Aside0.mk b2; have E6 := Aside0.mk b6; clear b0 b1 b2 b6; have ER := Aside0.mk hR; have EB := Aside0.mk hB56; (try (have b11 : w6.heap[w5.heap.size]? = some (.cells #[.int .i64 0, .slice none 0 0] 59 (0, 0)) := (by with_reducible exact blk_below (blk_drew (blk_new w5 _)) hb); obtain ⟨⟨d0, d1⟩, e0, e1⟩ := cells2 b11; have y11 := blk_lt b11; have E11 := Aside0.mk b11; clear b11)); clear hR)))
  all_goals go_wp2
  all_goals go_meet
  all_goals simp only [i64_w]
  case rel => exact ⟨_, _, rfl, ⟨mid_new E0.out E1.out E2.out E6.out ER.out (by simp; omega) HB5.out EB.out (by omega)⟩⟩
  case rel => exact ⟨_, _, rfl, ⟨mid_old E0.out E1.out E2.out E6.out E11.out ER.out (by simp) HB5.out EB.out (by omega) (by omega)⟩⟩
 case rest =>
  obtain ⟨g, vv, rfl, HC⟩ := hcut
  have m := HC.out
  obtain ⟨A5, c5, rfl⟩ := Kd.R_slice m.row
  clear c00 c01 f00 f01 c10 c11 f10 f11 c20 c21 c22 c23 f20 f21 f22 f23 c60 c61 c62 c63 f60 f61 f62 f63 y6 y0 y1 y2 n6 n0 n1 n2 m6 m0 m1 m2 z0 z1 z2 HB HB5 B0 B1 B2 B0' B1' B2' B6'
  obtain ⟨⟨c00, c01⟩, f00, f01⟩ := cells2 m.b0
  obtain ⟨⟨c10, c11⟩, f10, f11⟩ := cells2 m.b1
  obtain ⟨⟨c20, c21, c22, c23⟩, f20, f21, f22, f23⟩ := cells4 m.b2
  obtain ⟨⟨c60, c61, c62, c63⟩, f60, f61, f62, f63⟩ := cells4 m.b6
  obtain ⟨⟨cg0, cg1⟩, fg0, fg1⟩ := cells2 m.bg
  have hx0 : wc.cell? (a.add bs.length) = some (.int .u64 x0) := row_at0 (Kd.C_below HR.out m.bel)
  have LB := m.bel.size
  have L6 := m.n6
  have LG := m.ng
  clear m
  have ha := World.block_lt_of_cell? w _ (row_at0 HR.out)
  have s10 : ∀ (W : World) (v : Value), (W.setCell ⟨w.heap.size + 1, 0, none⟩ v).cell? (a.add bs.length) = W.cell? (a.add bs.length) := set_far (by show _ ≠ w.heap.size + 1; omega)
  have s11 : ∀ (W : World) (v : Value), (W.setCell ⟨w.heap.size + 1, 1, none⟩ v).cell? (a.add bs.length) = W.cell? (a.add bs.length) := set_far (by show _ ≠ w.heap.size + 1; omega)
  have s12 : ∀ (W : World) (v : Value), (W.setCell ⟨w.heap.size + 1, 2, none⟩ v).cell? (a.add bs.length) = W.cell? (a.add bs.length) := set_far (by show _ ≠ w.heap.size + 1; omega)
  have s13 : ∀ (W : World) (v : Value), (W.setCell ⟨w.heap.size + 1, 3, none⟩ v).cell? (a.add bs.length) = W.cell? (a.add bs.length) := set_far (by show _ ≠ w.heap.size + 1; omega)
  have s20 : ∀ (W : World) (v : Value), (W.setCell ⟨w.heap.size + 1 + 1, 0, none⟩ v).cell? (a.add bs.length) = W.cell? (a.add bs.length) := set_far (by show _ ≠ w.heap.size + 1 + 1; omega)
  have s21 : ∀ (W : World) (v : Value), (W.setCell ⟨w.heap.size + 1 + 1, 1, none⟩ v).cell? (a.add bs.length) = W.cell? (a.add bs.length) := set_far (by show _ ≠ w.heap.size + 1 + 1; omega)
  have s22 : ∀ (W : World) (v : Value), (W.setCell ⟨w.heap.size + 1 + 1, 2, none⟩ v).cell? (a.add bs.length) = W.cell? (a.add bs.length) := set_far (by show _ ≠ w.heap.size + 1 + 1; omega)
  have s23 : ∀ (W : World) (v : Value), (W.setCell ⟨w.heap.size + 1 + 1, 3, none⟩ v).cell? (a.add bs.length) = W.cell? (a.add bs.length) := set_far (by show _ ≠ w.heap.size + 1 + 1; omega)
  have ng1 : ¬ g = w.heap.size + 1 := by omega
  have ng2 : ¬ g = w.heap.size + 1 + 1 := by omega
  have ng1' : ¬ w.heap.size + 1 = g := by omega
  have ng2' : ¬ w.heap.size + 1 + 1 = g := by omega
  go_wp2
  go_region
  go_wp2
  refine bodyPost_ret (v := .tuple #[.agg #[.int .i64 (wrap64 (t3 + t4)), .slice A5 bs.length c5], .agg #[.int .i64 1, .int .u64 x0, .int .u64 0, .int .i64 0]]) (by simp [results, Try.results45, go_sem, c10, c11, c20, c21, c22, c23, i64_w]) rfl ⟨_, rfl, Kd.R_drew (end_row HC.out.row HC.out.b1 HC.out.b2 _ _ _ _ _ _), below_drew (end_below HC.out.bel _ _ _ _ _ _)⟩
end Go.Proofs.Ytjbpljcfogekhaa.Q
namespace Go.Proofs.Ytjbpljcfogekhaa.Q
open Go.RowKit YtjbpljcfogekhaaW.PrintWords YtjbpljcfogekhaaW.PrintLast YtjbpljcfogekhaaW.PrintMore
set_option maxHeartbeats 4000000 in
set_option maxRecDepth 100000 in
theorem step_store (k : Nat) (s : ByteArray) (pc : Int) (a : Addr) (c : Nat) (bs : List Int) (x0 x1 t2 t3 t4 q : Int) (w : World) (hr : Kd.C (Kd.int .u64) w (some a) (bs.length + 2) (bs ++ [x0, x1])) (hc : bs.length + 2 ≤ c) (hl : bs.length < 1000000)
  (h : code_One.f k s pc = some (20, t2, t3, t4, 0)) (h2 : code_Moves.f k 20 t2 t3 t4 = some (2, q)) (hq0 : 0 ≤ q) (hq1 : q ≤ 10) (hfit : (bs.length : Int) + q ≤ 32) :
  Calls Try.prog 45 #[.string s, .agg #[.int .i64 pc, .slice (some a) (bs.length + 2) c]] w fun e w' => ∃ v1_ : Value, e = .returned (.tuple #[.agg #[.int .i64 (wrap64 (t3 + t4)), v1_], .agg #[.int .i64 2, .int .u64 x1, .int .u64 x0, .int .i64 0]]) ∧ Kd.R (Kd.int .u64) 34 w' w.heap.size (fun _ => True) v1_ (bs) ∧ Below w.heap.size w w' := by
 have hu59 := Try.underlying59
 have hu61 := Try.underlying61
 have hu36 := Try.underlying36
 have HO := Aside0.mk h
 have HM := Aside0.mk h2
 have HR := Aside0.mk hr
 have HRb := Aside0.mk (row_front hr)
 have HL := Aside0.mk (show bs.length < 17592186044416 by omega)
 have hcb : (bs.length : Int) ≤ (c : Int) := by omega
 have hcb0 : (0 : Int) ≤ (bs.length : Int) := by omega
 clear h h2 hr
 go_enter Try.func45, Try.ntmps45
 go_wp2_with (first
  | (go_at_call 20; refine (code_One.calls k s pc 20 t2 t3 t4 0 _ HO.out).mono ?_; rintro e w4 ⟨rfl, hb⟩; obtain ⟨b0, b1, b2, hB, hz4⟩ := three_blocks hb; have z0 : w.heap.size < w4.heap.size := (by omega); have z1 : w.heap.size + 1 < w4.heap.size := (by omega); have z2 : w.heap.size + 1 + 1 < w4.heap.size := (by omega); clear hz4; obtain ⟨⟨c00, c01⟩, f00, f01⟩ := cells2 b0; obtain ⟨⟨c10, c11⟩, f10, f11⟩ := cells2 b1; obtain ⟨⟨c20, c21, c22, c23⟩, f20, f21, f22, f23⟩ := cells4 b2; have B0 := Aside0.mk b0; have B1 := Aside0.mk b1; have B2 := Aside0.mk b2; have HB := Aside0.mk hB; clear b0 b1 b2 hB hb)
  | (go_at_call 23; refine (code_Moves.calls k 20 t2 t3 t4 2 q _ HM.out).mono ?_; rintro e w5 ⟨rfl, hb⟩; have b0 := blk_below (blk_alloc B0.out _) hb; have b1 := blk_below (blk_alloc B1.out _) hb; have b2 := blk_below (blk_alloc B2.out _) hb; have b6 := blk_below (blk_new w4 _) hb; have HB5 := Aside0.mk (below_step (below_alloc HB.out _) hb); have y6 : w4.heap.size < w5.heap.size := (blk_lt b6); have y0 : w.heap.size < w5.heap.size := (blk_lt b0); have y1 : w.heap.size + 1 < w5.heap.size := (blk_lt b1); have y2 : w.heap.size + 1 + 1 < w5.heap.size := (blk_lt b2); have n6 : ¬ w4.heap.size = w5.heap.size := (Nat.ne_of_lt y6); have n0 : ¬ w.heap.size = w5.heap.size := (Nat.ne_of_lt y0); have n1 : ¬ w.heap.size + 1 = w5.heap.size := (Nat.ne_of_lt y1); have n2 : ¬ w.heap.size + 1 + 1 = w5.heap.size := (Nat.ne_of_lt y2); have m6 : ¬ w5.heap.size = w4.heap.size := (Nat.ne_of_gt y6); have m0 : ¬ w5.heap.size = w.heap.size := (Nat.ne_of_gt y0); have m1 : ¬ w5.heap.size = w.heap.size + 1 := (Nat.ne_of_gt y1); have m2 : ¬ w5.heap.size = w.heap.size + 1 + 1 := (Nat.ne_of_gt y2); clear c00 c01 f00 f01 c10 c11 f10 f11 c20 c21 c22 c23 f20 f21 f22 f23; obtain ⟨⟨c00, c01⟩, f00, f01⟩ := cells2 b0; obtain ⟨⟨c10, c11⟩, f10, f11⟩ := cells2 b1; obtain ⟨⟨c20, c21, c22, c23⟩, f20, f21, f22, f23⟩ := cells4 b2; obtain ⟨⟨c60, c61, c62, c63⟩, f60, f61, f62, f63⟩ := cells4 b6; have B0' := Aside0.mk b0; have B1' := Aside0.mk b1; have B2' := Aside0.mk b2; have B6' := Aside0.mk b6; clear b0 b1 b2 b6 hb))
 go_cut [11] (fun v11 wc => ∃ (g : Nat) (vv : Value), v11 = .pointer (some ⟨g, 0, none⟩) ∧ Aside0 (StepMid w wc w4.heap.size g pc (some a) (bs.length + 2) c 20 t2 t3 t4 (wrap64 (t3 + t4)) vv bs))
 case first =>
  go_region_held3 (fun w' => w'.cell? ⟨w4.heap.size, 2, none⟩ = some (.int .i64 t3) ∧ w'.cell? ⟨w4.heap.size, 3, none⟩ = some (.int .i64 t4) ∧ w'.cell? ⟨w.heap.size, 1, none⟩ = some (.slice (some a) (bs.length + 2) c))
   (first | go_keep | ((try dsimp only); (repeat' apply And.intro); all_goals go_keep))
   ((go_at_call 47; go_must (refine (clone_row (some a) c bs _ (Kd.C_below HRb.out (by repeat (first | (with_reducible exact HB5.out) | (with_reducible apply below_alloc) | (with_reducible apply below_drew)))) (by omega) HL.out).mono ?_; rintro e w6 ⟨vv, rfl, hR, hb⟩; obtain ⟨A5, c5, rfl⟩ := Kd.R_slice hR; have hB56 : Below w5.heap.size w5 w6 := (by refine below_step ?_ hb; repeat (first | (with_reducible exact Below.refl _ _) | (with_reducible apply below_alloc) | (with_reducible apply below_drew))); have b0 := blk_below B0'.out hB56; have b1 := blk_below B1'.out hB56; have b2 := blk_below B2'.out hB56; have b6 := blk_below B6'.out hB56; have v0 := blk_lt b0; have v1 := blk_lt b1; have v2 := blk_lt b2; have v6 := blk_lt b6; clear c00 c01 f00 f01 c10 c11 f10 f11 c20 c21 c22 c23 f20 f21 f22 f23 c60 c61 c62 c63 f60 f61 f62 f63; obtain ⟨⟨c00, c01⟩, f00, f01⟩ := cells2 b0; obtain ⟨⟨c10, c11⟩, f10, f11⟩ := cells2 b1; obtain ⟨⟨c20, c21, c22, c23⟩, f20, f21, f22, f23⟩ := cells4 b2; obtain ⟨⟨c60, c61, c62, c63⟩, f60, f61, f62, f63⟩ := cells4 b6; have E0 := Aside0.mk b0; have E1 := Aside0.mk b1; have E2 := Aside0.mk b2; have E6 := Aside0.mk b6; clear b0 b1 b2 b6; have ER := Aside0.mk hR; have EB := Aside0.mk hB56; (try (have b11 : w6.heap[w5.heap.size]? = some (.cells #[.int .i64 0, .slice none 0 0] 59 (0, 0)) := (by with_reducible exact blk_below (blk_drew (blk_new w5 _)) hb); obtain ⟨⟨d0, d1⟩, e0, e1⟩ := cells2 b11; have y11 := blk_lt b11; have E11 := Aside0.mk b11; clear b11)); clear hR)))
  all_goals go_wp2
  all_goals go_meet
  all_goals simp only [i64_w]
  case rel => exact ⟨_, _, rfl, ⟨mid_new E0.out E1.out E2.out E6.out ER.out (by simp; omega) HB5.out EB.out (by omega)⟩⟩
  case rel => exact ⟨_, _, rfl, ⟨mid_old E0.out E1.out E2.out E6.out E11.out ER.out (by simp) HB5.out EB.out (by omega) (by omega)⟩⟩
 case rest =>
  obtain ⟨g, vv, rfl, HC⟩ := hcut
  have m := HC.out
  obtain ⟨A5, c5, rfl⟩ := Kd.R_slice m.row
  clear c00 c01 f00 f01 c10 c11 f10 f11 c20 c21 c22 c23 f20 f21 f22 f23 c60 c61 c62 c63 f60 f61 f62 f63 y6 y0 y1 y2 n6 n0 n1 n2 m6 m0 m1 m2 z0 z1 z2 HB HB5 B0 B1 B2 B0' B1' B2' B6'
  obtain ⟨⟨c00, c01⟩, f00, f01⟩ := cells2 m.b0
  obtain ⟨⟨c10, c11⟩, f10, f11⟩ := cells2 m.b1
  obtain ⟨⟨c20, c21, c22, c23⟩, f20, f21, f22, f23⟩ := cells4 m.b2
  obtain ⟨⟨c60, c61, c62, c63⟩, f60, f61, f62, f63⟩ := cells4 m.b6
  obtain ⟨⟨cg0, cg1⟩, fg0, fg1⟩ := cells2 m.bg
  have hx0 : wc.cell? (a.add bs.length) = some (.int .u64 x0) := row_at0 (Kd.C_below HR.out m.bel)
  have hx1 : wc.cell? ⟨(a.add bs.length).block, (a.add bs.length).off + 1, none⟩ = some (.int .u64 x1) := row_at1f (Kd.C_below HR.out m.bel)
  have LB := m.bel.size
  have L6 := m.n6
  have LG := m.ng
  clear m
  have ha := World.block_lt_of_cell? w _ (row_at0 HR.out)
  have s10 : ∀ (W : World) (v : Value), (W.setCell ⟨w.heap.size + 1, 0, none⟩ v).cell? (a.add bs.length) = W.cell? (a.add bs.length) := set_far (by show _ ≠ w.heap.size + 1; omega)
  have s11 : ∀ (W : World) (v : Value), (W.setCell ⟨w.heap.size + 1, 1, none⟩ v).cell? (a.add bs.length) = W.cell? (a.add bs.length) := set_far (by show _ ≠ w.heap.size + 1; omega)
  have s12 : ∀ (W : World) (v : Value), (W.setCell ⟨w.heap.size + 1, 2, none⟩ v).cell? (a.add bs.length) = W.cell? (a.add bs.length) := set_far (by show _ ≠ w.heap.size + 1; omega)
  have s13 : ∀ (W : World) (v : Value), (W.setCell ⟨w.heap.size + 1, 3, none⟩ v).cell? (a.add bs.length) = W.cell? (a.add bs.length) := set_far (by show _ ≠ w.heap.size + 1; omega)
  have s20 : ∀ (W : World) (v : Value), (W.setCell ⟨w.heap.size + 1 + 1, 0, none⟩ v).cell? (a.add bs.length) = W.cell? (a.add bs.length) := set_far (by show _ ≠ w.heap.size + 1 + 1; omega)
  have s21 : ∀ (W : World) (v : Value), (W.setCell ⟨w.heap.size + 1 + 1, 1, none⟩ v).cell? (a.add bs.length) = W.cell? (a.add bs.length) := set_far (by show _ ≠ w.heap.size + 1 + 1; omega)
  have s22 : ∀ (W : World) (v : Value), (W.setCell ⟨w.heap.size + 1 + 1, 2, none⟩ v).cell? (a.add bs.length) = W.cell? (a.add bs.length) := set_far (by show _ ≠ w.heap.size + 1 + 1; omega)
  have s23 : ∀ (W : World) (v : Value), (W.setCell ⟨w.heap.size + 1 + 1, 3, none⟩ v).cell? (a.add bs.length) = W.cell? (a.add bs.length) := set_far (by show _ ≠ w.heap.size + 1 + 1; omega)
  have r10 : ∀ (W : World) (v : Value), (W.setCell ⟨w.heap.size + 1, 0, none⟩ v).cell? ⟨(a.add bs.length).block, (a.add bs.length).off + 1, none⟩ = W.cell? ⟨(a.add bs.length).block, (a.add bs.length).off + 1, none⟩ := set_far (by show (a.add bs.length).block ≠ w.heap.size + 1; omega)
  have r11 : ∀ (W : World) (v : Value), (W.setCell ⟨w.heap.size + 1, 1, none⟩ v).cell? ⟨(a.add bs.length).block, (a.add bs.length).off + 1, none⟩ = W.cell? ⟨(a.add bs.length).block, (a.add bs.length).off + 1, none⟩ := set_far (by show (a.add bs.length).block ≠ w.heap.size + 1; omega)
  have r12 : ∀ (W : World) (v : Value), (W.setCell ⟨w.heap.size + 1, 2, none⟩ v).cell? ⟨(a.add bs.length).block, (a.add bs.length).off + 1, none⟩ = W.cell? ⟨(a.add bs.length).block, (a.add bs.length).off + 1, none⟩ := set_far (by show (a.add bs.length).block ≠ w.heap.size + 1; omega)
  have r13 : ∀ (W : World) (v : Value), (W.setCell ⟨w.heap.size + 1, 3, none⟩ v).cell? ⟨(a.add bs.length).block, (a.add bs.length).off + 1, none⟩ = W.cell? ⟨(a.add bs.length).block, (a.add bs.length).off + 1, none⟩ := set_far (by show (a.add bs.length).block ≠ w.heap.size + 1; omega)
  have r20 : ∀ (W : World) (v : Value), (W.setCell ⟨w.heap.size + 1 + 1, 0, none⟩ v).cell? ⟨(a.add bs.length).block, (a.add bs.length).off + 1, none⟩ = W.cell? ⟨(a.add bs.length).block, (a.add bs.length).off + 1, none⟩ := set_far (by show (a.add bs.length).block ≠ w.heap.size + 1 + 1; omega)
  have r21 : ∀ (W : World) (v : Value), (W.setCell ⟨w.heap.size + 1 + 1, 1, none⟩ v).cell? ⟨(a.add bs.length).block, (a.add bs.length).off + 1, none⟩ = W.cell? ⟨(a.add bs.length).block, (a.add bs.length).off + 1, none⟩ := set_far (by show (a.add bs.length).block ≠ w.heap.size + 1 + 1; omega)
  have r22 : ∀ (W : World) (v : Value), (W.setCell ⟨w.heap.size + 1 + 1, 2, none⟩ v).cell? ⟨(a.add bs.length).block, (a.add bs.length).off + 1, none⟩ = W.cell? ⟨(a.add bs.length).block, (a.add bs.length).off + 1, none⟩ := set_far (by show (a.add bs.length).block ≠ w.heap.size + 1 + 1; omega)
  have r23 : ∀ (W : World) (v : Value), (W.setCell ⟨w.heap.size + 1 + 1, 3, none⟩ v).cell? ⟨(a.add bs.length).block, (a.add bs.length).off + 1, none⟩ = W.cell? ⟨(a.add bs.length).block, (a.add bs.length).off + 1, none⟩ := set_far (by show (a.add bs.length).block ≠ w.heap.size + 1 + 1; omega)
  have ng1 : ¬ g = w.heap.size + 1 := by omega
  have ng2 : ¬ g = w.heap.size + 1 + 1 := by omega
  have ng1' : ¬ w.heap.size + 1 = g := by omega
  have ng2' : ¬ w.heap.size + 1 + 1 = g := by omega
  go_wp2
  go_region
  go_wp2
  refine bodyPost_ret (v := .tuple #[.agg #[.int .i64 (wrap64 (t3 + t4)), .slice A5 bs.length c5], .agg #[.int .i64 2, .int .u64 x1, .int .u64 x0, .int .i64 0]]) (by simp [results, Try.results45, go_sem, c10, c11, c20, c21, c22, c23, i64_w]) rfl ⟨_, rfl, Kd.R_drew (end_row HC.out.row HC.out.b1 HC.out.b2 _ _ _ _ _ _), below_drew (end_below HC.out.bel _ _ _ _ _ _)⟩
end Go.Proofs.Ytjbpljcfogekhaa.Q
namespace Go.Proofs.Ytjbpljcfogekhaa.Q
open Go.RowKit YtjbpljcfogekhaaW.PrintWords YtjbpljcfogekhaaW.PrintLast YtjbpljcfogekhaaW.PrintMore
set_option maxHeartbeats 4000000 in
set_option maxRecDepth 100000 in
theorem step_zero1 (k : Nat) (s : ByteArray) (pc : Int) (a : Addr) (c : Nat) (bs : List Int) (x0 t2 t3 t4 q : Int) (w : World) (hr : Kd.C (Kd.int .u64) w (some a) (bs.length + 1) (bs ++ [x0])) (hc : bs.length + 1 ≤ c) (hl : bs.length < 1000000)
  (h : code_One.f k s pc = some (22, t2, t3, t4, 0)) (h2 : code_Moves.f k 22 t2 t3 t4 = some (1, q)) (hq0 : 0 ≤ q) (hq1 : q ≤ 10) (hfit : (bs.length : Int) + q ≤ 32)
  (hx : (x0 == 0) = true) :
  Calls Try.prog 45 #[.string s, .agg #[.int .i64 pc, .slice (some a) (bs.length + 1) c]] w fun e w' => ∃ v1_ : Value, e = .returned (.tuple #[.agg #[.int .i64 (wrap64 t2), v1_], .agg #[.int .i64 0, .int .u64 0, .int .u64 0, .int .i64 0]]) ∧ Kd.R (Kd.int .u64) 34 w' w.heap.size (fun _ => True) v1_ (bs) ∧ Below w.heap.size w w' := by
 have hu59 := Try.underlying59
 have hu61 := Try.underlying61
 have hu36 := Try.underlying36
 have HO := Aside0.mk h
 have HM := Aside0.mk h2
 have HR := Aside0.mk hr
 have HRb := Aside0.mk (row_front hr)
 have HL := Aside0.mk (show bs.length < 17592186044416 by omega)
 have hcb : (bs.length : Int) ≤ (c : Int) := by omega
 have hcb0 : (0 : Int) ≤ (bs.length : Int) := by omega
 clear h h2 hr
 go_enter Try.func45, Try.ntmps45
 go_wp2_with (first
  | (go_at_call 20; refine (code_One.calls k s pc 22 t2 t3 t4 0 _ HO.out).mono ?_; rintro e w4 ⟨rfl, hb⟩; obtain ⟨b0, b1, b2, hB, hz4⟩ := three_blocks hb; have z0 : w.heap.size < w4.heap.size := (by omega); have z1 : w.heap.size + 1 < w4.heap.size := (by omega); have z2 : w.heap.size + 1 + 1 < w4.heap.size := (by omega); clear hz4; obtain ⟨⟨c00, c01⟩, f00, f01⟩ := cells2 b0; obtain ⟨⟨c10, c11⟩, f10, f11⟩ := cells2 b1; obtain ⟨⟨c20, c21, c22, c23⟩, f20, f21, f22, f23⟩ := cells4 b2; have B0 := Aside0.mk b0; have B1 := Aside0.mk b1; have B2 := Aside0.mk b2; have HB := Aside0.mk hB; clear b0 b1 b2 hB hb)
  | (go_at_call 23; refine (code_Moves.calls k 22 t2 t3 t4 1 q _ HM.out).mono ?_; rintro e w5 ⟨rfl, hb⟩; have b0 := blk_below (blk_alloc B0.out _) hb; have b1 := blk_below (blk_alloc B1.out _) hb; have b2 := blk_below (blk_alloc B2.out _) hb; have b6 := blk_below (blk_new w4 _) hb; have HB5 := Aside0.mk (below_step (below_alloc HB.out _) hb); have y6 : w4.heap.size < w5.heap.size := (blk_lt b6); have y0 : w.heap.size < w5.heap.size := (blk_lt b0); have y1 : w.heap.size + 1 < w5.heap.size := (blk_lt b1); have y2 : w.heap.size + 1 + 1 < w5.heap.size := (blk_lt b2); have n6 : ¬ w4.heap.size = w5.heap.size := (Nat.ne_of_lt y6); have n0 : ¬ w.heap.size = w5.heap.size := (Nat.ne_of_lt y0); have n1 : ¬ w.heap.size + 1 = w5.heap.size := (Nat.ne_of_lt y1); have n2 : ¬ w.heap.size + 1 + 1 = w5.heap.size := (Nat.ne_of_lt y2); have m6 : ¬ w5.heap.size = w4.heap.size := (Nat.ne_of_gt y6); have m0 : ¬ w5.heap.size = w.heap.size := (Nat.ne_of_gt y0); have m1 : ¬ w5.heap.size = w.heap.size + 1 := (Nat.ne_of_gt y1); have m2 : ¬ w5.heap.size = w.heap.size + 1 + 1 := (Nat.ne_of_gt y2); clear c00 c01 f00 f01 c10 c11 f10 f11 c20 c21 c22 c23 f20 f21 f22 f23; obtain ⟨⟨c00, c01⟩, f00, f01⟩ := cells2 b0; obtain ⟨⟨c10, c11⟩, f10, f11⟩ := cells2 b1; obtain ⟨⟨c20, c21, c22, c23⟩, f20, f21, f22, f23⟩ := cells4 b2; obtain ⟨⟨c60, c61, c62, c63⟩, f60, f61, f62, f63⟩ := cells4 b6; have B0' := Aside0.mk b0; have B1' := Aside0.mk b1; have B2' := Aside0.mk b2; have B6' := Aside0.mk b6; clear b0 b1 b2 b6 hb))
 go_cut [11] (fun v11 wc => ∃ (g : Nat) (vv : Value), v11 = .pointer (some ⟨g, 0, none⟩) ∧ Aside0 (StepMid w wc w4.heap.size g pc (some a) (bs.length + 1) c 22 t2 t3 t4 (wrap64 (t3 + t4)) vv bs))
 case first =>
  go_region_held3 (fun w' => w'.cell? ⟨w4.heap.size, 2, none⟩ = some (.int .i64 t3) ∧ w'.cell? ⟨w4.heap.size, 3, none⟩ = some (.int .i64 t4) ∧ w'.cell? ⟨w.heap.size, 1, none⟩ = some (.slice (some a) (bs.length + 1) c))
   (first | go_keep | ((try dsimp only); (repeat' apply And.intro); all_goals go_keep))
   ((go_at_call 47; go_must (refine (clone_row (some a) c bs _ (Kd.C_below HRb.out (by repeat (first | (with_reducible exact HB5.out) | (with_reducible apply below_alloc) | (with_reducible apply below_drew)))) (by omega) HL.out).mono ?_; rintro e w6 ⟨vv, rfl, hR, hb⟩; obtain ⟨A5, c5, rfl⟩ := Kd.R_slice hR; have hB56 : Below w5.heap.size w5 w6 := (by refine below_step ?_ hb; repeat (first | (with_reducible exact Below.refl _ _) | (with_reducible apply below_alloc) | (with_reducible apply below_drew))); have b0 := blk_below B0'.out hB56; have b1 := blk_below B1'.out hB56; have b2 := blk_below B2'.out hB56; have b6 := blk_below B6'.out hB56; have v0 := blk_lt b0; have v1 := blk_lt b1; have v2 := blk_lt b2; have v6 := blk_lt b6; clear c00 c01 f00 f01 c10 c11 f10 f11 c20 c21 c22 c23 f20 f21 f22 f23 c60 c61 c62 c63 f60 f61 f62 f63; obtain ⟨⟨c00, c01⟩, f00, f01⟩ := cells2 b0; obtain ⟨⟨c10, c11⟩, f10, f11⟩ := cells2 b1; obtain ⟨⟨c20, c21, c22, c23⟩, f20, f21, f22, f23⟩ := cells4 b2; obtain ⟨⟨c60, c61, c62, c63⟩, f60, f61, f62, f63⟩ := cells4 b6; have E0 := Aside0.mk b0; have E1 := Aside0.mk b1; have E2 := Aside0.mk b2; have E6 := Aside0.mk b6; clear b0 b1 b2 b6; have ER := Aside0.mk hR; have EB := Aside0.mk hB56; (try (have b11 : w6.heap[w5.heap.size]? = some (.cells #[.int .i64 0, .slice none 0 0] 59 (0, 0)) := (by with_reducible exact blk_below (blk_drew (blk_new w5 _)) hb); obtain ⟨⟨d0, d1⟩, e0, e1⟩ := cells2 b11; have y11 := blk_lt b11; have E11 := Aside0.mk b11; clear b11)); clear hR)))
  all_goals go_wp2
  all_goals go_meet
  all_goals simp only [i64_w]
  case rel => exact ⟨_, _, rfl, ⟨mid_new E0.out E1.out E2.out E6.out ER.out (by simp; omega) HB5.out EB.out (by omega)⟩⟩
  case rel => exact ⟨_, _, rfl, ⟨mid_old E0.out E1.out E2.out E6.out E11.out ER.out (by simp) HB5.out EB.out (by omega) (by omega)⟩⟩
 case rest =>
  obtain ⟨g, vv, rfl, HC⟩ := hcut
  have m := HC.out
  obtain ⟨A5, c5, rfl⟩ := Kd.R_slice m.row
  clear c00 c01 f00 f01 c10 c11 f10 f11 c20 c21 c22 c23 f20 f21 f22 f23 c60 c61 c62 c63 f60 f61 f62 f63 y6 y0 y1 y2 n6 n0 n1 n2 m6 m0 m1 m2 z0 z1 z2 HB HB5 B0 B1 B2 B0' B1' B2' B6'
  obtain ⟨⟨c00, c01⟩, f00, f01⟩ := cells2 m.b0
  obtain ⟨⟨c10, c11⟩, f10, f11⟩ := cells2 m.b1
  obtain ⟨⟨c20, c21, c22, c23⟩, f20, f21, f22, f23⟩ := cells4 m.b2
  obtain ⟨⟨c60, c61, c62, c63⟩, f60, f61, f62, f63⟩ := cells4 m.b6
  obtain ⟨⟨cg0, cg1⟩, fg0, fg1⟩ := cells2 m.bg
  have hx0 : wc.cell? (a.add bs.length) = some (.int .u64 x0) := row_at0 (Kd.C_below HR.out m.bel)
  have LB := m.bel.size
  have L6 := m.n6
  have LG := m.ng
  clear m
  have ng1 : ¬ g = w.heap.size + 1 := by omega
  have ng2 : ¬ g = w.heap.size + 1 + 1 := by omega
  have ng1' : ¬ w.heap.size + 1 = g := by omega
  have ng2' : ¬ w.heap.size + 1 + 1 = g := by omega
  go_wp2
  refine bodyPost_ret (v := .tuple #[.agg #[.int .i64 (wrap64 t2), .slice A5 bs.length c5], .agg #[.int .i64 0, .int .u64 0, .int .u64 0, .int .i64 0]]) (by simp [results, Try.results45, go_sem, c10, c11, c20, c21, c22, c23, i64_w]) rfl ⟨_, rfl, end_row (mid_row HC.out _) (mid_b1 HC.out _) (mid_b2 HC.out _) _ _ _ _ _ _, end_below (mid_bel HC.out _) _ _ _ _ _ _⟩
set_option maxHeartbeats 4000000 in
set_option maxRecDepth 100000 in
theorem step_zero0 (k : Nat) (s : ByteArray) (pc : Int) (a : Addr) (c : Nat) (bs : List Int) (x0 t2 t3 t4 q : Int) (w : World) (hr : Kd.C (Kd.int .u64) w (some a) (bs.length + 1) (bs ++ [x0])) (hc : bs.length + 1 ≤ c) (hl : bs.length < 1000000)
  (h : code_One.f k s pc = some (22, t2, t3, t4, 0)) (h2 : code_Moves.f k 22 t2 t3 t4 = some (1, q)) (hq0 : 0 ≤ q) (hq1 : q ≤ 10) (hfit : (bs.length : Int) + q ≤ 32)
  (hx : (x0 == 0) = false) :
  Calls Try.prog 45 #[.string s, .agg #[.int .i64 pc, .slice (some a) (bs.length + 1) c]] w fun e w' => ∃ v1_ : Value, e = .returned (.tuple #[.agg #[.int .i64 (wrap64 (t3 + t4)), v1_], .agg #[.int .i64 0, .int .u64 0, .int .u64 0, .int .i64 0]]) ∧ Kd.R (Kd.int .u64) 34 w' w.heap.size (fun _ => True) v1_ (bs) ∧ Below w.heap.size w w' := by
 have hu59 := Try.underlying59
 have hu61 := Try.underlying61
 have hu36 := Try.underlying36
 have HO := Aside0.mk h
 have HM := Aside0.mk h2
 have HR := Aside0.mk hr
 have HRb := Aside0.mk (row_front hr)
 have HL := Aside0.mk (show bs.length < 17592186044416 by omega)
 have hcb : (bs.length : Int) ≤ (c : Int) := by omega
 have hcb0 : (0 : Int) ≤ (bs.length : Int) := by omega
 clear h h2 hr
 go_enter Try.func45, Try.ntmps45
 go_wp2_with (first
  | (go_at_call 20; refine (code_One.calls k s pc 22 t2 t3 t4 0 _ HO.out).mono ?_; rintro e w4 ⟨rfl, hb⟩; obtain ⟨b0, b1, b2, hB, hz4⟩ := three_blocks hb; have z0 : w.heap.size < w4.heap.size := (by omega); have z1 : w.heap.size + 1 < w4.heap.size := (by omega); have z2 : w.heap.size + 1 + 1 < w4.heap.size := (by omega); clear hz4; obtain ⟨⟨c00, c01⟩, f00, f01⟩ := cells2 b0; obtain ⟨⟨c10, c11⟩, f10, f11⟩ := cells2 b1; obtain ⟨⟨c20, c21, c22, c23⟩, f20, f21, f22, f23⟩ := cells4 b2; have B0 := Aside0.mk b0; have B1 := Aside0.mk b1; have B2 := Aside0.mk b2; have HB := Aside0.mk hB; clear b0 b1 b2 hB hb)
  | (go_at_call 23; refine (code_Moves.calls k 22 t2 t3 t4 1 q _ HM.out).mono ?_; rintro e w5 ⟨rfl, hb⟩; have b0 := blk_below (blk_alloc B0.out _) hb; have b1 := blk_below (blk_alloc B1.out _) hb; have b2 := blk_below (blk_alloc B2.out _) hb; have b6 := blk_below (blk_new w4 _) hb; have HB5 := Aside0.mk (below_step (below_alloc HB.out _) hb); have y6 : w4.heap.size < w5.heap.size := (blk_lt b6); have y0 : w.heap.size < w5.heap.size := (blk_lt b0); have y1 : w.heap.size + 1 < w5.heap.size := (blk_lt b1); have y2 : w.heap.size + 1 + 1 < w5.heap.size := (blk_lt b2); have n6 : ¬ w4.heap.size = w5.heap.size := (Nat.ne_of_lt y6); have n0 : ¬ w.heap.size = w5.heap.size := (Nat.ne_of_lt y0); have n1 : ¬ w.heap.size + 1 = w5.heap.size := (Nat.ne_of_lt y1); have n2 : ¬ w.heap.size + 1 + 1 = w5.heap.size := (Nat.ne_of_lt y2); have m6 : ¬ w5.heap.size = w4.heap.size := (Nat.ne_of_gt y6); have m0 : ¬ w5.heap.size = w.heap.size := (Nat.ne_of_gt y0); have m1 : ¬ w5.heap.size = w.heap.size + 1 := (Nat.ne_of_gt y1); have m2 : ¬ w5.heap.size = w.heap.size + 1 + 1 := (Nat.ne_of_gt y2); clear c00 c01 f00 f01 c10 c11 f10 f11 c20 c21 c22 c23 f20 f21 f22 f23; obtain ⟨⟨c00, c01⟩, f00, f01⟩ := cells2 b0; obtain ⟨⟨c10, c11⟩, f10, f11⟩ := cells2 b1; obtain ⟨⟨c20, c21, c22, c23⟩, f20, f21, f22, f23⟩ := cells4 b2; obtain ⟨⟨c60, c61, c62, c63⟩, f60, f61, f62, f63⟩ := cells4 b6; have B0' := Aside0.mk b0; have B1' := Aside0.mk b1; have B2' := Aside0.mk b2; have B6' := Aside0.mk b6; clear b0 b1 b2 b6 hb))
 go_cut [11] (fun v11 wc => ∃ (g : Nat) (vv : Value), v11 = .pointer (some ⟨g, 0, none⟩) ∧ Aside0 (StepMid w wc w4.heap.size g pc (some a) (bs.length + 1) c 22 t2 t3 t4 (wrap64 (t3 + t4)) vv bs))
 case first =>
  go_region_held3 (fun w' => w'.cell? ⟨w4.heap.size, 2, none⟩ = some (.int .i64 t3) ∧ w'.cell? ⟨w4.heap.size, 3, none⟩ = some (.int .i64 t4) ∧ w'.cell? ⟨w.heap.size, 1, none⟩ = some (.slice (some a) (bs.length + 1) c))
   (first | go_keep | ((try dsimp only); (repeat' apply And.intro); all_goals go_keep))
   ((go_at_call 47; go_must (refine (clone_row (some a) c bs _ (Kd.C_below HRb.out (by repeat (first | (with_reducible exact HB5.out) | (with_reducible apply below_alloc) | (with_reducible apply below_drew)))) (by omega) HL.out).mono ?_; rintro e w6 ⟨vv, rfl, hR, hb⟩; obtain ⟨A5, c5, rfl⟩ := Kd.R_slice hR; have hB56 : Below w5.heap.size w5 w6 := (by refine below_step ?_ hb; repeat (first | (with_reducible exact Below.refl _ _) | (with_reducible apply below_alloc) | (with_reducible apply below_drew))); have b0 := blk_below B0'.out hB56; have b1 := blk_below B1'.out hB56; have b2 := blk_below B2'.out hB56; have b6 := blk_below B6'.out hB56; have v0 := blk_lt b0; have v1 := blk_lt b1; have v2 := blk_lt b2; have v6 := blk_lt b6; clear c00 c01 f00 f01 c10 c11 f10 f11 c20 c21 c22 c23 f20 f21 f22 f23 c60 c61 c62 c63 f60 f61 f62 f63; obtain ⟨⟨c00, c01⟩, f00, f01⟩ := cells2 b0; obtain ⟨⟨c10, c11⟩, f10, f11⟩ := cells2 b1; obtain ⟨⟨c20, c21, c22, c23⟩, f20, f21, f22, f23⟩ := cells4 b2; obtain ⟨⟨c60, c61, c62, c63⟩, f60, f61, f62, f63⟩ := cells4 b6; have E0 := Aside0.mk b0; have E1 := Aside0.mk b1; have E2 := Aside0.mk b2; have E6 := Aside0.mk b6; clear b0 b1 b2 b6; have ER := Aside0.mk hR; have EB := Aside0.mk hB56; (try (have b11 : w6.heap[w5.heap.size]? = some (.cells #[.int .i64 0, .slice none 0 0] 59 (0, 0)) := (by with_reducible exact blk_below (blk_drew (blk_new w5 _)) hb); obtain ⟨⟨d0, d1⟩, e0, e1⟩ := cells2 b11; have y11 := blk_lt b11; have E11 := Aside0.mk b11; clear b11)); clear hR)))
  all_goals go_wp2
  all_goals go_meet
  all_goals simp only [i64_w]
  case rel => exact ⟨_, _, rfl, ⟨mid_new E0.out E1.out E2.out E6.out ER.out (by simp; omega) HB5.out EB.out (by omega)⟩⟩
  case rel => exact ⟨_, _, rfl, ⟨mid_old E0.out E1.out E2.out E6.out E11.out ER.out (by simp) HB5.out EB.out (by omega) (by omega)⟩⟩
 case rest =>
  obtain ⟨g, vv, rfl, HC⟩ := hcut
  have m := HC.out
  obtain ⟨A5, c5, rfl⟩ := Kd.R_slice m.row
  clear c00 c01 f00 f01 c10 c11 f10 f11 c20 c21 c22 c23 f20 f21 f22 f23 c60 c61 c62 c63 f60 f61 f62 f63 y6 y0 y1 y2 n6 n0 n1 n2 m6 m0 m1 m2 z0 z1 z2 HB HB5 B0 B1 B2 B0' B1' B2' B6'
  obtain ⟨⟨c00, c01⟩, f00, f01⟩ := cells2 m.b0
  obtain ⟨⟨c10, c11⟩, f10, f11⟩ := cells2 m.b1
  obtain ⟨⟨c20, c21, c22, c23⟩, f20, f21, f22, f23⟩ := cells4 m.b2
  obtain ⟨⟨c60, c61, c62, c63⟩, f60, f61, f62, f63⟩ := cells4 m.b6
  obtain ⟨⟨cg0, cg1⟩, fg0, fg1⟩ := cells2 m.bg
  have hx0 : wc.cell? (a.add bs.length) = some (.int .u64 x0) := row_at0 (Kd.C_below HR.out m.bel)
  have LB := m.bel.size
  have L6 := m.n6
  have LG := m.ng
  clear m
  go_wp2
  refine bodyPost_ret (v := .tuple #[.agg #[.int .i64 (wrap64 (t3 + t4)), .slice A5 bs.length c5], .agg #[.int .i64 0, .int .u64 0, .int .u64 0, .int .i64 0]]) (by simp [results, Try.results45, go_sem, c10, c11, c20, c21, c22, c23, i64_w]) rfl ⟨_, rfl, end_row HC.out.row HC.out.b1 HC.out.b2 _ _ _ _ _ _, end_below HC.out.bel _ _ _ _ _ _⟩
end Go.Proofs.Ytjbpljcfogekhaa.Q
