/- The program's vm, walked (part 2 of 5): what januslaw07.VmRules and januslaw07.VmPieces are proved with. Its conditions: none but each theorem's own. -/
import Derived.Test.YtjbpljcfogekhaaVa1
import Derived.Test.YtjbpljcfogekhaaProg
import Derived.Below
import Derived.Deep.Draws
import Derived.Deep.AppendLies
import Derived.Maps.AppendAt
import Derived.OwnWalk
import Derived.Laws.BytesArg
import Derived.Laws.MakeOwn
import Derived.Laws.OwnMore
import Derived.Deep.OwnRows
import Derived.Tactics
import Derived.Lib.ConvBytes
import Derived.Laws.Slices
import Derived.WalkKit
import Derived.KernelRfl
import Derived.RowKit3
import Derived.Deep.LoopGhost
import Derived.Deep.QuietTactic
import Derived.BigQuiet
import Derived.WideLaws
import Derived.Deep.DeepCutAuto
import Derived.Deep.CutBlock
import Derived.Deep.RegionHeld3
import Derived.Laws.Rows
import Derived.Lib.AppendStr
import Derived.ArgAppend
import Derived.Laws.IdiomCopy
import Derived.OrdersHeld
import Derived.Laws.BitsLemmas
import Derived.RowKit
import Derived.WalkSpells
import Derived.Lib.SliceRun
import Derived.Outline
import Derived.Laws.EntriesVeiled
import Derived.StillTailTactics
namespace Go.Proofs.Ytjbpljcfogekhaa.Q
open Go.RowKit Go.Proofs.YtjbpljcfogekhaaW.PrintWords Go.Proofs.YtjbpljcfogekhaaW.PrintLast Go.Proofs.YtjbpljcfogekhaaW.PrintMore
attribute [local go_sem] max2_int min2_int max_two min_two max_three min_three max_four min_four
set_option linter.unusedVariables false
set_option linter.unusedSimpArgs false
def errW : Option Int → Value
 | none => .nilIface
 | some c => .iface 0 (.int .i64 c)
theorem errW_none : errW none = .nilIface := rfl
theorem errW_some (c : Int) : errW (some c) = .iface 0 (.int .i64 c) := rfl
structure S36 where
 f0 : Int
 f1 : Int
 f2 : Int
 f3 : Int
def z36 : S36 := ⟨(0 : Int), (0 : Int), (0 : Int), (0 : Int)⟩
end Go.Proofs.Ytjbpljcfogekhaa.Q
namespace Go.Proofs.Ytjbpljcfogekhaa.Q
open Go.RowKit Go.Proofs.YtjbpljcfogekhaaW.PrintWords Go.Proofs.YtjbpljcfogekhaaW.PrintLast Go.Proofs.YtjbpljcfogekhaaW.PrintMore
set_option linter.unusedVariables false
set_option linter.unusedSimpArgs false
theorem info34 : (Try.prog.info? 34).map (fun i => (i.zero, i.size, i.bytes)) = some (some (.int .u64 0), 1, 8) := by kernel_rfl
end Go.Proofs.Ytjbpljcfogekhaa.Q
namespace Go.Proofs.Ytjbpljcfogekhaa.Q
open Go.RowKit Go.Proofs.YtjbpljcfogekhaaW.PrintWords Go.Proofs.YtjbpljcfogekhaaW.PrintLast Go.Proofs.YtjbpljcfogekhaaW.PrintMore
set_option linter.unusedVariables false
theorem clone_info34 : (Try.prog.info? 34).map (fun i => (i.zero, i.size, i.bytes)) = some (some (.int .u64 0), 1, 8) := by kernel_rfl
def slices_Clone_uint64_uint64.f (l0 : List Int) : Option (List Int) := if l0.length < 17592186044416 then some l0 else none
theorem clone_nil (n c : Nat) (w : World) :
    Calls Try.prog 47 #[.slice none n c] w fun e w' => e = .returned (.slice none 0 0) ∧ w = w' := by
  have qT : ∀ (w : World) (a : Option Addr) (n c n' c' : Nat), (binOp .eql 57 (.slice a n c) (.slice none n' c')).run Try.prog w = .ok (.bool a.isNone) w := fun w a n c n' c' => Lib.run_eql_slice_nil w _ _ a n c n' c' Try.underlying57
  go_enter Try.func47, Try.ntmps47
  go_wp2
  go_ret
  exact ⟨rfl, rfl⟩
theorem clone_some (a : Addr) (c0 : Nat) (l0 : List Int) (w : World) (hr0 : Kd.C (Kd.int .u64) w (some a) l0.length l0) (hl : l0.length < 17592186044416) :
    Calls Try.prog 47 #[.slice (some a) l0.length c0] w fun e w' => ∃ v0_ : Value, e = .returned v0_ ∧ Kd.R (Kd.int .u64) 34 w' w.heap.size (fun _ => True) v0_ l0 ∧ Below w.heap.size w w' := by
  have qT : ∀ (w : World) (a : Option Addr) (n c n' c' : Nat), (binOp .eql 57 (.slice a n c) (.slice none n' c')).run Try.prog w = .ok (.bool a.isNone) w := fun w a n c n' c' => Lib.run_eql_slice_nil w _ _ a n c n' c' Try.underlying57
  have HR0 := Aside0.mk hr0
  have HL := Aside0.mk hl
  clear hr0 hl
  go_enter Try.func47, Try.ntmps47
  go_wp2_with (first
    | ((with_reducible refine gate_dst (N := 5) rfl ?_); refine Kd.R_lit (Kd.int .u64) _ 34 ?hg (N := 5) ?hd (xs := ([] : List Int)) (inner := []) (ok := fun _ => True) (okp := fun _ => True) ?hr ?hp (fun _ hk => hk) trivial (Below.refl _ _) (Nat.le_refl _) (by simp) ?_; (case hd => rfl); (case hg => rfl); (case hr => first | (go_simp; done) | (go_simp; rfl)); (case hp => exact Reps.none _ _); intro v102 w4 ho5 hb hg_ hnew_; clear hg_ hnew_; have HO := Aside0.mk ho5; have HB := Aside0.mk hb; clear ho5 hb)
    | ((with_reducible refine gate_builtin (b := .append) (xs := #[.tmp 5, .tmp 6]) rfl ?_); at_builtin; refine Kd.R_append_row (Value.int .u64) 0 (h1 := fun _ => rfl) (w0 := w) w.heap.size rfl (.tmp 5) (.tmp 6) 57 34 (.int .u64 0) 8 rfl Try.underlying57 clone_info34 rfl (by omega) v102 [] l0 (some a) l0.length c0 (fun _ => True) rfl rfl (fun _ _ => trivial) HO.out (Kd.C_below HR0.out HB.out) HB.out HB.out.size (by have := HL.out; simp; omega) ?_; intro v1 w1 hR hB2 hg2 hat2; have HO2 := Aside0.mk hR; have HB2 := Aside0.mk hB2; clear hR hB2 hg2 hat2))
  go_ret
  exact ⟨_, rfl, by have h2 := HO2.out; simp only [List.nil_append] at h2; exact h2, HB2.out⟩
theorem slices_Clone_uint64_uint64.calls (A0 : Option Addr) (c0 : Nat) (l0 : List Int) (r : List Int) (w : World) (hr0 : Kd.C (Kd.int .u64) w A0 l0.length l0) (hc0 : l0.length ≤ c0) (h : slices_Clone_uint64_uint64.f l0 = some r) :
    Calls Try.prog 47 #[.slice A0 l0.length c0] w fun e w' => ∃ v0_ : Value, e = .returned v0_ ∧ Kd.R (Kd.int .u64) 34 w' w.heap.size (fun _ => True) v0_ r ∧ Below w.heap.size w w' := by
  have hl : l0.length < 17592186044416 := by
    unfold slices_Clone_uint64_uint64.f at h
    split at h
    · assumption
    · cases h
  have hr : r = l0 := by
    unfold slices_Clone_uint64_uint64.f at h
    rw [if_pos hl] at h
    exact (Option.some.inj h).symm
  subst hr
  cases A0 with
  | none =>
    have hn : r.length = 0 := by
      rcases Nat.eq_zero_or_pos r.length with h0 | h0
      · exact h0
      · obtain ⟨ad, he, _⟩ := hr0.2.2 h0
        cases he
    obtain rfl : r = [] := List.eq_nil_of_length_eq_zero hn
    refine (clone_nil _ _ w).mono ?_
    rintro e w' ⟨rfl, rfl⟩
    exact ⟨_, rfl, Kd.R_nil _ _ _ _ _, Below.refl _ _⟩
  | some a => exact clone_some a c0 r w hr0 hl
end Go.Proofs.Ytjbpljcfogekhaa.Q
namespace Go.Proofs.Ytjbpljcfogekhaa.Q
open Go.RowKit Go.Proofs.YtjbpljcfogekhaaW.PrintWords Go.Proofs.YtjbpljcfogekhaaW.PrintLast Go.Proofs.YtjbpljcfogekhaaW.PrintMore
attribute [local go_sem] max2_int min2_int max_two min_two max_three min_three max_four min_four
set_option linter.unusedVariables false
set_option linter.unusedSimpArgs false
def vm_own.f (a0_0 : Int) (l0_1 : List Int) : Option (Int × List Int) := (slices_Clone_uint64_uint64.f l0_1).bind fun t436 => (some (a0_0, t436))
set_option maxHeartbeats 8000000 in
set_option maxRecDepth 100000 in
theorem vm_own.calls (a0_0 : Int) (A0_1 : Option Addr) (c0_1 : Nat) (l0_1 : List Int) (r1 : Int) (r2 : List Int) (w : World) (hr0_1 : Kd.C (Kd.int .u64) w A0_1 l0_1.length l0_1) (hc0_1 : l0_1.length ≤ c0_1) (h : vm_own.f a0_0 l0_1 = some (r1, r2)) :
  Calls Try.prog 46 #[.agg #[.int .i64 a0_0, .slice A0_1 l0_1.length c0_1]] w fun e w' => ∃ v1_ : Value, e = .returned (.agg #[.int .i64 r1, v1_]) ∧ Kd.R (Kd.int .u64) 34 w' w.heap.size (fun _ => True) v1_ r2 ∧ Below w.heap.size w w' := by
 have hu59 := Try.underlying59
 have HR0_1 := Aside0.mk hr0_1
 have HC0_1 := Aside0.mk hc0_1
 clear hr0_1 hc0_1
 have HB := Aside0.mk (Below.refl w.heap.size w)
 have H : ((slices_Clone_uint64_uint64.f l0_1).bind fun t436 => (some (a0_0, t436))) = some (r1, r2) := h
 clear h
 replace H := Option.bind_eq_some_iff.mp H
 obtain ⟨t436, A20, H⟩ := H
 replace H : (some (a0_0, t436)) = some (r1, r2) := H
 have A2 := Aside0.mk A20
 clear A20
 simp only [Option.some.injEq, Prod.mk.injEq] at H
 obtain ⟨rfl, rfl⟩ := H
 go_enter Try.func46, Try.ntmps46
 try go_wp2_with (first | ((with_reducible refine gate_dst (N := 1) rfl ?_); refine box_event ?hg (N := 1) ?hd (cs := #[.int .i64 a0_0, .slice A0_1 l0_1.length c0_1]) (t := 59) ?hr ?_; (case hd => rfl); (case hg => rfl); (case hr => first | (go_simp; done) | (go_simp; rfl)); intro gb434 hg w3 hbox hb; have n0_ := Aside0.mk (below_step (by repeat (first | (with_reducible first | exact HB.out | apply below_alloc | apply pw_below_drewN | apply below_drew1) | exact HB.out)) hb); have n1_ := Aside0.mk (hbox); have n2_ := Aside0.mk ((by rw [hg]; exact (below_size (by repeat (first | (with_reducible first | exact HB.out | apply below_alloc | apply pw_below_drewN | apply below_drew1) | exact HB.out))) : w.heap.size ≤ gb434)); have n3_ := Aside0.mk ((by rw [hg]; exact (below_size (by repeat (first | (with_reducible first | exact HB.out | apply below_alloc | apply pw_below_drewN | apply below_drew1) | exact HB.out))) : w.heap.size ≤ gb434)); clear HB; have HB := n0_; have BK434 := n1_; have GW434 := n2_; have GE434 := n3_; clear n0_ n1_ n2_ n3_; clear hb hbox hg) | ((with_reducible refine gate_dst (N := 2) rfl ?_); refine box_event ?hg (N := 2) ?hd (cs := #[.int .i64 0, .slice none 0 0]) (t := 59) ?hr ?_; (case hd => rfl); (case hg => rfl); (case hr => first | (go_simp; done) | (go_simp; rfl)); intro gb435 hg w4 hbox hb; have n0_ := Aside0.mk (blk_below (g := gb434) (o := .cells #[.int .i64 a0_0, .slice A0_1 l0_1.length c0_1] 59 (0, 0)) (by (with_reducible repeat (first | refine blk_drewN ?_ _ | refine blk_drew ?_ | refine blk_alloc ?_ _)); exact BK434.out) hb); have n1_ := Aside0.mk (below_step (by repeat (first | (with_reducible first | exact HB.out | apply below_alloc | apply pw_below_drewN | apply below_drew1 | refine below_set ?_ GE434.out) | exact HB.out)) hb); have n2_ := Aside0.mk (hbox); have n3_ := Aside0.mk ((by rw [hg]; exact (below_size (by repeat (first | (with_reducible first | exact HB.out | apply below_alloc | apply pw_below_drewN | apply below_drew1 | refine below_set ?_ GE434.out) | exact HB.out))) : w.heap.size ≤ gb435)); have n4_ := Aside0.mk ((by rw [hg]; exact (below_size (by repeat (first | (with_reducible first | exact HB.out | apply below_alloc | apply pw_below_drewN | apply below_drew1 | refine below_set ?_ GE434.out) | exact HB.out))) : w.heap.size ≤ gb435)); have n5_ := Aside0.mk ((by rw [hg]; exact Nat.ne_of_lt (blk_lt (g := gb434) (o := .cells #[.int .i64 a0_0, .slice A0_1 l0_1.length c0_1] 59 (0, 0)) (by (with_reducible repeat (first | refine blk_drewN ?_ _ | refine blk_drew ?_ | refine blk_alloc ?_ _)); exact BK434.out)) : gb434 ≠ gb435)); have n6_ := Aside0.mk ((by rw [hg]; exact Nat.ne_of_gt (blk_lt (g := gb434) (o := .cells #[.int .i64 a0_0, .slice A0_1 l0_1.length c0_1] 59 (0, 0)) (by (with_reducible repeat (first | refine blk_drewN ?_ _ | refine blk_drew ?_ | refine blk_alloc ?_ _)); exact BK434.out)) : gb435 ≠ gb434)); clear BK434; clear HB; have BK434 := n0_; have HB := n1_; have BK435 := n2_; have GW435 := n3_; have GE435 := n4_; have NB434_435 := n5_; have NB435_434 := n6_; clear n0_ n1_ n2_ n3_ n4_ n5_ n6_; clear hb hbox hg))
 have n0_ := Aside0.mk (blk_drew BK434.out)
 have n1_ := Aside0.mk (blk_drew BK435.out)
 have n2_ := Aside0.mk (below_drew1 HB.out)
 clear BK434
 clear BK435
 clear HB
 have BK434 := n0_
 have BK435 := n1_
 have HB := n2_
 clear n0_ n1_ n2_
 refine start_ (n := 7) (S := fun w' => w'.cell? ⟨gb434, 0, none⟩ = some (.int .i64 a0_0) ∧ w'.cell? ⟨gb434, 1, none⟩ = some (.slice A0_1 l0_1.length c0_1)) (ds := []) #[false, false, false, false, false, false, false] (by kernel_rfl) rfl rfl ⟨(blk_cell BK434.out 0).trans rfl, (blk_cell BK434.out 1).trans rfl⟩ (fun hHeld => ?_)
 generalize w4.drew = w5 at BK434 BK435 HB hHeld ⊢
 refine pure_ (i := 0) (N := some 3) (v := ?_) (a' := ?_) #[true, false, false, false, false, false, false] rfl rfl (by kernel_rfl) (fun _ _ _ h => h) (Or.inl ⟨by rfl, ?_⟩) ?_ ?_
 rotate_left
 ·intro w'
  go_simp
  with_reducible rfl
 rotate_left
 ·simp only [Act.put, List.setIfInBounds_toArray, List.set_cons_zero, List.set_cons_succ, i64_w, i32_w]
  rfl
 refine pure_ (i := 2) (N := some 5) (v := ?_) (a' := ?_) #[true, false, true, false, false, false, false] rfl rfl (by kernel_rfl) (fun _ _ _ h => h) (Or.inl ⟨by rfl, ?_⟩) ?_ ?_
 rotate_left
 ·intro w'
  go_simp
  with_reducible rfl
 rotate_left
 ·simp only [Act.put, List.setIfInBounds_toArray, List.set_cons_zero, List.set_cons_succ, i64_w, i32_w]
  rfl
 refine take_ (i := 1) (N := some 4) (v := ?_) (a' := ?_) #[true, true, true, false, false, false, false] rfl rfl (by kernel_rfl) (fun _ _ _ h => h) (Or.inl ⟨by rfl, ?_⟩) hHeld ?_ ?_
 rotate_left
 ·rintro w' ⟨s0, s1⟩
  go_simp
  with_reducible rfl
 rotate_left
 ·simp only [Act.put, List.setIfInBounds_toArray, List.set_cons_zero, List.set_cons_succ, i64_w, i32_w]
  rfl
 refine take_ (i := 3) (N := some 6) (v := ?_) (a' := ?_) #[true, true, true, true, false, false, false] rfl rfl (by kernel_rfl) (fun _ _ _ h => h) (Or.inl ⟨by rfl, ?_⟩) hHeld ?_ ?_
 rotate_left
 ·rintro w' ⟨s0, s1⟩
  go_simp
  with_reducible rfl
 rotate_left
 ·simp only [Act.put, List.setIfInBounds_toArray, List.set_cons_zero, List.set_cons_succ, i64_w, i32_w]
  rfl
 refine one_ (i := 4) (N := some 7) #[true, true, true, true, true, false, false] rfl rfl (by kernel_rfl) (by decide) (fun K hK => ?_)
 refine goes_ Try.func47 (by kernel_rfl) rfl #[.slice A0_1 l0_1.length c0_1] (by rfl) rfl rfl (by (try simp only [List.map_toArray, List.map_cons, List.map_nil]); first | done | rfl | (simp only [List.length_drop, List.length_take]; rfl)) ?_
 with_reducible refine (slices_Clone_uint64_uint64.calls _ _ l0_1 t436 _ ?side1 ?side2 A2.out).mono ?_
 (case side1 => repeat (first | exact (Kd.C_below HR0_1.out HB.out) | (with_reducible refine Kd.C_alloc ?_ _) | (with_reducible refine Kd.C_drewN ?_ _) | (with_reducible refine Kd.C_drew ?_)))
 (case side2 => exact HC0_1.out)
 rintro e w6 ⟨v437, rfl, ho0, hb⟩
 refine ⟨_, rfl, ?_⟩
 have n0_ := Aside0.mk (Kd.R_lower ho0 (below_size (by repeat (first | (with_reducible first | exact HB.out | apply below_alloc | apply pw_below_drewN | apply below_drew1 | refine below_set ?_ GE434.out | refine below_set ?_ GE435.out) | exact HB.out))))
 have n1_ := Aside0.mk (blk_below (g := gb434) (o := .cells #[.int .i64 a0_0, .slice A0_1 l0_1.length c0_1] 59 (0, 0)) (by (with_reducible repeat (first | refine blk_drewN ?_ _ | refine blk_drew ?_ | refine blk_alloc ?_ _)); exact BK434.out) hb)
 have n2_ := Aside0.mk (blk_below (g := gb435) (o := .cells #[.int .i64 0, .slice none 0 0] 59 (0, 0)) (by (with_reducible repeat (first | refine blk_drewN ?_ _ | refine blk_drew ?_ | refine blk_alloc ?_ _)); exact BK435.out) hb)
 have n3_ := Aside0.mk (below_step (by repeat (first | (with_reducible first | exact HB.out | apply below_alloc | apply pw_below_drewN | apply below_drew1 | refine below_set ?_ GE434.out | refine below_set ?_ GE435.out) | exact HB.out)) hb)
 clear BK434
 clear BK435
 clear HB
 have HO438 := n0_
 have BK434 := n1_
 have BK435 := n2_
 have HB := n3_
 clear n0_ n1_ n2_ n3_
 (try clear hb)
 (try clear hb2)
 (try clear hk)
 (try clear hi)
 (try clear ho0)
 obtain ⟨Ao7, co7, eo7⟩ := Kd.R_slice HO438.out
 (first | subst eo7 | (injection eo7 with f1_ f2_ f3_; have f4_ := f1_.symm; have f5_ := f3_.symm; clear f1_ f2_ f3_; subst f4_; subst f5_))
 refine hK.out _ _ ⟨(blk_cell BK434.out 0).trans rfl, (blk_cell BK434.out 1).trans rfl⟩ (fun hHeld => ?_)
 clear hK K
 refine norm_ (a' := ?_) ?_ ?_
 rotate_left
 ·show Act.put _ (some 7) _ = _
  simp only [Act.put, List.setIfInBounds_toArray, List.set_cons_zero, List.set_cons_succ, i64_w, i32_w]
  rfl
 refine pure_ (i := 5) (N := some 8) (v := ?_) (a' := ?_) #[true, true, true, true, true, true, false] rfl rfl (by kernel_rfl) (fun _ _ _ h => h) (Or.inl ⟨by rfl, ?_⟩) ?_ ?_
 rotate_left
 ·intro w'
  go_simp
  with_reducible rfl
 rotate_left
 ·simp only [Act.put, List.setIfInBounds_toArray, List.set_cons_zero, List.set_cons_succ, i64_w, i32_w]
  rfl
 refine one_ (i := 6) (N := none) #[true, true, true, true, true, true, true] rfl rfl (by kernel_rfl) (by decide) (fun K hK => ?_)
 have hs8 : w6.cell? ⟨gb435, 0, none⟩ = some (.int .i64 0) := (blk_cell BK435.out 0).trans rfl
 have hfs8 := blk_frozen BK435.out 0
 have hns8_0 := NB434_435.out
 have hms8_0 := NB435_434.out
 have hs9 : w6.cell? ⟨gb435, 1, none⟩ = some (.slice none 0 0) := (blk_cell BK435.out 1).trans rfl
 have hfs9 := blk_frozen BK435.out 1
 have hns9_0 := NB434_435.out
 have hms9_0 := NB435_434.out
 refine skip_ (w1 := ?_) (by rfl) rfl ?_ ?_
 rotate_left
 ·go_simp
  rfl
 refine hK.out _ _ ⟨((cell_far (p := ⟨gb435, _, none⟩) NB434_435.out _).trans (((cell_far (p := ⟨gb435, _, none⟩) NB434_435.out _).trans (hHeld.1)))), ((cell_far (p := ⟨gb435, _, none⟩) NB434_435.out _).trans (((cell_far (p := ⟨gb435, _, none⟩) NB434_435.out _).trans (hHeld.2))))⟩ (fun hHeld => ?_)
 clear hK K
 refine done_ (by kernel_rfl) ?_
 try go_wp2
 refine bodyPost_ret (results_cell_row rfl _ _ gb435 59 #[.int .i64 a0_0, .slice Ao7 t436.length co7] (0, 0) _ rfl (by (with_reducible repeat (first | refine blk_drewN ?_ _ | refine blk_drew ?_ | refine blk_alloc ?_ _)); refine blk_put (cs := #[.int .i64 a0_0, .slice none 0 0]) ?_ 1 _ rfl; (with_reducible repeat (first | refine blk_drewN ?_ _ | refine blk_drew ?_ | refine blk_alloc ?_ _)); refine blk_put (cs := #[.int .i64 0, .slice none 0 0]) ?_ 0 _ rfl; (with_reducible repeat (first | refine blk_drewN ?_ _ | refine blk_drew ?_ | refine blk_alloc ?_ _)); exact BK435.out) Try.underlying59 rfl (by kernel_rfl)) rfl ?_
 exact ⟨_, by first | rfl | (simp [errW_none, errW_some] <;> rfl) | (simp [*, errW_none, errW_some] <;> rfl), by (with_reducible repeat (first | apply Kd.R_alloc | apply Kd.R_drewN | apply Kd.R_drew)); exact Kd.R_mono (Kd.R_far (p := ⟨gb435, 1, none⟩) (Kd.R_far (p := ⟨gb435, 0, none⟩) (Kd.R_types HO438.out BK435.out (by decide)) (fun _ hk => hk.2) (.int .i64 a0_0)) (fun _ hk => hk.2) (.slice Ao7 t436.length co7)) (fun _ hk => trivial), by repeat (first | (with_reducible first | exact HB.out | apply below_alloc | apply pw_below_drewN | apply below_drew1 | refine below_set ?_ GE434.out | refine below_set ?_ GE435.out) | exact HB.out)⟩
end Go.Proofs.Ytjbpljcfogekhaa.Q
namespace Go.Proofs.Ytjbpljcfogekhaa.Q
open Go.RowKit Go.Proofs.YtjbpljcfogekhaaW.PrintWords Go.Proofs.YtjbpljcfogekhaaW.PrintLast Go.Proofs.YtjbpljcfogekhaaW.PrintMore
attribute [local go_sem] max2_int min2_int max_two min_two max_three min_three max_four min_four
set_option linter.unusedVariables false
set_option linter.unusedSimpArgs false
mutual
def code_operand.j0 : Nat → Int → Int → Bool → Option (Int)
 | 0, _, _, _ => none
 | k + 1, x0, x3, x4 => if x4 = true then (some 1) else (if x3 = 21 then (code_operand.j1 k x0 x3 (x3 == 21)) else (code_operand.j1 k x0 x3 (x3 == 22)))
def code_operand.j1 : Nat → Int → Int → Bool → Option (Int)
 | 0, _, _, _ => none
 | k + 1, x0, x3, x7 => if x7 = true then (some 2) else (if x3 = 1 then (some 3) else (if x0 < 0 then (some (-1)) else (if x0 > 23 then (some (-1)) else (some 0))))
end
def code_operand.f (k : Nat) (a0 : Int) : Option (Int) := if a0 = 0 then (code_operand.j0 k a0 a0 (a0 == 0)) else (code_operand.j0 k a0 a0 (a0 == 23))
theorem code_operand.mono_l : ∀ k, (∀ y0 y1 y2, LeO (code_operand.j0 k y0 y1 y2) (code_operand.j0 (k + 1) y0 y1 y2)) ∧ (∀ y0 y1 y2, LeO (code_operand.j1 k y0 y1 y2) (code_operand.j1 (k + 1) y0 y1 y2))
 | 0 => ⟨fun _ _ _ r h => by simp [code_operand.j0] at h, fun _ _ _ r h => by simp [code_operand.j1] at h⟩
 | k + 1 => by
  obtain ⟨ih0, ih1⟩ := code_operand.mono_l k
  refine ⟨?_, ?_⟩
  ·intro y0 y1 y2
   unfold code_operand.j0
   repeat' first
   | (with_reducible exact ih0 _ _ _)
   | (with_reducible exact ih1 _ _ _)
   | (with_reducible exact LeO.refl _)
   | (with_reducible exact LeO.none _)
   | (with_reducible refine LeO.ite ?_ ?_)
   | (with_reducible refine LeO.bind ?_ (fun _ => ?_))
   | exact ih0 _ _ _
   | exact ih1 _ _ _
   | exact LeO.none _
   | refine LeO.ite ?_ ?_
   | refine LeO.bind ?_ (fun _ => ?_)
  ·intro y0 y1 y2
   unfold code_operand.j1
   repeat' first
   | (with_reducible exact ih0 _ _ _)
   | (with_reducible exact ih1 _ _ _)
   | (with_reducible exact LeO.refl _)
   | (with_reducible exact LeO.none _)
   | (with_reducible refine LeO.ite ?_ ?_)
   | (with_reducible refine LeO.bind ?_ (fun _ => ?_))
   | exact ih0 _ _ _
   | exact ih1 _ _ _
   | exact LeO.none _
   | refine LeO.ite ?_ ?_
   | refine LeO.bind ?_ (fun _ => ?_)
theorem code_operand.mono : ∀ a0 k, LeO (code_operand.f k a0) (code_operand.f (k + 1) a0) := by
 intro a0 k
 obtain ⟨ih0, ih1⟩ := code_operand.mono_l k
 unfold code_operand.f
 repeat' first
   | (with_reducible exact ih0 _ _ _)
   | (with_reducible exact ih1 _ _ _)
   | (with_reducible exact LeO.refl _)
   | (with_reducible exact LeO.none _)
   | (with_reducible refine LeO.ite ?_ ?_)
   | (with_reducible refine LeO.bind ?_ (fun _ => ?_))
   | exact ih0 _ _ _
   | exact ih1 _ _ _
   | exact LeO.none _
   | refine LeO.ite ?_ ?_
   | refine LeO.bind ?_ (fun _ => ?_)
set_option maxHeartbeats 8000000 in
set_option maxRecDepth 100000 in
theorem code_operand.calls (k : Nat) (a0 : Int) (r : Int) (w : World) (h : code_operand.f k a0 = some r) :
  Calls Try.prog 40 #[.int .i64 a0] w fun e w' => e = .returned (.int .i64 r) ∧ Drawn0 w w' := by
 have H : (if a0 = 0 then (code_operand.j0 k a0 a0 (a0 == 0)) else (code_operand.j0 k a0 a0 (a0 == 23))) = some r := h
 clear h
 have HC2 := Aside0.mk H
 clear H
 go_enter Try.func40, Try.ntmps40
 go_upto_if 4 with (fail)
 go_cut [4] (fun v4 wc => ∃ (kq : Nat) (x4_1 : Bool), v4 = .bool x4_1 ∧ Aside0 (code_operand.j0 kq a0 a0 x4_1 = some r) ∧ Aside0 (kq ≤ k) ∧ Drawn0 w wc)
 case first =>
  have H := HC2.out
  clear HC2
  by_cases c3 : a0 = 0
  ·rw [if_pos c3] at H
   have c3b0 : (a0 == 0) = true := beq_iff_eq.mpr c3
   have c3b1 : (a0 != 0) = false := bne_eq_false_iff_eq.mpr c3
   clear c3
   (first | rw [c3b0] | (simp only [i64_w, i32_w]; rw [c3b0]) | skip)
   have H' := Aside0.mk H
   clear H
   go_wp2
   go_meet
   case rel => exact ⟨_, ((a0 == 0)), (by first | rfl | (simp; done) | (simp [*]; done)), H', ⟨by first | omega | exact Nat.le_refl _⟩, by repeat (first | exact Drawn0.refl _ | apply Drawn0.step)⟩
  ·rw [if_neg c3] at H
   have c3b0 : (a0 == 0) = false := beq_eq_false_iff_ne.mpr c3
   have c3b1 : (a0 != 0) = true := bne_iff_ne.mpr c3
   (first | rw [c3b0] | (simp only [i64_w, i32_w]; rw [c3b0]) | skip)
   have H' := Aside0.mk H
   clear H
   go_wp2
   go_meet
   case rel => exact ⟨_, ((a0 == 23)), (by first | rfl | (simp; done) | (simp [*]; done)), H', ⟨by first | omega | exact Nat.le_refl _⟩, by repeat (first | exact Drawn0.refl _ | apply Drawn0.step)⟩
 case rest =>
  clear HC2
  try clear p2
  try clear c3
  try clear c3b0
  try clear c3b1
  obtain ⟨kq, x4_1, rfl, HA, HJ1, ⟨mc1, rfl⟩⟩ := hcut
  cases kq with
  | zero => exact absurd HA.out (by simp [code_operand.j0])
  | succ kj1 =>
   have H := HA.out
   clear HA
   simp only [code_operand.j0] at H
   by_cases c4 : x4_1 = true
   ·subst c4
    have H1 : (some 1) = some r := by rw [if_pos rfl] at H; exact H
    clear H
    have H := H1
    clear H1
    obtain rfl := Option.some.inj H
    go_wp2
    go_ret
    exact ⟨by first | rfl | (simp; done) | (simp [*]; done) | (simp; unfold wrap64; omega), by repeat (first | exact Drawn0.refl _ | apply Drawn0.step)⟩
   ·replace c4 := Bool.eq_false_iff.mpr c4
    subst c4
    have H1 : (if a0 = 21 then (code_operand.j1 kj1 a0 a0 (a0 == 21)) else (code_operand.j1 kj1 a0 a0 (a0 == 22))) = some r := by rw [if_neg (show ¬ (false = true) by decide)] at H; exact H
    clear H
    have H := H1
    clear H1
    have HC5 := Aside0.mk H
    clear H
    go_upto_if 7 with (fail)
    go_cut [7] (fun v7 wc => ∃ (kq : Nat) (x7_4 : Bool), v7 = .bool x7_4 ∧ Aside0 (code_operand.j1 kq a0 a0 x7_4 = some r) ∧ Aside0 (kq ≤ kj1) ∧ Drawn0 w wc)
    case first =>
     have H := HC5.out
     clear HC5
     by_cases c6 : a0 = 21
     ·rw [if_pos c6] at H
      have c6b0 : (a0 == 21) = true := beq_iff_eq.mpr c6
      have c6b1 : (a0 != 21) = false := bne_eq_false_iff_eq.mpr c6
      clear c6
      (first | rw [c6b0] | (simp only [i64_w, i32_w]; rw [c6b0]) | skip)
      have H' := Aside0.mk H
      clear H
      go_wp2
      go_meet
      case rel => exact ⟨_, ((a0 == 21)), (by first | rfl | (simp; done) | (simp [*]; done)), H', ⟨by have := HJ1.out; first | omega | exact Nat.le_refl _⟩, by repeat (first | exact Drawn0.refl _ | apply Drawn0.step)⟩
     ·rw [if_neg c6] at H
      have c6b0 : (a0 == 21) = false := beq_eq_false_iff_ne.mpr c6
      have c6b1 : (a0 != 21) = true := bne_iff_ne.mpr c6
      (first | rw [c6b0] | (simp only [i64_w, i32_w]; rw [c6b0]) | skip)
      have H' := Aside0.mk H
      clear H
      go_wp2
      go_meet
      case rel => exact ⟨_, ((a0 == 22)), (by first | rfl | (simp; done) | (simp [*]; done)), H', ⟨by have := HJ1.out; first | omega | exact Nat.le_refl _⟩, by repeat (first | exact Drawn0.refl _ | apply Drawn0.step)⟩
    case rest =>
     clear HC5
     try clear c1
     try clear p2
     try clear c3
     try clear c3b0
     try clear c3b1
     try clear c4
     try clear c6
     try clear c6b0
     try clear c6b1
     try clear p2
     obtain ⟨kq, x7_4, rfl, HA, HJ4, ⟨mc4, rfl⟩⟩ := hcut
     cases kq with
     | zero => exact absurd HA.out (by simp [code_operand.j1])
     | succ kj4 =>
      have H := HA.out
      clear HA
      simp only [code_operand.j1] at H
      by_cases c7 : x7_4 = true
      ·subst c7
       have H1 : (some 2) = some r := by rw [if_pos rfl] at H; exact H
       clear H
       have H := H1
       clear H1
       obtain rfl := Option.some.inj H
       go_wp2
       go_ret
       exact ⟨by first | rfl | (simp; done) | (simp [*]; done) | (simp; unfold wrap64; omega), by repeat (first | exact Drawn0.refl _ | apply Drawn0.step)⟩
      ·replace c7 := Bool.eq_false_iff.mpr c7
       subst c7
       have H1 : (if a0 = 1 then (some 3) else (if a0 < 0 then (some (-1)) else (if a0 > 23 then (some (-1)) else (some 0)))) = some r := by rw [if_neg (show ¬ (false = true) by decide)] at H; exact H
       clear H
       have H := H1
       clear H1
       by_cases c8 : a0 = 1
       ·rw [if_pos c8] at H
        have c8b0 : (a0 == 1) = true := beq_iff_eq.mpr c8
        have c8b1 : (a0 != 1) = false := bne_eq_false_iff_eq.mpr c8
        clear c8
        obtain rfl := Option.some.inj H
        go_wp2
        go_ret
        exact ⟨by first | rfl | (simp; done) | (simp [*]; done) | (simp; unfold wrap64; omega), by repeat (first | exact Drawn0.refl _ | apply Drawn0.step)⟩
       ·rw [if_neg c8] at H
        have c8b0 : (a0 == 1) = false := beq_eq_false_iff_ne.mpr c8
        have c8b1 : (a0 != 1) = true := bne_iff_ne.mpr c8
        by_cases c9 : a0 < 0
        ·rw [if_pos c9] at H
         have c9b0 : decide (a0 < 0) = true := decide_eq_true c9
         clear c9
         obtain rfl := Option.some.inj H
         go_wp2
         go_ret
         exact ⟨by first | rfl | (simp; done) | (simp [*]; done) | (simp; unfold wrap64; omega), by repeat (first | exact Drawn0.refl _ | apply Drawn0.step)⟩
        ·rw [if_neg c9] at H
         have c9b0 : decide (a0 < 0) = false := decide_eq_false c9
         clear c9
         by_cases c10 : a0 > 23
         ·rw [if_pos c10] at H
          have c10b0 : decide (23 < a0) = true := decide_eq_true c10
          clear c10
          obtain rfl := Option.some.inj H
          go_wp2
          go_ret
          exact ⟨by first | rfl | (simp; done) | (simp [*]; done) | (simp; unfold wrap64; omega), by repeat (first | exact Drawn0.refl _ | apply Drawn0.step)⟩
         ·rw [if_neg c10] at H
          have c10b0 : decide (23 < a0) = false := decide_eq_false c10
          clear c10
          obtain rfl := Option.some.inj H
          go_wp2
          go_ret
          exact ⟨by first | rfl | (simp; done) | (simp [*]; done) | (simp; unfold wrap64; omega), by repeat (first | exact Drawn0.refl _ | apply Drawn0.step)⟩
end Go.Proofs.Ytjbpljcfogekhaa.Q
namespace Go.Proofs.Ytjbpljcfogekhaa.Q
open Go.RowKit Go.Proofs.YtjbpljcfogekhaaW.PrintWords Go.Proofs.YtjbpljcfogekhaaW.PrintLast Go.Proofs.YtjbpljcfogekhaaW.PrintMore
attribute [local go_sem] max2_int min2_int max_two min_two max_three min_three max_four min_four
set_option linter.unusedVariables false
set_option linter.unusedSimpArgs false
def code_width.f (a0 : Int) : Option (Int) := (some (([0, 1, 2, 8] : List Int) : List Int)).bind fun y101 => (if 0 ≤ a0 then (if a0 < (y101.length : Int) then (some (rd y101 a0)) else (none)) else (none))
set_option maxHeartbeats 8000000 in
set_option maxRecDepth 100000 in
theorem code_width.calls (a0 : Int) (r : Int) (w : World) (h : code_width.f a0 = some r) :
  Calls Try.prog 41 #[.int .i64 a0] w fun e w' => e = .returned (.int .i64 r) ∧ Below w.heap.size w w' := by
 have HB := Aside0.mk (Below.refl w.heap.size w)
 have H : ((some (([0, 1, 2, 8] : List Int) : List Int)).bind fun y101 => (if 0 ≤ a0 then (if a0 < (y101.length : Int) then (some (rd y101 a0)) else (none)) else (none))) = some r := h
 clear h
 obtain ⟨y101, hy101⟩ : ∃ y_ : List Int, y_ = (([0, 1, 2, 8] : List Int)) := ⟨_, rfl⟩
 replace H : (if 0 ≤ a0 then (if a0 < (y101.length : Int) then (some (rd y101 a0)) else (none)) else (none)) = some r := by first | (rw [hy101]; with_reducible exact H) | (have H2_ := (Option.bind_some _ _).symm.trans H; rw [hy101]; with_reducible exact H2_) | (have H2_ := (Option.bind_some _ _).symm.trans H; with_reducible exact H2_) | with_reducible exact H | (rw [hy101]; exact H) | exact H
 have Ny101 := Aside0.mk hy101
 clear hy101
 by_cases c2 : 0 ≤ a0
 ·rw [if_pos c2] at H
  have c2b0 : decide (0 ≤ a0) = true := decide_eq_true c2
  clear c2
  by_cases c3 : a0 < (y101.length : Int)
  ·rw [if_pos c3] at H
   have c3b0 : decide (a0 < (y101.length : Int)) = true := decide_eq_true c3
   clear c3
   obtain rfl := Option.some.inj H
   go_enter Try.func41, Try.ntmps41
   go_wp2_with (first | ((with_reducible refine gate_dst (N := 3) rfl ?_); refine Kd.R_lit (Kd.int .i64) _ 3 ?hg (N := 3) ?hd (xs := ([0, 1, 2, 8] : List Int)) (inner := [.int .i64 0, .int .i64 1, .int .i64 2, .int .i64 8]) (ok := fun _ => True) (okp := fun _ => True) ?hr ?hp (fun _ hk => hk) trivial (Below.refl _ _) (Nat.le_refl _) (by simp) ?_; (case hd => rfl); (case hg => rfl); (case hr => first | (go_simp; done) | (go_simp; rfl)); (case hp => exact (Reps.one (show Kd.M (Kd.int .i64) _ _ _ 0 [.int .i64 0] from rfl) (Reps.one (show Kd.M (Kd.int .i64) _ _ _ 1 [.int .i64 1] from rfl) (Reps.one (show Kd.M (Kd.int .i64) _ _ _ 2 [.int .i64 2] from rfl) (Reps.one (show Kd.M (Kd.int .i64) _ _ _ 8 [.int .i64 8] from rfl) (Reps.none _ _)))))); intro v102 w4 ho5 hb hg_ hnew_; clear hg_ hnew_; (first | rw [← Ny101.out] at ho5 | (simp only [Int.reduceToNat] at ho5; rw [← Ny101.out] at ho5)); have n0_ := Aside0.mk (Kd.R_lower ho5 (below_size (by repeat (first | (with_reducible first | exact HB.out | apply below_alloc | apply pw_below_drewN | apply below_drew1) | exact HB.out)))); have n1_ := Aside0.mk (below_step (by repeat (first | (with_reducible first | exact HB.out | apply below_alloc | apply pw_below_drewN | apply below_drew1) | exact HB.out)) hb); clear HB; have HO103 := n0_; have HB := n1_; clear n0_ n1_; clear hb ho5; obtain ⟨Ao6, co6, eo6⟩ := Kd.R_slice HO103.out; subst eo6; have p104 : 0 ≤ (a0 : Int) := of_decide_eq_true (by first | (with_reducible assumption) | assumption); have q104 : a0 < (y101.length : Int) := of_decide_eq_true (by first | (with_reducible assumption) | assumption); obtain ⟨ad104, e104, hx104_0⟩ := Kd.at_int (Kd.R_reads' HO103.out).2.2 a0 p104 q104; cases e104; replace p104 := eq_true p104; replace q104 := eq_true q104))
   go_ret
   exact ⟨by first | rfl | (simp [errW_none, errW_some] <;> rfl) | (simp [*, errW_none, errW_some] <;> rfl), by repeat (first | (with_reducible first | exact HB.out | apply below_alloc | apply pw_below_drewN | apply below_drew1) | exact HB.out)⟩
  ·rw [if_neg c3] at H
   exact absurd H (by simp)
 ·rw [if_neg c2] at H
  exact absurd H (by simp)
end Go.Proofs.Ytjbpljcfogekhaa.Q
namespace Go.Proofs.Ytjbpljcfogekhaa.Q
open Go.RowKit Go.Proofs.YtjbpljcfogekhaaW.PrintWords Go.Proofs.YtjbpljcfogekhaaW.PrintLast Go.Proofs.YtjbpljcfogekhaaW.PrintMore
attribute [local go_sem] max2_int min2_int max_two min_two max_three min_three max_four min_four
set_option linter.unusedVariables false
set_option linter.unusedSimpArgs false
mutual
def code_One.j0 : Nat → ByteArray → Int → Bool → Option (Int × Int × Int × Int × Int)
 | 0, _, _, _ => none
 | k + 1, x0, x1, x16 => if x16 = true then (some (0, 0, 0, 0, 101)) else (if 0 ≤ x1 then (if x1 < (x0.size : Int) then ((code_operand.f k (wrap64 (bt x0 x1))).bind fun t116 => (if t116 < 0 then (code_One.j1 k x0 x1 t116 true) else ((code_width.f t116).bind fun t117 => (code_One.j1 k x0 x1 t116 (decide ((wrap64 ((wrap64 ((x0.size : Int) - x1)) - 1)) < t117)))))) else (none)) else (none))
def code_One.j1 : Nat → ByteArray → Int → Int → Bool → Option (Int × Int × Int × Int × Int)
 | 0, _, _, _, _ => none
 | k + 1, x0, x1, x6, x34 => if x34 = true then (some (0, 0, 0, 0, 8)) else (if 0 ≤ x1 then (if x1 < (x0.size : Int) then ((code_width.f x6).bind fun t118 => ((code_width.f x6).bind fun t120 => (code_One.l0 k x0 x1 t120 (wrap64 (bt x0 x1)) 0 x1 (wrap64 (1 + t118))))) else (none)) else (none))
def code_One.l0 : Nat → ByteArray → Int → Int → Int → Int → Int → Int → Option (Int × Int × Int × Int × Int)
 | 0, _, _, _, _, _, _, _ => none
 | k + 1, x0, x1, x8, x120000, x120001, x120002, x120003 => if x8 > 0 then (if 0 ≤ (wrap64 (x1 + x8)) then (if (wrap64 (x1 + x8)) < (x0.size : Int) then (code_One.l0 k x0 x1 (wrap64 (x8 - 1)) x120000 (Go.bits .or .u64 (IntKind.u64.wrap (x120001 * 256)) (IntKind.u64.wrap (bt x0 (wrap64 (x1 + x8))))) x120002 x120003) else (none)) else (none)) else (some (x120000, x120001, x120002, x120003, 0))
end
def code_One.f (k : Nat) (a0 : ByteArray) (a1 : Int) : Option (Int × Int × Int × Int × Int) := if a1 < 0 then (code_One.j0 k a0 a1 true) else (code_One.j0 k a0 a1 (decide (a1 ≥ (a0.size : Int))))
theorem code_One.mono_l : ∀ k, (∀ y0 y1 y2, LeO (code_One.j0 k y0 y1 y2) (code_One.j0 (k + 1) y0 y1 y2)) ∧ (∀ y0 y1 y2 y3, LeO (code_One.j1 k y0 y1 y2 y3) (code_One.j1 (k + 1) y0 y1 y2 y3)) ∧ (∀ y0 y1 y2 y3 y4 y5 y6, LeO (code_One.l0 k y0 y1 y2 y3 y4 y5 y6) (code_One.l0 (k + 1) y0 y1 y2 y3 y4 y5 y6))
 | 0 => ⟨fun _ _ _ r h => by simp [code_One.j0] at h, fun _ _ _ _ r h => by simp [code_One.j1] at h, fun _ _ _ _ _ _ _ r h => by simp [code_One.l0] at h⟩
 | k + 1 => by
  obtain ⟨ih0, ih1, ih2⟩ := code_One.mono_l k
  refine ⟨?_, ?_, ?_⟩
  ·intro y0 y1 y2
   unfold code_One.j0
   repeat' first
   | (with_reducible exact ih0 _ _ _)
   | (with_reducible exact ih1 _ _ _ _)
   | (with_reducible exact ih2 _ _ _ _ _ _ _)
   | (with_reducible exact code_operand.mono _ _)
   | (with_reducible exact LeO.refl _)
   | (with_reducible exact LeO.none _)
   | (with_reducible refine LeO.ite ?_ ?_)
   | (with_reducible refine LeO.bind ?_ (fun _ => ?_))
   | exact ih0 _ _ _
   | exact ih1 _ _ _ _
   | exact ih2 _ _ _ _ _ _ _
   | exact code_operand.mono _ _
   | exact LeO.none _
   | refine LeO.ite ?_ ?_
   | refine LeO.bind ?_ (fun _ => ?_)
  ·intro y0 y1 y2 y3
   unfold code_One.j1
   repeat' first
   | (with_reducible exact ih0 _ _ _)
   | (with_reducible exact ih1 _ _ _ _)
   | (with_reducible exact ih2 _ _ _ _ _ _ _)
   | (with_reducible exact code_operand.mono _ _)
   | (with_reducible exact LeO.refl _)
   | (with_reducible exact LeO.none _)
   | (with_reducible refine LeO.ite ?_ ?_)
   | (with_reducible refine LeO.bind ?_ (fun _ => ?_))
   | exact ih0 _ _ _
   | exact ih1 _ _ _ _
   | exact ih2 _ _ _ _ _ _ _
   | exact code_operand.mono _ _
   | exact LeO.none _
   | refine LeO.ite ?_ ?_
   | refine LeO.bind ?_ (fun _ => ?_)
  ·intro y0 y1 y2 y3 y4 y5 y6
   unfold code_One.l0
   repeat' first
   | (with_reducible exact ih0 _ _ _)
   | (with_reducible exact ih1 _ _ _ _)
   | (with_reducible exact ih2 _ _ _ _ _ _ _)
   | (with_reducible exact code_operand.mono _ _)
   | (with_reducible exact LeO.refl _)
   | (with_reducible exact LeO.none _)
   | (with_reducible refine LeO.ite ?_ ?_)
   | (with_reducible refine LeO.bind ?_ (fun _ => ?_))
   | exact ih0 _ _ _
   | exact ih1 _ _ _ _
   | exact ih2 _ _ _ _ _ _ _
   | exact code_operand.mono _ _
   | exact LeO.none _
   | refine LeO.ite ?_ ?_
   | refine LeO.bind ?_ (fun _ => ?_)
theorem code_One.mono : ∀ a0 a1 k, LeO (code_One.f k a0 a1) (code_One.f (k + 1) a0 a1) := by
 intro a0 a1 k
 obtain ⟨ih0, ih1, ih2⟩ := code_One.mono_l k
 unfold code_One.f
 repeat' first
   | (with_reducible exact ih0 _ _ _)
   | (with_reducible exact ih1 _ _ _ _)
   | (with_reducible exact ih2 _ _ _ _ _ _ _)
   | (with_reducible exact code_operand.mono _ _)
   | (with_reducible exact LeO.refl _)
   | (with_reducible exact LeO.none _)
   | (with_reducible refine LeO.ite ?_ ?_)
   | (with_reducible refine LeO.bind ?_ (fun _ => ?_))
   | exact ih0 _ _ _
   | exact ih1 _ _ _ _
   | exact ih2 _ _ _ _ _ _ _
   | exact code_operand.mono _ _
   | exact LeO.none _
   | refine LeO.ite ?_ ?_
   | refine LeO.bind ?_ (fun _ => ?_)
def code_One.T6 : Bool × List (List Nat × List Nat) := (true, [([], []), ([], []), ([0, 1], [0, 1]), ([2], [2]), ([], []), ([], []), ([5], [5]), ([6], [6]), ([3, 4, 7], [3, 4, 7]), ([], []), ([9, 8, 6, 0, 1, 2, 3, 4, 5, 6, 7, 8, 9], [8, 9])])
def code_One.B6 : List Nat := [0, 0, 3, 7, 0, 0, 32, 96, 255, 0, 1023]
theorem code_One.tab6 : rtab .any (opsOf Try.f20 6) = code_One.T6 := by kernel_rfl
theorem code_One.bits6 : waitsOk code_One.T6.2 code_One.B6 = true := by kernel_rfl
def code_One.T10 : Bool × List (List Nat × List Nat) := (true, [([], []), ([0], [0]), ([1], [1]), ([], []), ([], []), ([], []), ([4, 5], [4, 5]), ([3, 6], [3, 6]), ([7], [7]), ([2, 8], [2, 8]), ([0, 1, 2, 3, 4, 5, 6, 7, 8, 9], []), ([10, 9, 0, 1, 2, 3, 4, 5, 6, 7, 8, 9], [9, 10])])
def code_One.B10 : List Nat := [0, 1, 3, 0, 0, 0, 48, 120, 248, 511, 1023, 2047]
theorem code_One.tab10 : rtab .any (opsOf Try.f20 10) = code_One.T10 := by kernel_rfl
theorem code_One.bits10 : waitsOk code_One.T10.2 code_One.B10 = true := by kernel_rfl
set_option maxHeartbeats 8000000 in
set_option maxRecDepth 100000 in
theorem code_One.calls (k : Nat) (a0 : ByteArray) (a1 : Int) (r1 : Int) (r2 : Int) (r3 : Int) (r4 : Int) (r5 : Int) (w : World) (h : code_One.f k a0 a1 = some (r1, r2, r3, r4, r5)) :
  Calls Try.prog 20 #[.string a0, .int .i64 a1] w fun e w' => e = .returned (.tuple #[.agg #[.int .i64 r1, .int .u64 r2, .int .i64 r3, .int .i64 r4], .int .i64 r5]) ∧ Below w.heap.size w w' := by
 have hu36 := Try.underlying36
 have HB := Aside0.mk (Below.refl w.heap.size w)
 have H : (if a1 < 0 then (code_One.j0 k a0 a1 true) else (code_One.j0 k a0 a1 (decide (a1 ≥ (a0.size : Int))))) = some (r1, r2, r3, r4, r5) := h
 clear h
 have HC3 := Aside0.mk H
 clear H
 go_enter Try.func20, Try.ntmps20
 go_upto_region 1 with (first | ((with_reducible refine gate_dst (N := 4) rfl ?_); (try (refine gate_guard (by rfl) ?_; dsimp only)); refine box_event ?hg (N := 4) ?hd (cs := #[.int .i64 0, .int .u64 0, .int .i64 0, .int .i64 0]) (t := 36) ?hr ?_; (case hd => rfl); (case hg => rfl); (case hr => first | (go_simp; done) | (go_simp; rfl)); intro gb115 hg w4 hbox hb; have n0_ := Aside0.mk (below_step (by repeat (first | (with_reducible first | exact HB.out | apply below_alloc | apply pw_below_drewN | apply below_drew1) | exact HB.out)) hb); have n1_ := Aside0.mk (hbox); have n2_ := Aside0.mk ((by rw [hg]; exact (below_size (by repeat (first | (with_reducible first | exact HB.out | apply below_alloc | apply pw_below_drewN | apply below_drew1) | exact HB.out))) : w.heap.size ≤ gb115)); have n3_ := Aside0.mk ((by rw [hg]; exact (below_size (by repeat (first | (with_reducible first | exact HB.out | apply below_alloc | apply pw_below_drewN | apply below_drew1) | exact HB.out))) : w.heap.size ≤ gb115)); clear HB; have HB := n0_; have BK115 := n1_; have GW115 := n2_; have GE115 := n3_; clear n0_ n1_ n2_ n3_; clear hb hbox hg))
 (try simp only [Act.put, List.setIfInBounds_toArray, List.set_cons_zero, List.set_cons_succ])
 go_cut [16] (fun v16 wc => ∃ (kq : Nat) (x16_2 : Bool), v16 = .bool x16_2 ∧ Aside0 (code_One.j0 kq a0 a1 x16_2 = some (r1, r2, r3, r4, r5)) ∧ Aside0 (kq ≤ k) ∧ Aside0 (wc.heap[gb115]? = some (.cells #[.int .i64 0, .int .u64 0, .int .i64 0, .int .i64 0] 36 (0, 0))) ∧ Aside0 (Below w.heap.size w wc))
 case first =>
  have H := HC3.out
  clear HC3
  by_cases c5 : a1 < 0
  ·rw [if_pos c5] at H
   have c5b0 : decide (a1 < 0) = true := decide_eq_true c5
   clear c5
   (first | rw [c5b0] | (simp only [i64_w, i32_w]; rw [c5b0]) | skip)
   have H' := Aside0.mk H
   clear H
   go_wp2
   go_meet
   case rel => exact ⟨_, (true), (by first | rfl | (simp; done) | (simp [*]; done)), H', ⟨by first | omega | exact Nat.le_refl _⟩, ⟨by (with_reducible repeat (first | refine blk_drewN ?_ _ | refine blk_drew ?_ | refine blk_alloc ?_ _)); exact BK115.out⟩, ⟨by repeat (first | (with_reducible first | exact HB.out | apply below_alloc | apply pw_below_drewN | apply below_drew1 | refine below_set ?_ GE115.out) | exact HB.out)⟩⟩
  ·rw [if_neg c5] at H
   have c5b0 : decide (a1 < 0) = false := decide_eq_false c5
   clear c5
   (first | rw [c5b0] | (simp only [i64_w, i32_w]; rw [c5b0]) | skip)
   have H' := Aside0.mk H
   clear H
   go_wp2
   go_meet
   case rel => exact ⟨_, (decide (a1 ≥ (a0.size : Int))), (by first | rfl | (simp; done) | (simp [*]; done)), H', ⟨by first | omega | exact Nat.le_refl _⟩, ⟨by (with_reducible repeat (first | refine blk_drewN ?_ _ | refine blk_drew ?_ | refine blk_alloc ?_ _)); exact BK115.out⟩, ⟨by repeat (first | (with_reducible first | exact HB.out | apply below_alloc | apply pw_below_drewN | apply below_drew1 | refine below_set ?_ GE115.out) | exact HB.out)⟩⟩
 case rest =>
  clear HC3
  try clear c2
  try clear p2
  try clear c5
  try clear c5b0
  obtain ⟨kq, x16_2, rfl, HA, HJ2, BK115, HB⟩ := hcut
  cases kq with
  | zero => exact absurd HA.out (by simp [code_One.j0])
  | succ kj2 =>
   have H := HA.out
   clear HA
   simp only [code_One.j0] at H
   by_cases c6 : x16_2 = true
   ·subst c6
    have H1 : (some (0, 0, 0, 0, 101)) = some (r1, r2, r3, r4, r5) := by rw [if_pos rfl] at H; exact H
    clear H
    have H := H1
    clear H1
    simp only [Option.some.injEq, Prod.mk.injEq] at H
    obtain ⟨rfl, rfl, rfl, rfl, rfl⟩ := H
    have hcz7_0 : wc.cell? ⟨gb115, 0, none⟩ = some (.int .i64 0) := (blk_cell BK115.out 0).trans rfl
    have hcz7_1 : wc.cell? ⟨gb115, 1, none⟩ = some (.int .u64 0) := (blk_cell BK115.out 1).trans rfl
    have hcz7_2 : wc.cell? ⟨gb115, 2, none⟩ = some (.int .i64 0) := (blk_cell BK115.out 2).trans rfl
    have hcz7_3 : wc.cell? ⟨gb115, 3, none⟩ = some (.int .i64 0) := (blk_cell BK115.out 3).trans rfl
    have hfz7_0 := blk_frozen BK115.out 0
    have hfz7_1 := blk_frozen BK115.out 1
    have hfz7_2 := blk_frozen BK115.out 2
    have hfz7_3 := blk_frozen BK115.out 3
    go_wp2
    refine bodyPost_ret (results_ct rfl _ _ gb115 36 #[.int .i64 0, .int .u64 0, .int .i64 0, .int .i64 0] (0, 0) _ rfl (by (with_reducible repeat (first | refine blk_drewN ?_ _ | refine blk_drew ?_ | refine blk_alloc ?_ _)); refine blk_put (cs := #[.int .i64 0, .int .u64 0, .int .i64 0, .int .i64 0]) ?_ 3 _ rfl; (with_reducible repeat (first | refine blk_drewN ?_ _ | refine blk_drew ?_ | refine blk_alloc ?_ _)); refine blk_put (cs := #[.int .i64 0, .int .u64 0, .int .i64 0, .int .i64 0]) ?_ 2 _ rfl; (with_reducible repeat (first | refine blk_drewN ?_ _ | refine blk_drew ?_ | refine blk_alloc ?_ _)); refine blk_put (cs := #[.int .i64 0, .int .u64 0, .int .i64 0, .int .i64 0]) ?_ 1 _ rfl; (with_reducible repeat (first | refine blk_drewN ?_ _ | refine blk_drew ?_ | refine blk_alloc ?_ _)); refine blk_put (cs := #[.int .i64 0, .int .u64 0, .int .i64 0, .int .i64 0]) ?_ 0 _ rfl; (with_reducible repeat (first | refine blk_drewN ?_ _ | refine blk_drew ?_ | refine blk_alloc ?_ _)); exact BK115.out) Try.underlying36 rfl (by kernel_rfl)) rfl ?_
    exact ⟨by first | rfl | (simp [errW_none, errW_some] <;> rfl) | (simp [*, errW_none, errW_some] <;> rfl), by repeat (first | (with_reducible first | exact HB.out | apply below_alloc | apply pw_below_drewN | apply below_drew1 | refine below_set ?_ GE115.out) | exact HB.out)⟩
   ·replace c6 := Bool.eq_false_iff.mpr c6
    subst c6
    have H1 : (if 0 ≤ a1 then (if a1 < (a0.size : Int) then ((code_operand.f kj2 (wrap64 (bt a0 a1))).bind fun t116 => (if t116 < 0 then (code_One.j1 kj2 a0 a1 t116 true) else ((code_width.f t116).bind fun t117 => (code_One.j1 kj2 a0 a1 t116 (decide ((wrap64 ((wrap64 ((a0.size : Int) - a1)) - 1)) < t117)))))) else (none)) else (none)) = some (r1, r2, r3, r4, r5) := by rw [if_neg (show ¬ (false = true) by decide)] at H; exact H
    clear H
    have H := H1
    clear H1
    by_cases c8 : 0 ≤ a1
    ·rw [if_pos c8] at H
     have c8b0 : decide (0 ≤ a1) = true := decide_eq_true c8
     clear c8
     by_cases c9 : a1 < (a0.size : Int)
     ·rw [if_pos c9] at H
      have c9b0 : decide (a1 < (a0.size : Int)) = true := decide_eq_true c9
      clear c9
      replace H := Option.bind_eq_some_iff.mp H
      obtain ⟨t116, A110, H⟩ := H
      replace H : (if t116 < 0 then (code_One.j1 kj2 a0 a1 t116 true) else ((code_width.f t116).bind fun t117 => (code_One.j1 kj2 a0 a1 t116 (decide ((wrap64 ((wrap64 ((a0.size : Int) - a1)) - 1)) < t117))))) = some (r1, r2, r3, r4, r5) := H
      have A11 := Aside0.mk A110
      clear A110
      have HC12 := Aside0.mk H
      clear H
      have p10 : 0 ≤ (a1 : Int) := of_decide_eq_true (by first | (with_reducible assumption) | assumption)
      have q10 : a1 < (a0.size : Int) := of_decide_eq_true (by first | (with_reducible assumption) | assumption)
      have hx10 := bt_at a0 a1
      replace p10 := eq_true p10
      replace q10 := eq_true q10
      go_upto_region 4 with (first | ((with_reducible refine gate_callee (f := 40) rfl ?_); refine goesL_ (some 22) rfl rfl Try.func40 (by kernel_rfl) rfl #[.int .i64 (wrap64 (bt a0 a1))] rfl (by (try simp only [List.map_toArray, List.map_cons, List.map_nil]); first | done | rfl | (simp only [List.length_drop, List.length_take]; rfl)) ?_; (with_reducible refine (code_operand.calls kj2 (wrap64 (bt a0 a1)) t116 _ A11.out).mono ?_); rintro e w' ⟨rfl, ⟨nd, rfl⟩⟩; refine ⟨_, rfl, ?_⟩))
      (try simp only [Act.put, List.setIfInBounds_toArray, List.set_cons_zero, List.set_cons_succ])
      go_cut [34] (fun v34 wc => ∃ (kq : Nat) (x34_11 : Bool), v34 = .bool x34_11 ∧ Aside0 (code_One.j1 kq a0 a1 t116 x34_11 = some (r1, r2, r3, r4, r5)) ∧ Aside0 (kq ≤ kj2) ∧ Aside0 (wc.heap[gb115]? = some (.cells #[.int .i64 0, .int .u64 0, .int .i64 0, .int .i64 0] 36 (0, 0))) ∧ Aside0 (Below w.heap.size w wc))
      case first =>
       have H := HC12.out
       clear HC12
       by_cases c13 : t116 < 0
       ·rw [if_pos c13] at H
        have c13b0 : decide (t116 < 0) = true := decide_eq_true c13
        clear c13
        (first | rw [c13b0] | (simp only [i64_w, i32_w]; rw [c13b0]) | skip)
        have H' := Aside0.mk H
        clear H
        go_wp2
        go_meet
        case rel => exact ⟨_, (true), (by first | rfl | (simp; done) | (simp [*]; done)), H', ⟨by have := HJ2.out; first | omega | exact Nat.le_refl _⟩, ⟨by (with_reducible repeat (first | refine blk_drewN ?_ _ | refine blk_drew ?_ | refine blk_alloc ?_ _)); exact BK115.out⟩, ⟨by repeat (first | (with_reducible first | exact HB.out | apply below_alloc | apply pw_below_drewN | apply below_drew1 | refine below_set ?_ GE115.out) | exact HB.out)⟩⟩
       ·rw [if_neg c13] at H
        have c13b0 : decide (t116 < 0) = false := decide_eq_false c13
        clear c13
        (first | rw [c13b0] | (simp only [i64_w, i32_w]; rw [c13b0]) | skip)
        replace H := Option.bind_eq_some_iff.mp H
        obtain ⟨t117, A140, H⟩ := H
        replace H : (code_One.j1 kj2 a0 a1 t116 (decide ((wrap64 ((wrap64 ((a0.size : Int) - a1)) - 1)) < t117))) = some (r1, r2, r3, r4, r5) := H
        have A14 := Aside0.mk A140
        clear A140
        have H' := Aside0.mk H
        clear H
        go_wp2_with (first | (go_at_call 41; (with_reducible refine (code_width.calls t116 t117 _ A14.out).mono ?_); rintro e w15 ⟨rfl, hb⟩; have n0_ := Aside0.mk (blk_below (g := gb115) (o := .cells #[.int .i64 0, .int .u64 0, .int .i64 0, .int .i64 0] 36 (0, 0)) (by (with_reducible repeat (first | refine blk_drewN ?_ _ | refine blk_drew ?_ | refine blk_alloc ?_ _)); exact BK115.out) hb); have n1_ := Aside0.mk (below_step (by repeat (first | (with_reducible first | exact HB.out | apply below_alloc | apply pw_below_drewN | apply below_drew1 | refine below_set ?_ GE115.out) | exact HB.out)) hb); clear BK115; clear HB; have BK115 := n0_; have HB := n1_; clear n0_ n1_; (try clear hb); (try clear hb2); (try clear hk); (try clear hi)))
        go_meet
        case rel => exact ⟨_, (decide ((wrap64 ((wrap64 ((a0.size : Int) - a1)) - 1)) < t117)), (by first | rfl | (simp; done) | (simp [*]; done)), H', ⟨by have := HJ2.out; first | omega | exact Nat.le_refl _⟩, ⟨by (with_reducible repeat (first | refine blk_drewN ?_ _ | refine blk_drew ?_ | refine blk_alloc ?_ _)); exact BK115.out⟩, ⟨by repeat (first | (with_reducible first | exact HB.out | apply below_alloc | apply pw_below_drewN | apply below_drew1 | refine below_set ?_ GE115.out) | exact HB.out)⟩⟩
      case rest =>
       clear HC12
       try clear c1
       try clear p1
       try clear q1
       try clear hx1
       try clear c2
       try clear p2
       try clear c4
       try clear c5
       try clear c5b0
       try clear c6
       try clear p6
       try clear c8
       try clear c8b0
       try clear c9
       try clear c9b0
       try clear p10
       try clear q10
       try clear hx10
       try clear c13
       try clear c13b0
       try clear hcz7_0
       try clear hcz7_1
       try clear hcz7_2
       try clear hcz7_3
       try clear hfz7_0
       try clear hfz7_1
       try clear hfz7_2
       try clear hfz7_3
       try clear p10
       try clear p2
       try clear q10
       obtain ⟨kq, x34_11, rfl, HA, HJ11, BK115, HB⟩ := hcut
       cases kq with
       | zero => exact absurd HA.out (by simp [code_One.j1])
       | succ kj11 =>
        have H := HA.out
        clear HA
        simp only [code_One.j1] at H
        by_cases c16 : x34_11 = true
        ·subst c16
         have H1 : (some (0, 0, 0, 0, 8)) = some (r1, r2, r3, r4, r5) := by rw [if_pos rfl] at H; exact H
         clear H
         have H := H1
         clear H1
         simp only [Option.some.injEq, Prod.mk.injEq] at H
         obtain ⟨rfl, rfl, rfl, rfl, rfl⟩ := H
         have hcz17_0 : wc.cell? ⟨gb115, 0, none⟩ = some (.int .i64 0) := (blk_cell BK115.out 0).trans rfl
         have hcz17_1 : wc.cell? ⟨gb115, 1, none⟩ = some (.int .u64 0) := (blk_cell BK115.out 1).trans rfl
         have hcz17_2 : wc.cell? ⟨gb115, 2, none⟩ = some (.int .i64 0) := (blk_cell BK115.out 2).trans rfl
         have hcz17_3 : wc.cell? ⟨gb115, 3, none⟩ = some (.int .i64 0) := (blk_cell BK115.out 3).trans rfl
         have hfz17_0 := blk_frozen BK115.out 0
         have hfz17_1 := blk_frozen BK115.out 1
         have hfz17_2 := blk_frozen BK115.out 2
         have hfz17_3 := blk_frozen BK115.out 3
         go_wp2
         refine bodyPost_ret (results_ct rfl _ _ gb115 36 #[.int .i64 0, .int .u64 0, .int .i64 0, .int .i64 0] (0, 0) _ rfl (by (with_reducible repeat (first | refine blk_drewN ?_ _ | refine blk_drew ?_ | refine blk_alloc ?_ _)); refine blk_put (cs := #[.int .i64 0, .int .u64 0, .int .i64 0, .int .i64 0]) ?_ 3 _ rfl; (with_reducible repeat (first | refine blk_drewN ?_ _ | refine blk_drew ?_ | refine blk_alloc ?_ _)); refine blk_put (cs := #[.int .i64 0, .int .u64 0, .int .i64 0, .int .i64 0]) ?_ 2 _ rfl; (with_reducible repeat (first | refine blk_drewN ?_ _ | refine blk_drew ?_ | refine blk_alloc ?_ _)); refine blk_put (cs := #[.int .i64 0, .int .u64 0, .int .i64 0, .int .i64 0]) ?_ 1 _ rfl; (with_reducible repeat (first | refine blk_drewN ?_ _ | refine blk_drew ?_ | refine blk_alloc ?_ _)); refine blk_put (cs := #[.int .i64 0, .int .u64 0, .int .i64 0, .int .i64 0]) ?_ 0 _ rfl; (with_reducible repeat (first | refine blk_drewN ?_ _ | refine blk_drew ?_ | refine blk_alloc ?_ _)); exact BK115.out) Try.underlying36 rfl (by kernel_rfl)) rfl ?_
         exact ⟨by first | rfl | (simp [errW_none, errW_some] <;> rfl) | (simp [*, errW_none, errW_some] <;> rfl), by repeat (first | (with_reducible first | exact HB.out | apply below_alloc | apply pw_below_drewN | apply below_drew1 | refine below_set ?_ GE115.out) | exact HB.out)⟩
        ·replace c16 := Bool.eq_false_iff.mpr c16
         subst c16
         have H1 : (if 0 ≤ a1 then (if a1 < (a0.size : Int) then ((code_width.f t116).bind fun t118 => ((code_width.f t116).bind fun t120 => (code_One.l0 kj11 a0 a1 t120 (wrap64 (bt a0 a1)) 0 a1 (wrap64 (1 + t118))))) else (none)) else (none)) = some (r1, r2, r3, r4, r5) := by rw [if_neg (show ¬ (false = true) by decide)] at H; exact H
         clear H
         have H := H1
         clear H1
         by_cases c18 : 0 ≤ a1
         ·rw [if_pos c18] at H
          have c18b0 : decide (0 ≤ a1) = true := decide_eq_true c18
          clear c18
          by_cases c19 : a1 < (a0.size : Int)
          ·rw [if_pos c19] at H
           have c19b0 : decide (a1 < (a0.size : Int)) = true := decide_eq_true c19
           clear c19
           replace H := Option.bind_eq_some_iff.mp H
           obtain ⟨t118, A210, H⟩ := H
           replace H : ((code_width.f t116).bind fun t120 => (code_One.l0 kj11 a0 a1 t120 (wrap64 (bt a0 a1)) 0 a1 (wrap64 (1 + t118)))) = some (r1, r2, r3, r4, r5) := H
           have A21 := Aside0.mk A210
           clear A210
           replace H := Option.bind_eq_some_iff.mp H
           obtain ⟨t120, A220, H⟩ := H
           replace H : (code_One.l0 kj11 a0 a1 t120 (wrap64 (bt a0 a1)) 0 a1 (wrap64 (1 + t118))) = some (r1, r2, r3, r4, r5) := H
           have A22 := Aside0.mk A220
           clear A220
           have H' := Aside0.mk H
           clear H
           try go_wp2
           have n0_ := Aside0.mk (blk_drew BK115.out)
           have n1_ := Aside0.mk (below_drew1 HB.out)
           clear BK115
           clear HB
           have BK115 := n0_
           have HB := n1_
           clear n0_ n1_
           have p20 : 0 ≤ (a1 : Int) := of_decide_eq_true (by first | (with_reducible assumption) | assumption)
           have q20 : a1 < (a0.size : Int) := of_decide_eq_true (by first | (with_reducible assumption) | assumption)
           have hx20 := bt_at a0 a1
           replace p20 := eq_true p20
           replace q20 := eq_true q20
           refine start_ (n := 11) (S := fun w' => True) (ds := []) #[false, false, false, false, false, false, false, false, false, false, false] (by kernel_rfl) rfl rfl trivial (fun hHeld => ?_); refine with_tabW code_One.tab6 code_One.bits6 (fun HT_ HW_ => ?_)
           generalize wc.drew = w23 at BK115 HB hHeld ⊢
           refine pure_ (i := 0) (N := some 36) (v := ?_) (a' := ?_) #[true, false, false, false, false, false, false, false, false, false, false] rfl rfl (any_of HT_.out (by kernel_rfl)) (fun _ _ _ h => h) (Or.inl ⟨by rfl, ?_⟩) ?_ ?_
           rotate_left
           ·intro w'
            go_simp
            with_reducible rfl
           rotate_left
           ·simp only [Act.put, List.setIfInBounds_toArray, List.set_cons_zero, List.set_cons_succ, i64_w, i32_w]
            rfl
           refine pure_ (i := 1) (N := some 37) (v := ?_) (a' := ?_) #[true, true, false, false, false, false, false, false, false, false, false] rfl rfl (any_of HT_.out (by kernel_rfl)) (fun _ _ _ h => h) (Or.inl ⟨by rfl, ?_⟩) ?_ ?_
           rotate_left
           ·intro w'
            go_simp
            with_reducible rfl
           rotate_left
           ·simp only [Act.put, List.setIfInBounds_toArray, List.set_cons_zero, List.set_cons_succ, i64_w, i32_w]
            rfl
           refine pure_ (i := 4) (N := some 40) (v := ?_) (a' := ?_) #[true, true, false, false, true, false, false, false, false, false, false] rfl rfl (any_of HT_.out (by kernel_rfl)) (fun _ _ _ h => h) (Or.inl ⟨by rfl, ?_⟩) ?_ ?_
           rotate_left
           ·intro w'
            go_simp
            with_reducible rfl
           rotate_left
           ·simp only [Act.put, List.setIfInBounds_toArray, List.set_cons_zero, List.set_cons_succ, i64_w, i32_w]
            rfl
           refine pure_ (i := 5) (N := some 41) (v := ?_) (a' := ?_) #[true, true, false, false, true, true, false, false, false, false, false] rfl rfl (any_of HT_.out (by kernel_rfl)) (fun _ _ _ h => h) (Or.inl ⟨by rfl, ?_⟩) ?_ ?_
           rotate_left
           ·intro w'
            go_simp
            with_reducible rfl
           rotate_left
           ·simp only [Act.put, List.setIfInBounds_toArray, List.set_cons_zero, List.set_cons_succ, i64_w, i32_w]
            rfl
           refine take_ (i := 2) (N := some 38) (v := ?_) (a' := ?_) #[true, true, true, false, true, true, false, false, false, false, false] rfl rfl (take_ofW HT_.out HW_.out (by kernel_rfl)) (fun _ _ _ h => h) (Or.inl ⟨by rfl, ?_⟩) hHeld ?_ ?_
           rotate_left
           ·intro w' _
            go_simp
            with_reducible rfl
           rotate_left
           ·simp only [Act.put, List.setIfInBounds_toArray, List.set_cons_zero, List.set_cons_succ, i64_w, i32_w]
            rfl
           refine pure_ (i := 3) (N := some 39) (v := ?_) (a' := ?_) #[true, true, true, true, true, true, false, false, false, false, false] rfl rfl (any_of HT_.out (by kernel_rfl)) (fun _ _ _ h => h) (Or.inl ⟨by rfl, ?_⟩) ?_ ?_
           rotate_left
           ·intro w'
            go_simp
            with_reducible rfl
           rotate_left
           ·simp only [Act.put, List.setIfInBounds_toArray, List.set_cons_zero, List.set_cons_succ, i64_w, i32_w]
            rfl
           refine join_ (σ := Nat) 1 #[true, true, true, true, true, true, true, true, true, true, false] (fun s_ => [(42, .int .i64 t118), (7, .pointer (some ⟨s_, 0, none⟩)), (43, .int .i64 (wrap64 (1 + t118))), (44, .agg #[.int .i64 (wrap64 (bt a0 a1)), .int .u64 0, .int .i64 a1, .int .i64 (wrap64 (1 + t118))])]) (fun s_ w' => (w'.heap[gb115]? = some (.cells #[.int .i64 0, .int .u64 0, .int .i64 0, .int .i64 0] 36 (0, 0))) ∧ (w'.heap[s_]? = some (.cells #[.int .i64 0, .int .u64 0, .int .i64 0, .int .i64 0] 36 (0, 0))) ∧ (w.heap.size ≤ s_) ∧ (w.heap.size ≤ s_) ∧ (gb115 ≠ s_) ∧ (s_ ≠ gb115) ∧ (Below w.heap.size w w')) ?_ ?_
           rotate_left
           ·intro hCont
            refine two_ (i := 6) (j := 9) (Ni := some 42) (Nj := some 7) #[true, true, true, true, true, true, true, false, false, false, false] #[true, true, true, true, true, true, false, false, false, true, false] rfl rfl rfl rfl (two_of HT_.out (by kernel_rfl)) (by decide) (by decide) (fun K hK => ?_) (fun K hK => ?_)
            ·skip
             refine goes_ Try.func41 (by kernel_rfl) rfl #[.int .i64 t116] (by rfl) rfl rfl (by (try simp only [List.map_toArray, List.map_cons, List.map_nil]); first | done | rfl | (simp only [List.length_drop, List.length_take]; rfl)) ?_
             with_reducible refine (code_width.calls t116 t118 _ A21.out).mono ?_
             rintro e w24 ⟨rfl, hb⟩
             refine ⟨_, rfl, ?_⟩
             have n0_ := Aside0.mk (blk_below (g := gb115) (o := .cells #[.int .i64 0, .int .u64 0, .int .i64 0, .int .i64 0] 36 (0, 0)) (by (with_reducible repeat (first | refine blk_drewN ?_ _ | refine blk_drew ?_ | refine blk_alloc ?_ _)); exact BK115.out) hb)
             have n1_ := Aside0.mk (below_step (by repeat (first | (with_reducible first | exact HB.out | apply below_alloc | apply pw_below_drewN | apply below_drew1 | refine below_set ?_ GE115.out) | exact HB.out)) hb)
             clear BK115
             clear HB
             have BK115 := n0_
             have HB := n1_
             clear n0_ n1_
             (try clear hb)
             (try clear hb2)
             (try clear hk)
             (try clear hi)
             refine hK.out _ _ trivial (fun hHeld => ?_)
             clear hK K
             refine norm_ (a' := ?_) ?_ ?_
             rotate_left
             ·show Act.put _ (some 42) _ = _
              simp only [Act.put, List.setIfInBounds_toArray, List.set_cons_zero, List.set_cons_succ, i64_w, i32_w]
              rfl
             refine pure_ (i := 7) (N := some 43) (v := ?_) (a' := ?_) #[true, true, true, true, true, true, true, true, false, false, false] rfl rfl (any_of HT_.out (by kernel_rfl)) (fun _ _ _ h => h) (Or.inl ⟨by rfl, ?_⟩) ?_ ?_
             rotate_left
             ·intro w'
              go_simp
              with_reducible rfl
             rotate_left
             ·simp only [Act.put, List.setIfInBounds_toArray, List.set_cons_zero, List.set_cons_succ, i64_w, i32_w]
              rfl
             refine pure_ (i := 8) (N := some 44) (v := ?_) (a' := ?_) #[true, true, true, true, true, true, true, true, true, false, false] rfl rfl (any_of HT_.out (by kernel_rfl)) (fun _ _ _ h => h) (Or.inl ⟨by rfl, ?_⟩) ?_ ?_
             rotate_left
             ·intro w'
              go_simp
              with_reducible rfl
             rotate_left
             ·simp only [Act.put, List.setIfInBounds_toArray, List.set_cons_zero, List.set_cons_succ, i64_w, i32_w]
              rfl
             refine one_ (i := 9) (N := some 7) #[true, true, true, true, true, true, true, true, true, true, false] rfl rfl (one_of HT_.out (by kernel_rfl)) (by decide) (fun K hK => ?_)
             refine box_step ?hg (N := 7) ?hd (cs := #[.int .i64 0, .int .u64 0, .int .i64 0, .int .i64 0]) (t := 36) ?hr ?_; (case hd => rfl); (case hg => rfl); (case hr => first | (go_simp; done) | (go_simp; rfl))
             intro gb119 hg w25 hbox hb
             have n0_ := Aside0.mk (blk_below (g := gb115) (o := .cells #[.int .i64 0, .int .u64 0, .int .i64 0, .int .i64 0] 36 (0, 0)) (by (with_reducible repeat (first | refine blk_drewN ?_ _ | refine blk_drew ?_ | refine blk_alloc ?_ _)); exact BK115.out) hb)
             have n1_ := Aside0.mk (below_step (by repeat (first | (with_reducible first | exact HB.out | apply below_alloc | apply pw_below_drewN | apply below_drew1 | refine below_set ?_ GE115.out) | exact HB.out)) hb)
             have n2_ := Aside0.mk (hbox)
             have n3_ := Aside0.mk ((by rw [hg]; exact (below_size (by repeat (first | (with_reducible first | exact HB.out | apply below_alloc | apply pw_below_drewN | apply below_drew1 | refine below_set ?_ GE115.out) | exact HB.out))) : w.heap.size ≤ gb119))
             have n4_ := Aside0.mk ((by rw [hg]; exact (below_size (by repeat (first | (with_reducible first | exact HB.out | apply below_alloc | apply pw_below_drewN | apply below_drew1 | refine below_set ?_ GE115.out) | exact HB.out))) : w.heap.size ≤ gb119))
             have n5_ := Aside0.mk ((by rw [hg]; exact Nat.ne_of_lt (blk_lt (g := gb115) (o := .cells #[.int .i64 0, .int .u64 0, .int .i64 0, .int .i64 0] 36 (0, 0)) (by (with_reducible repeat (first | refine blk_drewN ?_ _ | refine blk_drew ?_ | refine blk_alloc ?_ _)); exact BK115.out)) : gb115 ≠ gb119))
             have n6_ := Aside0.mk ((by rw [hg]; exact Nat.ne_of_gt (blk_lt (g := gb115) (o := .cells #[.int .i64 0, .int .u64 0, .int .i64 0, .int .i64 0] 36 (0, 0)) (by (with_reducible repeat (first | refine blk_drewN ?_ _ | refine blk_drew ?_ | refine blk_alloc ?_ _)); exact BK115.out)) : gb119 ≠ gb115))
             clear BK115
             clear HB
             have BK115 := n0_
             have HB := n1_
             have BK119 := n2_
             have GW119 := n3_
             have GE119 := n4_
             have NB115_119 := n5_
             have NB119_115 := n6_
             clear n0_ n1_ n2_ n3_ n4_ n5_ n6_
             clear hb hbox hg
             refine hK.out _ _ trivial (fun hHeld => ?_)
             clear hK K
             refine norm_ (a' := ?_) ?_ ?_
             rotate_left
             ·show Act.put _ (some 7) _ = _
              simp only [Act.put, List.setIfInBounds_toArray, List.set_cons_zero, List.set_cons_succ, i64_w, i32_w]
              rfl
             exact norm_ (by simp only [putAll, Act.put, List.setIfInBounds_toArray, List.set_cons_zero, List.set_cons_succ]) (hCont (gb119) _ ⟨(by (with_reducible repeat (first | refine blk_drewN ?_ _ | refine blk_drew ?_ | refine blk_alloc ?_ _)); exact BK115.out), (by (with_reducible repeat (first | refine blk_drewN ?_ _ | refine blk_drew ?_ | refine blk_alloc ?_ _)); exact BK119.out), GW119.out, GE119.out, NB115_119.out, NB119_115.out, (by repeat (first | (with_reducible first | exact HB.out | apply below_alloc | apply pw_below_drewN | apply below_drew1 | refine below_set ?_ GE115.out | refine below_set ?_ GE119.out) | exact HB.out))⟩)
            ·skip
             refine box_step ?hg (N := 7) ?hd (cs := #[.int .i64 0, .int .u64 0, .int .i64 0, .int .i64 0]) (t := 36) ?hr ?_; (case hd => rfl); (case hg => rfl); (case hr => first | (go_simp; done) | (go_simp; rfl))
             intro gb119 hg w24 hbox hb
             have n0_ := Aside0.mk (blk_below (g := gb115) (o := .cells #[.int .i64 0, .int .u64 0, .int .i64 0, .int .i64 0] 36 (0, 0)) (by (with_reducible repeat (first | refine blk_drewN ?_ _ | refine blk_drew ?_ | refine blk_alloc ?_ _)); exact BK115.out) hb)
             have n1_ := Aside0.mk (below_step (by repeat (first | (with_reducible first | exact HB.out | apply below_alloc | apply pw_below_drewN | apply below_drew1 | refine below_set ?_ GE115.out) | exact HB.out)) hb)
             have n2_ := Aside0.mk (hbox)
             have n3_ := Aside0.mk ((by rw [hg]; exact (below_size (by repeat (first | (with_reducible first | exact HB.out | apply below_alloc | apply pw_below_drewN | apply below_drew1 | refine below_set ?_ GE115.out) | exact HB.out))) : w.heap.size ≤ gb119))
             have n4_ := Aside0.mk ((by rw [hg]; exact (below_size (by repeat (first | (with_reducible first | exact HB.out | apply below_alloc | apply pw_below_drewN | apply below_drew1 | refine below_set ?_ GE115.out) | exact HB.out))) : w.heap.size ≤ gb119))
             have n5_ := Aside0.mk ((by rw [hg]; exact Nat.ne_of_lt (blk_lt (g := gb115) (o := .cells #[.int .i64 0, .int .u64 0, .int .i64 0, .int .i64 0] 36 (0, 0)) (by (with_reducible repeat (first | refine blk_drewN ?_ _ | refine blk_drew ?_ | refine blk_alloc ?_ _)); exact BK115.out)) : gb115 ≠ gb119))
             have n6_ := Aside0.mk ((by rw [hg]; exact Nat.ne_of_gt (blk_lt (g := gb115) (o := .cells #[.int .i64 0, .int .u64 0, .int .i64 0, .int .i64 0] 36 (0, 0)) (by (with_reducible repeat (first | refine blk_drewN ?_ _ | refine blk_drew ?_ | refine blk_alloc ?_ _)); exact BK115.out)) : gb119 ≠ gb115))
             clear BK115
             clear HB
             have BK115 := n0_
             have HB := n1_
             have BK119 := n2_
             have GW119 := n3_
             have GE119 := n4_
             have NB115_119 := n5_
             have NB119_115 := n6_
             clear n0_ n1_ n2_ n3_ n4_ n5_ n6_
             clear hb hbox hg
             refine hK.out _ _ trivial (fun hHeld => ?_)
             clear hK K
             refine norm_ (a' := ?_) ?_ ?_
             rotate_left
             ·show Act.put _ (some 7) _ = _
              simp only [Act.put, List.setIfInBounds_toArray, List.set_cons_zero, List.set_cons_succ, i64_w, i32_w]
              rfl
             refine one_ (i := 6) (N := some 42) #[true, true, true, true, true, true, true, false, false, true, false] rfl rfl (one_of HT_.out (by kernel_rfl)) (by decide) (fun K hK => ?_)
             refine goes_ Try.func41 (by kernel_rfl) rfl #[.int .i64 t116] (by rfl) rfl rfl (by (try simp only [List.map_toArray, List.map_cons, List.map_nil]); first | done | rfl | (simp only [List.length_drop, List.length_take]; rfl)) ?_
             with_reducible refine (code_width.calls t116 t118 _ A21.out).mono ?_
             rintro e w25 ⟨rfl, hb⟩
             refine ⟨_, rfl, ?_⟩
             have n0_ := Aside0.mk (blk_below (g := gb115) (o := .cells #[.int .i64 0, .int .u64 0, .int .i64 0, .int .i64 0] 36 (0, 0)) (by (with_reducible repeat (first | refine blk_drewN ?_ _ | refine blk_drew ?_ | refine blk_alloc ?_ _)); exact BK115.out) hb)
             have n1_ := Aside0.mk (blk_below (g := gb119) (o := .cells #[.int .i64 0, .int .u64 0, .int .i64 0, .int .i64 0] 36 (0, 0)) (by (with_reducible repeat (first | refine blk_drewN ?_ _ | refine blk_drew ?_ | refine blk_alloc ?_ _)); exact BK119.out) hb)
             have n2_ := Aside0.mk (below_step (by repeat (first | (with_reducible first | exact HB.out | apply below_alloc | apply pw_below_drewN | apply below_drew1 | refine below_set ?_ GE115.out | refine below_set ?_ GE119.out) | exact HB.out)) hb)
             clear BK115
             clear BK119
             clear HB
             have BK115 := n0_
             have BK119 := n1_
             have HB := n2_
             clear n0_ n1_ n2_
             (try clear hb)
             (try clear hb2)
             (try clear hk)
             (try clear hi)
             refine hK.out _ _ trivial (fun hHeld => ?_)
             clear hK K
             refine norm_ (a' := ?_) ?_ ?_
             rotate_left
             ·show Act.put _ (some 42) _ = _
              simp only [Act.put, List.setIfInBounds_toArray, List.set_cons_zero, List.set_cons_succ, i64_w, i32_w]
              rfl
             refine pure_ (i := 7) (N := some 43) (v := ?_) (a' := ?_) #[true, true, true, true, true, true, true, true, false, true, false] rfl rfl (any_of HT_.out (by kernel_rfl)) (fun _ _ _ h => h) (Or.inl ⟨by rfl, ?_⟩) ?_ ?_
             rotate_left
             ·intro w'
              go_simp
              with_reducible rfl
             rotate_left
             ·simp only [Act.put, List.setIfInBounds_toArray, List.set_cons_zero, List.set_cons_succ, i64_w, i32_w]
              rfl
             refine pure_ (i := 8) (N := some 44) (v := ?_) (a' := ?_) #[true, true, true, true, true, true, true, true, true, true, false] rfl rfl (any_of HT_.out (by kernel_rfl)) (fun _ _ _ h => h) (Or.inl ⟨by rfl, ?_⟩) ?_ ?_
             rotate_left
             ·intro w'
              go_simp
              with_reducible rfl
             rotate_left
             ·simp only [Act.put, List.setIfInBounds_toArray, List.set_cons_zero, List.set_cons_succ, i64_w, i32_w]
              rfl
             exact norm_ (by simp only [putAll, Act.put, List.setIfInBounds_toArray, List.set_cons_zero, List.set_cons_succ]) (hCont (gb119) _ ⟨(by (with_reducible repeat (first | refine blk_drewN ?_ _ | refine blk_drew ?_ | refine blk_alloc ?_ _)); exact BK115.out), (by (with_reducible repeat (first | refine blk_drewN ?_ _ | refine blk_drew ?_ | refine blk_alloc ?_ _)); exact BK119.out), GW119.out, GE119.out, NB115_119.out, NB119_115.out, (by repeat (first | (with_reducible first | exact HB.out | apply below_alloc | apply pw_below_drewN | apply below_drew1 | refine below_set ?_ GE115.out | refine below_set ?_ GE119.out) | exact HB.out))⟩)
           rintro gb119 w26 ⟨h0_, h1_, h2_, h3_, h4_, h5_, h6_⟩
           have n0_ : Aside0 (w26.heap[gb115]? = some (.cells #[.int .i64 0, .int .u64 0, .int .i64 0, .int .i64 0] 36 (0, 0))) := ⟨h0_⟩
           have n1_ : Aside0 (w26.heap[gb119]? = some (.cells #[.int .i64 0, .int .u64 0, .int .i64 0, .int .i64 0] 36 (0, 0))) := ⟨h1_⟩
           have n2_ : Aside0 (w.heap.size ≤ gb119) := ⟨h2_⟩
           have n3_ : Aside0 (w.heap.size ≤ gb119) := ⟨h3_⟩
           have n4_ : Aside0 (gb115 ≠ gb119) := ⟨h4_⟩
           have n5_ : Aside0 (gb119 ≠ gb115) := ⟨h5_⟩
           have n6_ : Aside0 (Below w.heap.size w w26) := ⟨h6_⟩
           clear BK115
           clear HB
           clear h0_ h1_ h2_ h3_ h4_ h5_ h6_
           have BK115 := n0_
           have BK119 := n1_
           have GW119 := n2_
           have GE119 := n3_
           have NB115_119 := n4_
           have NB119_115 := n5_
           have HB := n6_
           clear n0_ n1_ n2_ n3_ n4_ n5_ n6_
           have hHeld := trivial
           refine norm_ (a' := ?_) ?_ ?_
           rotate_left
           ·simp only [putAll, Act.put, List.setIfInBounds_toArray, List.set_cons_zero, List.set_cons_succ]
            rfl
           refine one_ (i := 10) (N := none) #[true, true, true, true, true, true, true, true, true, true, true] rfl rfl (one_of HT_.out (by kernel_rfl)) (by decide) (fun K hK => ?_)
           have hs27 : w26.cell? ⟨gb119, 0, none⟩ = some (.int .i64 0) := (blk_cell BK119.out 0).trans rfl
           have hfs27 := blk_frozen BK119.out 0
           have hns27_0 := NB115_119.out
           have hms27_0 := NB119_115.out
           have hs28 : w26.cell? ⟨gb119, 1, none⟩ = some (.int .u64 0) := (blk_cell BK119.out 1).trans rfl
           have hfs28 := blk_frozen BK119.out 1
           have hns28_0 := NB115_119.out
           have hms28_0 := NB119_115.out
           have hs29 : w26.cell? ⟨gb119, 2, none⟩ = some (.int .i64 0) := (blk_cell BK119.out 2).trans rfl
           have hfs29 := blk_frozen BK119.out 2
           have hns29_0 := NB115_119.out
           have hms29_0 := NB119_115.out
           have hs30 : w26.cell? ⟨gb119, 3, none⟩ = some (.int .i64 0) := (blk_cell BK119.out 3).trans rfl
           have hfs30 := blk_frozen BK119.out 3
           have hns30_0 := NB115_119.out
           have hms30_0 := NB119_115.out
           refine skip_ (w1 := ?_) (by rfl) rfl ?_ ?_
           rotate_left
           ·go_simp
            rfl
           refine hK.out _ _ trivial (fun hHeld => ?_)
           clear hK K
           refine done_ (done_of HT_.out (by kernel_rfl)) ?_
           try go_wp2_with (first | ((with_reducible refine gate_callee (f := 41) rfl ?_); refine goesL_ (some 46) rfl rfl Try.func41 (by kernel_rfl) rfl #[.int .i64 t116] rfl (by (try simp only [List.map_toArray, List.map_cons, List.map_nil]); first | done | rfl | (simp only [List.length_drop, List.length_take]; rfl)) ?_; (with_reducible refine (code_width.calls t116 t120 _ A22.out).mono ?_); rintro e w31 ⟨rfl, hb⟩; refine ⟨_, rfl, ?_⟩; have n0_ := Aside0.mk (blk_below (g := gb115) (o := .cells #[.int .i64 0, .int .u64 0, .int .i64 0, .int .i64 0] 36 (0, 0)) (by (with_reducible repeat (first | refine blk_drewN ?_ _ | refine blk_drew ?_ | refine blk_alloc ?_ _)); refine blk_far ?_ NB115_119.out _; (with_reducible repeat (first | refine blk_drewN ?_ _ | refine blk_drew ?_ | refine blk_alloc ?_ _)); refine blk_far ?_ NB115_119.out _; (with_reducible repeat (first | refine blk_drewN ?_ _ | refine blk_drew ?_ | refine blk_alloc ?_ _)); refine blk_far ?_ NB115_119.out _; (with_reducible repeat (first | refine blk_drewN ?_ _ | refine blk_drew ?_ | refine blk_alloc ?_ _)); refine blk_far ?_ NB115_119.out _; (with_reducible repeat (first | refine blk_drewN ?_ _ | refine blk_drew ?_ | refine blk_alloc ?_ _)); exact BK115.out) hb); have n1_ := Aside0.mk (blk_below (g := gb119) (o := .cells #[.int .i64 (wrap64 (bt a0 a1)), .int .u64 0, .int .i64 a1, .int .i64 (wrap64 (1 + t118))] 36 (0, 0)) (by (with_reducible repeat (first | refine blk_drewN ?_ _ | refine blk_drew ?_ | refine blk_alloc ?_ _)); refine blk_put (cs := #[.int .i64 (wrap64 (bt a0 a1)), .int .u64 0, .int .i64 a1, .int .i64 0]) ?_ 3 _ rfl; (with_reducible repeat (first | refine blk_drewN ?_ _ | refine blk_drew ?_ | refine blk_alloc ?_ _)); refine blk_put (cs := #[.int .i64 (wrap64 (bt a0 a1)), .int .u64 0, .int .i64 0, .int .i64 0]) ?_ 2 _ rfl; (with_reducible repeat (first | refine blk_drewN ?_ _ | refine blk_drew ?_ | refine blk_alloc ?_ _)); refine blk_put (cs := #[.int .i64 (wrap64 (bt a0 a1)), .int .u64 0, .int .i64 0, .int .i64 0]) ?_ 1 _ rfl; (with_reducible repeat (first | refine blk_drewN ?_ _ | refine blk_drew ?_ | refine blk_alloc ?_ _)); refine blk_put (cs := #[.int .i64 0, .int .u64 0, .int .i64 0, .int .i64 0]) ?_ 0 _ rfl; (with_reducible repeat (first | refine blk_drewN ?_ _ | refine blk_drew ?_ | refine blk_alloc ?_ _)); exact BK119.out) hb); have n2_ := Aside0.mk (below_step (by repeat (first | (with_reducible first | exact HB.out | apply below_alloc | apply pw_below_drewN | apply below_drew1 | refine below_set ?_ GE115.out | refine below_set ?_ GE119.out) | exact HB.out)) hb); clear BK115; clear BK119; clear HB; have BK115 := n0_; have BK119 := n1_; have HB := n2_; clear n0_ n1_ n2_; (try clear hb); (try clear hb2); (try clear hk); (try clear hi)))
           go_loopg [8] kj11 (fun kq v8 w' => ∃ (x8_3 : Int) (x120001_3 : Int), v8 = .int .i64 x8_3 ∧ Aside0 (code_One.l0 kq a0 a1 x8_3 (wrap64 (bt a0 a1)) x120001_3 a1 (wrap64 (1 + t118)) = some (r1, r2, r3, r4, r5)) ∧ Aside0 (kq ≤ kj11) ∧ Aside0 (w'.heap[gb115]? = some (.cells #[.int .i64 0, .int .u64 0, .int .i64 0, .int .i64 0] 36 (0, 0))) ∧ Aside0 (w'.heap[gb119]? = some (.cells #[.int .i64 (wrap64 (bt a0 a1)), .int .u64 x120001_3, .int .i64 a1, .int .i64 (wrap64 (1 + t118))] 36 (0, 0))) ∧ Aside0 (Below w.heap.size w w'))
           case atStart => exact ⟨(t120), (0), (by first | rfl | (simp; done) | (simp [*]; done)), H', ⟨Nat.le_refl _⟩, ⟨by (with_reducible repeat (first | refine blk_drewN ?_ _ | refine blk_drew ?_ | refine blk_alloc ?_ _)); exact BK115.out⟩, ⟨by (with_reducible repeat (first | refine blk_drewN ?_ _ | refine blk_drew ?_ | refine blk_alloc ?_ _)); exact BK119.out⟩, ⟨by repeat (first | (with_reducible first | exact HB.out | apply below_alloc | apply pw_below_drewN | apply below_drew1 | refine below_set ?_ GE115.out | refine below_set ?_ GE119.out) | exact HB.out)⟩⟩
           case round =>
            clear H'
            try clear c1
            try clear p1
            try clear q1
            try clear hx1
            try clear c2
            try clear p2
            try clear q2
            try clear hx2
            try clear c4
            try clear c5
            try clear c5b0
            try clear c6
            try clear p6
            try clear c8
            try clear c8b0
            try clear c9
            try clear c9b0
            try clear p10
            try clear q10
            try clear hx10
            try clear c13
            try clear c13b0
            try clear c16
            try clear c18
            try clear c18b0
            try clear c19
            try clear c19b0
            try clear c20
            try clear p20
            try clear q20
            try clear hx20
            try clear hcz17_0
            try clear hcz17_1
            try clear hcz17_2
            try clear hcz17_3
            try clear hcz7_0
            try clear hcz7_1
            try clear hcz7_2
            try clear hcz7_3
            try clear hfz17_0
            try clear hfz17_1
            try clear hfz17_2
            try clear hfz17_3
            try clear hfz7_0
            try clear hfz7_1
            try clear hfz7_2
            try clear hfz7_3
            try clear p1
            try clear p10
            try clear p2
            try clear p20
            try clear p6
            try clear q1
            try clear q10
            try clear q20
            obtain ⟨x8_3, x120001_3, rfl, HA, HK3, BK115, BK119, HB⟩ := hrel
            cases gk with
            | zero => exact absurd HA.out (by simp [code_One.l0])
            | succ k3 =>
             have H := HA.out
             clear HA
             simp only [code_One.l0] at H
             by_cases c32 : x8_3 > 0
             ·rw [if_pos c32] at H
              have c32b0 : decide (0 < x8_3) = true := decide_eq_true c32
              clear c32
              obtain ⟨ji33, hji33⟩ : ∃ j_ : Int, (wrap64 (a1 + x8_3)) = j_ := ⟨_, rfl⟩
              replace H : (if 0 ≤ (ji33) then (if (ji33) < (a0.size : Int) then (code_One.l0 k3 a0 a1 (wrap64 (x8_3 - 1)) (wrap64 (bt a0 a1)) (Go.bits .or .u64 (IntKind.u64.wrap (x120001_3 * 256)) (IntKind.u64.wrap (bt a0 (ji33)))) a1 (wrap64 (1 + t118))) else (none)) else (none)) = some (r1, r2, r3, r4, r5) := by first | (rw [hji33] at H; exact H) | (simp only [hji33] at H ⊢; exact H)
              have hji33w : (IntKind.i64.wrap (a1 + x8_3)) = ji33 := (i64_w _).trans hji33
              by_cases c34 : 0 ≤ (ji33)
              ·rw [if_pos c34] at H
               have c34b0 : decide (0 ≤ (ji33)) = true := decide_eq_true c34
               clear c34
               by_cases c35 : (ji33) < (a0.size : Int)
               ·rw [if_pos c35] at H
                have c35b0 : decide ((ji33) < (a0.size : Int)) = true := decide_eq_true c35
                clear c35
                have H' := Aside0.mk H
                clear H
                try go_wp2
                have n0_ := Aside0.mk (blk_drew BK115.out)
                have n1_ := Aside0.mk (blk_drew BK119.out)
                have n2_ := Aside0.mk (below_drew1 HB.out)
                clear BK115
                clear BK119
                clear HB
                have BK115 := n0_
                have BK119 := n1_
                have HB := n2_
                clear n0_ n1_ n2_
                have p36 : 0 ≤ ((ji33) : Int) := of_decide_eq_true (by first | (with_reducible assumption) | assumption)
                have q36 : (ji33) < (a0.size : Int) := of_decide_eq_true (by first | (with_reducible assumption) | assumption)
                have hx36 := bt_at a0 (ji33)
                replace p36 := eq_true p36
                replace q36 := eq_true q36
                refine start_ (n := 12) (S := fun w' => w'.cell? ⟨gb119, 0, none⟩ = some (.int .i64 (wrap64 (bt a0 a1))) ∧ w'.cell? ⟨gb119, 1, none⟩ = some (.int .u64 x120001_3) ∧ w'.cell? ⟨gb119, 2, none⟩ = some (.int .i64 a1) ∧ w'.cell? ⟨gb119, 3, none⟩ = some (.int .i64 (wrap64 (1 + t118)))) (ds := [11]) #[false, false, false, false, false, false, false, false, false, false, false, false] (by kernel_rfl) rfl rfl ⟨(blk_cell BK119.out 0).trans rfl, (blk_cell BK119.out 1).trans rfl, (blk_cell BK119.out 2).trans rfl, (blk_cell BK119.out 3).trans rfl⟩ (fun hHeld => ?_); refine with_tabW code_One.tab10 code_One.bits10 (fun HT_ HW_ => ?_)
                generalize wr.drew = w37 at BK115 BK119 HB hHeld ⊢
                refine pure_ (i := 0) (N := some 51) (v := ?_) (a' := ?_) #[true, false, false, false, false, false, false, false, false, false, false, false] rfl rfl (any_of HT_.out (by kernel_rfl)) (fun _ _ _ h => h) (Or.inl ⟨by rfl, ?_⟩) ?_ ?_
                rotate_left
                ·intro w'
                 go_simp
                 with_reducible rfl
                rotate_left
                ·simp only [Act.put, List.setIfInBounds_toArray, List.set_cons_zero, List.set_cons_succ, i64_w, i32_w]
                 rfl
                refine pure_ (i := 3) (N := some 54) (v := ?_) (a' := ?_) #[true, false, false, true, false, false, false, false, false, false, false, false] rfl rfl (any_of HT_.out (by kernel_rfl)) (fun _ _ _ h => h) (Or.inl ⟨by rfl, ?_⟩) ?_ ?_
                rotate_left
                ·intro w'
                 go_simp
                 with_reducible rfl
                rotate_left
                ·simp only [Act.put, List.setIfInBounds_toArray, List.set_cons_zero, List.set_cons_succ, i64_w, i32_w]
                 rfl
                refine pure_ (i := 4) (N := some 55) (v := ?_) (a' := ?_) #[true, false, false, true, true, false, false, false, false, false, false, false] rfl rfl (any_of HT_.out (by kernel_rfl)) (fun _ _ _ h => h) (Or.inl ⟨by rfl, ?_⟩) ?_ ?_
                rotate_left
                ·intro w'
                 go_simp
                 with_reducible rfl
                rotate_left
                ·simp only [Act.put, List.setIfInBounds_toArray, List.set_cons_zero, List.set_cons_succ, i64_w, i32_w]
                 rfl
                refine pure_ (i := 5) (N := some 56) (v := ?_) (a' := ?_) #[true, false, false, true, true, true, false, false, false, false, false, false] rfl rfl (any_of HT_.out (by kernel_rfl)) (fun _ _ _ h => h) (Or.inl ⟨by rfl, ?_⟩) ?_ ?_
                rotate_left
                ·intro w'
                 go_simp
                 with_reducible rfl
                rotate_left
                ·simp only [Act.put, List.setIfInBounds_toArray, List.set_cons_zero, List.set_cons_succ, i64_w, i32_w]
                 rfl
                refine pure_ (i := 6) (N := some 57) (v := ?_) (a' := ?_) #[true, false, false, true, true, true, true, false, false, false, false, false] rfl rfl (any_of HT_.out (by kernel_rfl)) (fun _ _ _ h => h) (Or.inl ⟨by rfl, ?_⟩) ?_ ?_
                rotate_left
                ·intro w'
                 go_simp
                 with_reducible rfl
                rotate_left
                ·simp only [Act.put, List.setIfInBounds_toArray, List.set_cons_zero, List.set_cons_succ, i64_w, i32_w]
                 rfl
                refine take_ (i := 1) (N := some 52) (v := ?_) (a' := ?_) #[true, true, false, true, true, true, true, false, false, false, false, false] rfl rfl (take_ofW HT_.out HW_.out (by kernel_rfl)) (fun _ _ _ h => h) (Or.inl ⟨by rfl, ?_⟩) hHeld ?_ ?_
                rotate_left
                ·rintro w' ⟨s0, s1, s2, s3⟩
                 go_simp
                 with_reducible rfl
                rotate_left
                ·simp only [Act.put, List.setIfInBounds_toArray, List.set_cons_zero, List.set_cons_succ, i64_w, i32_w]
                 rfl
                refine pure_ (i := 2) (N := some 53) (v := ?_) (a' := ?_) #[true, true, true, true, true, true, true, false, false, false, false, false] rfl rfl (any_of HT_.out (by kernel_rfl)) (fun _ _ _ h => h) (Or.inl ⟨by rfl, ?_⟩) ?_ ?_
                rotate_left
                ·intro w'
                 go_simp
                 with_reducible rfl
                rotate_left
                ·simp only [Act.put, List.setIfInBounds_toArray, List.set_cons_zero, List.set_cons_succ, i64_w, i32_w]
                 rfl
                refine take_ (i := 7) (N := some 58) (v := ?_) (a' := ?_) #[true, true, true, true, true, true, true, true, false, false, false, false] rfl rfl (take_ofW HT_.out HW_.out (by kernel_rfl)) (fun _ _ _ h => h) (Or.inl ⟨by rfl, ?_⟩) hHeld ?_ ?_
                rotate_left
                ·rintro w' ⟨s0, s1, s2, s3⟩
                 go_simp
                 with_reducible rfl
                rotate_left
                ·simp only [Act.put, List.setIfInBounds_toArray, List.set_cons_zero, List.set_cons_succ, i64_w, i32_w]
                 rfl
                refine pure_ (i := 8) (N := some 59) (v := ?_) (a' := ?_) #[true, true, true, true, true, true, true, true, true, false, false, false] rfl rfl (any_of HT_.out (by kernel_rfl)) (fun _ _ _ h => h) (Or.inl ⟨by rfl, ?_⟩) ?_ ?_
                rotate_left
                ·intro w'
                 go_simp
                 with_reducible rfl
                rotate_left
                ·simp only [Act.put, List.setIfInBounds_toArray, List.set_cons_zero, List.set_cons_succ, i64_w, i32_w]
                 rfl
                refine pure_ (i := 9) (N := some 60) (v := ?_) (a' := ?_) #[true, true, true, true, true, true, true, true, true, true, false, false] rfl rfl (any_of HT_.out (by kernel_rfl)) (fun _ _ _ h => h) (Or.inl ⟨by rfl, ?_⟩) ?_ ?_
                rotate_left
                ·intro w'
                 go_simp
                 with_reducible rfl
                rotate_left
                ·simp only [Act.put, List.setIfInBounds_toArray, List.set_cons_zero, List.set_cons_succ, i64_w, i32_w]
                 rfl
                refine pure_ (i := 10) (N := some 61) (v := ?_) (a' := ?_) #[true, true, true, true, true, true, true, true, true, true, true, false] rfl rfl (any_of HT_.out (by kernel_rfl)) (fun _ _ _ h => h) (Or.inl ⟨by rfl, ?_⟩) ?_ ?_
                rotate_left
                ·intro w'
                 go_simp
                 with_reducible rfl
                rotate_left
                ·simp only [Act.put, List.setIfInBounds_toArray, List.set_cons_zero, List.set_cons_succ, i64_w, i32_w]
                 rfl
                refine last_ (i := 11) (N := none) #[true, true, true, true, true, true, true, true, true, true, true, true] rfl rfl (one_of HT_.out (by kernel_rfl)) (by decide) (fun K hK => ?_)
                have hs38 : w37.cell? ⟨gb119, 1, none⟩ = some (.int .u64 x120001_3) := (blk_cell BK119.out 1).trans rfl
                have hfs38 := blk_frozen BK119.out 1
                have hns38_0 := NB115_119.out
                have hms38_0 := NB119_115.out
                refine skip_ (w1 := ?_) (by rfl) rfl ?_ ?_
                rotate_left
                ·go_simp
                 rfl
                refine hK.out _ _ ?_
                clear hK K
                refine done_ (done_of HT_.out (by kernel_rfl)) ?_
                try go_wp2
                go_roundg k3
                case measure => have := HJ2.out; have := HJ11.out; have := HK3.out; omega
                case rel => exact ⟨(wrap64 (x8_3 - 1)), (Go.bits .or .u64 (IntKind.u64.wrap (x120001_3 * 256)) (IntKind.u64.wrap (bt a0 (ji33)))), (by first | rfl | (simp; done) | (simp [*]; done)), H', ⟨by have := HJ2.out; have := HJ11.out; have := HK3.out; omega⟩, ⟨by (with_reducible repeat (first | refine blk_drewN ?_ _ | refine blk_drew ?_ | refine blk_alloc ?_ _)); refine blk_far ?_ NB115_119.out _; (with_reducible repeat (first | refine blk_drewN ?_ _ | refine blk_drew ?_ | refine blk_alloc ?_ _)); exact BK115.out⟩, ⟨by (with_reducible repeat (first | refine blk_drewN ?_ _ | refine blk_drew ?_ | refine blk_alloc ?_ _)); refine blk_put (cs := #[.int .i64 (wrap64 (bt a0 a1)), .int .u64 x120001_3, .int .i64 a1, .int .i64 (wrap64 (1 + t118))]) ?_ 1 _ rfl; (with_reducible repeat (first | refine blk_drewN ?_ _ | refine blk_drew ?_ | refine blk_alloc ?_ _)); exact BK119.out⟩, ⟨by repeat (first | (with_reducible first | exact HB.out | apply below_alloc | apply pw_below_drewN | apply below_drew1 | refine below_set ?_ GE115.out | refine below_set ?_ GE119.out) | exact HB.out)⟩⟩
               ·rw [if_neg c35] at H
                exact absurd H (by simp)
              ·rw [if_neg c34] at H
               exact absurd H (by simp)
             ·rw [if_neg c32] at H
              have c32b0 : decide (0 < x8_3) = false := decide_eq_false c32
              clear c32
              simp only [Option.some.injEq, Prod.mk.injEq] at H
              obtain ⟨rfl, rfl, rfl, rfl, rfl⟩ := H
              have hnb39 := NB119_115.out
              have hnc39 := NB115_119.out
              have hcz40_0 : wr.cell? ⟨gb119, 0, none⟩ = some (.int .i64 (wrap64 (bt a0 a1))) := (blk_cell BK119.out 0).trans rfl
              have hcz40_1 : wr.cell? ⟨gb119, 1, none⟩ = some (.int .u64 x120001_3) := (blk_cell BK119.out 1).trans rfl
              have hcz40_2 : wr.cell? ⟨gb119, 2, none⟩ = some (.int .i64 a1) := (blk_cell BK119.out 2).trans rfl
              have hcz40_3 : wr.cell? ⟨gb119, 3, none⟩ = some (.int .i64 (wrap64 (1 + t118))) := (blk_cell BK119.out 3).trans rfl
              have hfz40_0 := blk_frozen BK119.out 0
              have hfz40_1 := blk_frozen BK119.out 1
              have hfz40_2 := blk_frozen BK119.out 2
              have hfz40_3 := blk_frozen BK119.out 3
              have hcz41_0 : wr.cell? ⟨gb115, 0, none⟩ = some (.int .i64 0) := (blk_cell BK115.out 0).trans rfl
              have hcz41_1 : wr.cell? ⟨gb115, 1, none⟩ = some (.int .u64 0) := (blk_cell BK115.out 1).trans rfl
              have hcz41_2 : wr.cell? ⟨gb115, 2, none⟩ = some (.int .i64 0) := (blk_cell BK115.out 2).trans rfl
              have hcz41_3 : wr.cell? ⟨gb115, 3, none⟩ = some (.int .i64 0) := (blk_cell BK115.out 3).trans rfl
              have hfz41_0 := blk_frozen BK115.out 0
              have hfz41_1 := blk_frozen BK115.out 1
              have hfz41_2 := blk_frozen BK115.out 2
              have hfz41_3 := blk_frozen BK115.out 3
              go_wp2
              refine bodyPost_ret (results_ct rfl _ _ gb115 36 #[.int .i64 (wrap64 (bt a0 a1)), .int .u64 x120001_3, .int .i64 a1, .int .i64 (wrap64 (1 + t118))] (0, 0) _ rfl (by (with_reducible repeat (first | refine blk_drewN ?_ _ | refine blk_drew ?_ | refine blk_alloc ?_ _)); refine blk_put (cs := #[.int .i64 (wrap64 (bt a0 a1)), .int .u64 x120001_3, .int .i64 a1, .int .i64 0]) ?_ 3 _ rfl; (with_reducible repeat (first | refine blk_drewN ?_ _ | refine blk_drew ?_ | refine blk_alloc ?_ _)); refine blk_put (cs := #[.int .i64 (wrap64 (bt a0 a1)), .int .u64 x120001_3, .int .i64 0, .int .i64 0]) ?_ 2 _ rfl; (with_reducible repeat (first | refine blk_drewN ?_ _ | refine blk_drew ?_ | refine blk_alloc ?_ _)); refine blk_put (cs := #[.int .i64 (wrap64 (bt a0 a1)), .int .u64 0, .int .i64 0, .int .i64 0]) ?_ 1 _ rfl; (with_reducible repeat (first | refine blk_drewN ?_ _ | refine blk_drew ?_ | refine blk_alloc ?_ _)); refine blk_put (cs := #[.int .i64 0, .int .u64 0, .int .i64 0, .int .i64 0]) ?_ 0 _ rfl; (with_reducible repeat (first | refine blk_drewN ?_ _ | refine blk_drew ?_ | refine blk_alloc ?_ _)); exact BK115.out) Try.underlying36 rfl (by kernel_rfl)) rfl ?_
              exact ⟨by first | rfl | (simp [errW_none, errW_some] <;> rfl) | (simp [*, errW_none, errW_some] <;> rfl), by repeat (first | (with_reducible first | exact HB.out | apply below_alloc | apply pw_below_drewN | apply below_drew1 | refine below_set ?_ GE115.out | refine below_set ?_ GE119.out) | exact HB.out)⟩
          ·rw [if_neg c19] at H
           exact absurd H (by simp)
         ·rw [if_neg c18] at H
          exact absurd H (by simp)
     ·rw [if_neg c9] at H
      exact absurd H (by simp)
    ·rw [if_neg c8] at H
     exact absurd H (by simp)
end Go.Proofs.Ytjbpljcfogekhaa.Q
namespace Go.Proofs.Ytjbpljcfogekhaa.Core
open Go.RowKit Go.Proofs.Ytjbpljcfogekhaa.Q Go.Proofs.YtjbpljcfogekhaaW.PrintWords Go.Proofs.YtjbpljcfogekhaaW.PrintLast Go.Proofs.YtjbpljcfogekhaaW.PrintMore
theorem Ev.from {α : Type} {g : Nat → Option α} {r : α} (n : Nat) (h : ∀ k, g (k + n) = some r) : Ev g r :=
  ⟨n, fun k hk => by obtain ⟨m, rfl⟩ := Nat.exists_eq_add_of_le hk; rw [Nat.add_comm]; exact h m⟩
theorem Ev.pos {α : Type} {c : Prop} [Decidable c] {g f : Nat → Option α} {r : α} (h : c) (k : Ev g r) : Ev (fun n => if c then g n else f n) r := by simpa only [if_pos h] using k
theorem Ev.neg {α : Type} {c : Prop} [Decidable c] {g f : Nat → Option α} {r : α} (h : ¬ c) (k : Ev f r) : Ev (fun n => if c then g n else f n) r := by simpa only [if_neg h] using k
theorem Ev.fn {α β : Type} {g : Option α} {f : Nat → α → Option β} {a : α} {r : β} (h : g = some a) (k : Ev (fun n => f n a) r) : Ev (fun n => g.bind (f n)) r := by
  subst h; exact k
theorem Ev.one {α : Type} {g : Nat → Option α} {r q : α} (h : Ev g r) (h' : Ev g q) : r = q := by
  obtain ⟨K, hK⟩ := h
  obtain ⟨K', hK'⟩ := h'
  have h1 := hK (K + K') (by omega)
  have h2 := hK' (K + K') (by omega)
  rw [h1] at h2
  exact Option.some.inj h2
def opw (op : Int) : Int := if op = 0 then 1 else if op = 23 then 1 else if op = 21 then 2 else if op = 22 then 2 else if op = 1 then 8 else if op < 0 then -1 else if op > 23 then -1 else 0
def opk (op : Int) : Int := if op = 0 then 1 else if op = 23 then 1 else if op = 21 then 2 else if op = 22 then 2 else if op = 1 then 3 else if op < 0 then -1 else if op > 23 then -1 else 0
theorem operand_ev (op : Int) : Ev (fun k => code_operand.f k op) (opk op) := by
  refine Ev.from 2 fun k => ?_
  simp only [code_operand.f, code_operand.j0, code_operand.j1, opk, beq_iff_eq]
  repeat' split
  all_goals first | rfl | (exfalso; omega)
theorem opk_neg (op : Int) : opk op < 0 ↔ opw op < 0 := by
  unfold opk opw; repeat' split
  all_goals omega
theorem opw_cases (op : Int) : opw op = -1 ∨ opw op = 0 ∨ opw op = 1 ∨ opw op = 2 ∨ opw op = 8 := by
  unfold opw; repeat' split
  all_goals simp
theorem opw_op {op : Int} (h : 0 ≤ opw op) : 0 ≤ op ∧ op ≤ 23 := by
  unfold opw at h; repeat' split at h
  all_goals omega
theorem opw_le (op : Int) : opw op ≤ 8 := by rcases opw_cases op with h | h | h | h | h <;> omega
theorem width_eq (op : Int) (h : 0 ≤ opw op) : code_width.f (opk op) = some (opw op) := by
  have hw : ∀ j : Int, j = 0 ∨ j = 1 ∨ j = 2 ∨ j = 3 → code_width.f j = some (if j = 0 then 0 else if j = 1 then 1 else if j = 2 then 2 else 8) := by
    rintro j (rfl | rfl | rfl | rfl) <;> rfl
  revert h
  unfold opk opw
  repeat' split
  all_goals first | (intro h; omega) | (intro _; rw [hw _ (by omega)]; rfl)
/-- The bytes as a number. -/
def leN : List Int → Int
  | [] => 0
  | b :: l => b + 256 * leN l
theorem leN_range : ∀ (l : List Int), (∀ b ∈ l, 0 ≤ b ∧ b < 256) → 0 ≤ leN l ∧ leN l < 256 ^ l.length
  | [], _ => by simp [leN]
  | b :: l, h => by
    have h1 := leN_range l (fun c hc => h c (List.mem_cons_of_mem _ hc))
    have h2 := h b (List.mem_cons_self ..)
    have h3 : (256 : Int) ^ (l.length + 1) = 256 * 256 ^ l.length := by rw [Int.pow_succ, Int.mul_comm]
    rw [leN, List.length_cons, h3]
    omega
end Go.Proofs.Ytjbpljcfogekhaa.Core
namespace Go.Proofs.Ytjbpljcfogekhaa.Core
open Go.RowKit Go.Proofs.Ytjbpljcfogekhaa.Q Go.Proofs.YtjbpljcfogekhaaW.PrintWords Go.Proofs.YtjbpljcfogekhaaW.PrintLast Go.Proofs.YtjbpljcfogekhaaW.PrintMore
theorem wrap_in {n : Int} (h0 : -9223372036854775808 ≤ n) (h1 : n < 9223372036854775808) : wrap64 n = n := by unfold wrap64; omega
end Go.Proofs.Ytjbpljcfogekhaa.Core
namespace Go.Proofs.Ytjbpljcfogekhaa.Core
open Go.RowKit Go.Proofs.Ytjbpljcfogekhaa.Q Go.Proofs.YtjbpljcfogekhaaW.PrintWords Go.Proofs.YtjbpljcfogekhaaW.PrintLast Go.Proofs.YtjbpljcfogekhaaW.PrintMore
theorem u64_in (n : Int) (h0 : 0 ≤ n) (h1 : n < 18446744073709551616) : IntKind.u64.wrap n = n := by
  simp only [IntKind.wrap, IntKind.bits, IntKind.signed]
  simp
  omega
theorem u64_pow (n : Int) (h0 : 0 ≤ n) (h1 : n < 2 ^ 64) : IntKind.u64.wrap n = n := u64_in n h0 (by have : (2 : Int) ^ 64 = 18446744073709551616 := by decide
                                                                                                     omega)
theorem or_low (a b : Int) (h0 : 0 ≤ a) (h1 : a * 256 < 18446744073709551616) (hb0 : 0 ≤ b) (hb : b < 256) : Go.bits .or .u64 (IntKind.u64.wrap (a * 256)) (IntKind.u64.wrap b) = b + 256 * a := by
  rw [u64_in _ (by omega) h1, u64_in b hb0 (by omega)]
  have e : (2 : Int) ^ 64 = 18446744073709551616 := by decide
  have e8 : (2 : Int) ^ 8 = 256 := by decide
  rw [bits_join .u64 64 (by decide) u64_pow 8 (a * 256) b (by omega) (by rw [e8]; omega) (by omega) hb0 (by omega) (by omega)]
  omega
def bytesAt (s : ByteArray) (p : Int) : Nat → List Int
  | 0 => []
  | n + 1 => bt s p :: bytesAt s (p + 1) n
theorem bytesAt_length (s : ByteArray) : ∀ (n : Nat) (p : Int), (bytesAt s p n).length = n
  | 0, _ => rfl
  | n + 1, p => by rw [bytesAt, List.length_cons, bytesAt_length s n]
theorem bytesAt_range (s : ByteArray) : ∀ (n : Nat) (p : Int), ∀ b ∈ bytesAt s p n, 0 ≤ b ∧ b < 256
  | 0, _ => fun b hb => by cases hb
  | n + 1, p => fun b hb => by
    rcases List.mem_cons.1 hb with rfl | hb
    · have := bt_range s p; omega
    · exact bytesAt_range s n _ b hb
abbrev Tup := Int × Int × Int × Int × Int
def oneS (s : ByteArray) (p : Int) : Tup :=
  if p < 0 ∨ (s.size : Int) ≤ p then (0, 0, 0, 0, 101)
  else if opw (bt s p) < 0 ∨ (s.size : Int) - p - 1 < opw (bt s p) then (0, 0, 0, 0, 8)
  else (bt s p, leN (bytesAt s (p + 1) (opw (bt s p)).toNat), p, 1 + opw (bt s p), 0)
theorem one_l0 (s : ByteArray) (hs : s.size ≤ 140737488351232) (p : Int) (h0 : 0 ≤ p) (n : Nat) (hn : n ≤ 8) (hp : p + n < s.size) (a b c : Int) : ∀ (d : Nat) (x8 : Nat), x8 + d = n →
    Ev (fun k => code_One.l0 k s p (x8 : Int) a (leN (bytesAt s (p + 1 + x8) d)) b c) (a, leN (bytesAt s (p + 1) n), b, c, 0) := by
  intro d x8
  induction x8 generalizing d with
  | zero =>
    intro hd
    obtain rfl : d = n := by omega
    refine Ev.from 1 fun k => ?_
    simp only [code_One.l0]
    rw [if_neg (by omega)]
    simp
  | succ m ih =>
    intro hd
    have hr := leN_range (bytesAt s (p + 1 + ((m + 1 : Nat) : Int)) d) (bytesAt_range s _ _)
    rw [bytesAt_length] at hr
    have hb := bt_range s (p + 1 + (m : Int))
    refine Ev.step (f := fun k => code_One.l0 k s p (m : Int) a (leN (bytesAt s (p + 1 + m) (d + 1))) b c) (fun k => ?_) (ih (d + 1) (by omega))
    simp only [code_One.l0]
    rw [if_pos (by omega), wrap_in (n := p + ((m + 1 : Nat) : Int)) (by omega) (by omega), if_pos (by omega), if_pos (by omega), wrap_in (n := ((m + 1 : Nat) : Int) - 1) (by omega) (by omega)]
    rw [show ((m + 1 : Nat) : Int) - 1 = (m : Int) from by omega, show p + ((m + 1 : Nat) : Int) = p + 1 + (m : Int) from by omega]
    rw [or_low _ _ hr.1 ?_ hb.1 (by omega)]
    · rw [bytesAt, leN]
      congr 4
      rw [show p + 1 + ((m + 1 : Nat) : Int) = p + 1 + (m : Int) + 1 from by omega]
    · have hd7 : d ≤ 7 := by omega
      have : (256 : Int) ^ d * 256 ≤ 18446744073709551616 := by
        have : d = 0 ∨ d = 1 ∨ d = 2 ∨ d = 3 ∨ d = 4 ∨ d = 5 ∨ d = 6 ∨ d = 7 := by omega
        rcases this with rfl | rfl | rfl | rfl | rfl | rfl | rfl | rfl <;> simp only [Int.reducePow] <;> omega
      omega
theorem One_ev (s : ByteArray) (hs : s.size ≤ 140737488351232) (p : Int) : Ev (fun k => code_One.f k s p) (oneS s p) := by
  unfold oneS
  have out : Ev (fun k => code_One.j0 k s p true) (0, 0, 0, 0, 101) := Ev.from 1 fun k => by simp [code_One.j0]
  by_cases hn : p < 0
  · rw [if_pos (.inl hn)]
    exact Ev.congr (fun k => by simp only [code_One.f]; rw [if_pos hn]) out
  by_cases hg : (s.size : Int) ≤ p
  · rw [if_pos (.inr hg)]
    exact Ev.congr (fun k => by simp only [code_One.f]; rw [if_neg hn, decide_eq_true hg]) out
  rw [if_neg (by omega)]
  have hb := bt_range s p
  refine Ev.congr (f := fun k => code_One.j0 k s p false) (fun k => by simp only [code_One.f]; rw [if_neg hn, decide_eq_false hg]) ?_
  refine Ev.step (f := fun k => (code_operand.f k (bt s p)).bind fun t116 => if t116 < 0 then (code_One.j1 k s p t116 true) else ((code_width.f t116).bind fun t117 => (code_One.j1 k s p t116 (decide ((wrap64 ((wrap64 ((s.size : Int) - p)) - 1)) < t117))))) (fun k => ?_) ?_
  · simp only [code_One.j0]
    rw [if_neg (by simp), if_pos (by omega), if_pos (by omega), wrap_in (n := bt s p) (by omega) (by omega)]
  refine Ev.bind (operand_ev _) ?_
  have bad : Ev (fun k => code_One.j1 k s p (opk (bt s p)) true) (0, 0, 0, 0, 8) := Ev.from 1 fun k => by simp [code_One.j1]
  by_cases hneg : opw (bt s p) < 0
  · refine Ev.pos ((opk_neg _).2 hneg) ?_
    rw [if_pos (.inl hneg)]
    exact bad
  · refine Ev.neg (fun h => hneg ((opk_neg _).1 h)) ?_
    refine Ev.fn (width_eq _ (by omega)) ?_
    rw [wrap_in (n := (s.size : Int) - p) (by omega) (by omega), wrap_in (n := (s.size : Int) - p - 1) (by omega) (by omega)]
    by_cases hlt : (s.size : Int) - p - 1 < opw (bt s p)
    · rw [if_pos (.inr hlt), decide_eq_true hlt]
      exact bad
    · rw [if_neg (by omega), decide_eq_false hlt]
      have hle := opw_le (bt s p)
      refine Ev.step (f := fun k => code_One.l0 k s p (opw (bt s p)) (bt s p) 0 p (1 + opw (bt s p))) (fun k => ?_) ?_
      · simp only [code_One.j1]
        rw [if_neg (by simp), if_pos (by omega), if_pos (by omega), width_eq _ (by omega)]
        simp only [Option.bind_some]
        rw [wrap_in (n := bt s p) (by omega) (by omega), wrap_in (n := 1 + opw (bt s p)) (by omega) (by omega)]
      · obtain ⟨n, hn'⟩ := Int.eq_ofNat_of_zero_le (show 0 ≤ opw (bt s p) by omega)
        rw [hn']
        simpa [bytesAt, leN] using one_l0 s hs p (by omega) n (by omega) (by omega) (bt s p) p (1 + (n : Int)) 0 n (by omega)
end Go.Proofs.Ytjbpljcfogekhaa.Core
namespace Go.Proofs.Ytjbpljcfogekhaa.Q
open Go.RowKit Go.Proofs.YtjbpljcfogekhaaW.PrintWords Go.Proofs.YtjbpljcfogekhaaW.PrintLast Go.Proofs.YtjbpljcfogekhaaW.PrintMore
attribute [local go_sem] max2_int min2_int max_two min_two max_three min_three max_four min_four
set_option linter.unusedVariables false
set_option linter.unusedSimpArgs false
mutual
def code_Args.j0 : Nat → Int → Int → Bool → Option (Int)
 | 0, _, _, _ => none
 | k + 1, x3, x4, x5 => if x5 = true then (some (wrap64 ((wrap64 ((wrap64 ((wrap64 (x3 + 1)) + 1)) + 1)) + 1))) else (if x4 = 5 then (code_Args.j1 k x3 x4 (x4 == 5)) else (if x4 = 7 then (code_Args.j1 k x3 x4 (x4 == 7)) else (code_Args.j1 k x3 x4 (x4 == 8))))
def code_Args.j1 : Nat → Int → Int → Bool → Option (Int)
 | 0, _, _, _ => none
 | k + 1, x3, x4, x8 => if x8 = true then (some (wrap64 ((wrap64 ((wrap64 (x3 + 1)) + 1)) + 1))) else (if x4 = 3 then (code_Args.j2 k x3 x4 (x4 == 3)) else (if x4 = 11 then (code_Args.j2 k x3 x4 (x4 == 11)) else (if x4 = 12 then (code_Args.j2 k x3 x4 (x4 == 12)) else (if x4 = 15 then (code_Args.j2 k x3 x4 (x4 == 15)) else (code_Args.j2 k x3 x4 (x4 == 16))))))
def code_Args.j2 : Nat → Int → Int → Bool → Option (Int)
 | 0, _, _, _ => none
 | k + 1, x3, x4, x12 => if x12 = true then (some (wrap64 ((wrap64 (x3 + 1)) + 1))) else (if x4 = 1 then (code_Args.j3 k x3 x4 (x4 == 1)) else (if x4 = 4 then (code_Args.j3 k x3 x4 (x4 == 4)) else (if x4 = 6 then (code_Args.j3 k x3 x4 (x4 == 6)) else (if x4 = 9 then (code_Args.j3 k x3 x4 (x4 == 9)) else (code_Args.j3 k x3 x4 (x4 == 10))))))
def code_Args.j3 : Nat → Int → Int → Bool → Option (Int)
 | 0, _, _, _ => none
 | k + 1, x3, x4, x18 => if x18 = true then (some (wrap64 (x3 + 1))) else (if x4 = 2 then (some x3) else (if x4 = 17 then (some x3) else (if x4 = 18 then (some x3) else (if x4 = 19 then (some x3) else (some (-1))))))
end
def code_Args.f (k : Nat) (a0 : Int) : Option (Int) := if a0 = 13 then (code_Args.j0 k 0 a0 (a0 == 13)) else (code_Args.j0 k 0 a0 (a0 == 14))
theorem code_Args.mono_l : ∀ k, (∀ y0 y1 y2, LeO (code_Args.j0 k y0 y1 y2) (code_Args.j0 (k + 1) y0 y1 y2)) ∧ (∀ y0 y1 y2, LeO (code_Args.j1 k y0 y1 y2) (code_Args.j1 (k + 1) y0 y1 y2)) ∧ (∀ y0 y1 y2, LeO (code_Args.j2 k y0 y1 y2) (code_Args.j2 (k + 1) y0 y1 y2)) ∧ (∀ y0 y1 y2, LeO (code_Args.j3 k y0 y1 y2) (code_Args.j3 (k + 1) y0 y1 y2))
 | 0 => ⟨fun _ _ _ r h => by simp [code_Args.j0] at h, fun _ _ _ r h => by simp [code_Args.j1] at h, fun _ _ _ r h => by simp [code_Args.j2] at h, fun _ _ _ r h => by simp [code_Args.j3] at h⟩
 | k + 1 => by
  obtain ⟨ih0, ih1, ih2, ih3⟩ := code_Args.mono_l k
  refine ⟨?_, ?_, ?_, ?_⟩
  ·intro y0 y1 y2
   unfold code_Args.j0
   repeat' first
   | (with_reducible exact ih0 _ _ _)
   | (with_reducible exact ih1 _ _ _)
   | (with_reducible exact ih2 _ _ _)
   | (with_reducible exact ih3 _ _ _)
   | (with_reducible exact LeO.refl _)
   | (with_reducible exact LeO.none _)
   | (with_reducible refine LeO.ite ?_ ?_)
   | (with_reducible refine LeO.bind ?_ (fun _ => ?_))
   | exact ih0 _ _ _
   | exact ih1 _ _ _
   | exact ih2 _ _ _
   | exact ih3 _ _ _
   | exact LeO.none _
   | refine LeO.ite ?_ ?_
   | refine LeO.bind ?_ (fun _ => ?_)
  ·intro y0 y1 y2
   unfold code_Args.j1
   repeat' first
   | (with_reducible exact ih0 _ _ _)
   | (with_reducible exact ih1 _ _ _)
   | (with_reducible exact ih2 _ _ _)
   | (with_reducible exact ih3 _ _ _)
   | (with_reducible exact LeO.refl _)
   | (with_reducible exact LeO.none _)
   | (with_reducible refine LeO.ite ?_ ?_)
   | (with_reducible refine LeO.bind ?_ (fun _ => ?_))
   | exact ih0 _ _ _
   | exact ih1 _ _ _
   | exact ih2 _ _ _
   | exact ih3 _ _ _
   | exact LeO.none _
   | refine LeO.ite ?_ ?_
   | refine LeO.bind ?_ (fun _ => ?_)
  ·intro y0 y1 y2
   unfold code_Args.j2
   repeat' first
   | (with_reducible exact ih0 _ _ _)
   | (with_reducible exact ih1 _ _ _)
   | (with_reducible exact ih2 _ _ _)
   | (with_reducible exact ih3 _ _ _)
   | (with_reducible exact LeO.refl _)
   | (with_reducible exact LeO.none _)
   | (with_reducible refine LeO.ite ?_ ?_)
   | (with_reducible refine LeO.bind ?_ (fun _ => ?_))
   | exact ih0 _ _ _
   | exact ih1 _ _ _
   | exact ih2 _ _ _
   | exact ih3 _ _ _
   | exact LeO.none _
   | refine LeO.ite ?_ ?_
   | refine LeO.bind ?_ (fun _ => ?_)
  ·intro y0 y1 y2
   unfold code_Args.j3
   repeat' first
   | (with_reducible exact ih0 _ _ _)
   | (with_reducible exact ih1 _ _ _)
   | (with_reducible exact ih2 _ _ _)
   | (with_reducible exact ih3 _ _ _)
   | (with_reducible exact LeO.refl _)
   | (with_reducible exact LeO.none _)
   | (with_reducible refine LeO.ite ?_ ?_)
   | (with_reducible refine LeO.bind ?_ (fun _ => ?_))
   | exact ih0 _ _ _
   | exact ih1 _ _ _
   | exact ih2 _ _ _
   | exact ih3 _ _ _
   | exact LeO.none _
   | refine LeO.ite ?_ ?_
   | refine LeO.bind ?_ (fun _ => ?_)
theorem code_Args.mono : ∀ a0 k, LeO (code_Args.f k a0) (code_Args.f (k + 1) a0) := by
 intro a0 k
 obtain ⟨ih0, ih1, ih2, ih3⟩ := code_Args.mono_l k
 unfold code_Args.f
 repeat' first
   | (with_reducible exact ih0 _ _ _)
   | (with_reducible exact ih1 _ _ _)
   | (with_reducible exact ih2 _ _ _)
   | (with_reducible exact ih3 _ _ _)
   | (with_reducible exact LeO.refl _)
   | (with_reducible exact LeO.none _)
   | (with_reducible refine LeO.ite ?_ ?_)
   | (with_reducible refine LeO.bind ?_ (fun _ => ?_))
   | exact ih0 _ _ _
   | exact ih1 _ _ _
   | exact ih2 _ _ _
   | exact ih3 _ _ _
   | exact LeO.none _
   | refine LeO.ite ?_ ?_
   | refine LeO.bind ?_ (fun _ => ?_)
set_option maxHeartbeats 8000000 in
set_option maxRecDepth 100000 in
theorem code_Args.calls (k : Nat) (a0 : Int) (r : Int) (w : World) (h : code_Args.f k a0 = some r) :
  Calls Try.prog 25 #[.int .i64 a0] w fun e w' => e = .returned (.int .i64 r) ∧ Drawn0 w w' := by
 have H : (if a0 = 13 then (code_Args.j0 k 0 a0 (a0 == 13)) else (code_Args.j0 k 0 a0 (a0 == 14))) = some r := h
 clear h
 have HC2 := Aside0.mk H
 clear H
 go_enter Try.func25, Try.ntmps25
 go_upto_if 5 with (fail)
 go_cut [5] (fun v5 wc => ∃ (kq : Nat) (x5_1 : Bool), v5 = .bool x5_1 ∧ Aside0 (code_Args.j0 kq 0 a0 x5_1 = some r) ∧ Aside0 (kq ≤ k) ∧ Drawn0 w wc)
 case first =>
  have H := HC2.out
  clear HC2
  by_cases c3 : a0 = 13
  ·rw [if_pos c3] at H
   have c3b0 : (a0 == 13) = true := beq_iff_eq.mpr c3
   have c3b1 : (a0 != 13) = false := bne_eq_false_iff_eq.mpr c3
   clear c3
   (first | rw [c3b0] | (simp only [i64_w, i32_w]; rw [c3b0]) | skip)
   have H' := Aside0.mk H
   clear H
   go_wp2
   go_meet
   case rel => exact ⟨_, ((a0 == 13)), (by first | rfl | (simp; done) | (simp [*]; done)), H', ⟨by first | omega | exact Nat.le_refl _⟩, by repeat (first | exact Drawn0.refl _ | apply Drawn0.step)⟩
  ·rw [if_neg c3] at H
   have c3b0 : (a0 == 13) = false := beq_eq_false_iff_ne.mpr c3
   have c3b1 : (a0 != 13) = true := bne_iff_ne.mpr c3
   (first | rw [c3b0] | (simp only [i64_w, i32_w]; rw [c3b0]) | skip)
   have H' := Aside0.mk H
   clear H
   go_wp2
   go_meet
   case rel => exact ⟨_, ((a0 == 14)), (by first | rfl | (simp; done) | (simp [*]; done)), H', ⟨by first | omega | exact Nat.le_refl _⟩, by repeat (first | exact Drawn0.refl _ | apply Drawn0.step)⟩
 case rest =>
  clear HC2
  try clear c2
  try clear p2
  try clear c3
  try clear c3b0
  try clear c3b1
  obtain ⟨kq, x5_1, rfl, HA, HJ1, ⟨mc1, rfl⟩⟩ := hcut
  cases kq with
  | zero => exact absurd HA.out (by simp [code_Args.j0])
  | succ kj1 =>
   have H := HA.out
   clear HA
   simp only [code_Args.j0] at H
   by_cases c4 : x5_1 = true
   ·subst c4
    have H1 : (some (wrap64 ((wrap64 ((wrap64 ((wrap64 (0 + 1)) + 1)) + 1)) + 1))) = some r := by rw [if_pos rfl] at H; exact H
    clear H
    have H := H1
    clear H1
    obtain rfl := Option.some.inj H
    go_wp2
    go_ret
    exact ⟨by first | rfl | (simp; done) | (simp [*]; done) | (simp; unfold wrap64; omega), by repeat (first | exact Drawn0.refl _ | apply Drawn0.step)⟩
   ·replace c4 := Bool.eq_false_iff.mpr c4
    subst c4
    have H1 : (if a0 = 5 then (code_Args.j1 kj1 0 a0 (a0 == 5)) else (if a0 = 7 then (code_Args.j1 kj1 0 a0 (a0 == 7)) else (code_Args.j1 kj1 0 a0 (a0 == 8)))) = some r := by rw [if_neg (show ¬ (false = true) by decide)] at H; exact H
    clear H
    have H := H1
    clear H1
    have HC5 := Aside0.mk H
    clear H
    go_upto_if 8 with (fail)
    go_cut [8] (fun v8 wc => ∃ (kq : Nat) (x8_4 : Bool), v8 = .bool x8_4 ∧ Aside0 (code_Args.j1 kq 0 a0 x8_4 = some r) ∧ Aside0 (kq ≤ kj1) ∧ Drawn0 w wc)
    case first =>
     have H := HC5.out
     clear HC5
     by_cases c6 : a0 = 5
     ·rw [if_pos c6] at H
      have c6b0 : (a0 == 5) = true := beq_iff_eq.mpr c6
      have c6b1 : (a0 != 5) = false := bne_eq_false_iff_eq.mpr c6
      clear c6
      (first | rw [c6b0] | (simp only [i64_w, i32_w]; rw [c6b0]) | skip)
      have H' := Aside0.mk H
      clear H
      go_wp2
      go_meet
      case rel => exact ⟨_, ((a0 == 5)), (by first | rfl | (simp; done) | (simp [*]; done)), H', ⟨by have := HJ1.out; first | omega | exact Nat.le_refl _⟩, by repeat (first | exact Drawn0.refl _ | apply Drawn0.step)⟩
     ·rw [if_neg c6] at H
      have c6b0 : (a0 == 5) = false := beq_eq_false_iff_ne.mpr c6
      have c6b1 : (a0 != 5) = true := bne_iff_ne.mpr c6
      (first | rw [c6b0] | (simp only [i64_w, i32_w]; rw [c6b0]) | skip)
      by_cases c7 : a0 = 7
      ·rw [if_pos c7] at H
       have c7b0 : (a0 == 7) = true := beq_iff_eq.mpr c7
       have c7b1 : (a0 != 7) = false := bne_eq_false_iff_eq.mpr c7
       clear c7
       have H' := Aside0.mk H
       clear H
       go_wp2
       go_meet
       case rel => exact ⟨_, ((a0 == 7)), (by first | rfl | (simp; done) | (simp [*]; done)), H', ⟨by have := HJ1.out; first | omega | exact Nat.le_refl _⟩, by repeat (first | exact Drawn0.refl _ | apply Drawn0.step)⟩
      ·rw [if_neg c7] at H
       have c7b0 : (a0 == 7) = false := beq_eq_false_iff_ne.mpr c7
       have c7b1 : (a0 != 7) = true := bne_iff_ne.mpr c7
       have H' := Aside0.mk H
       clear H
       go_wp2
       go_meet
       case rel => exact ⟨_, ((a0 == 8)), (by first | rfl | (simp; done) | (simp [*]; done)), H', ⟨by have := HJ1.out; first | omega | exact Nat.le_refl _⟩, by repeat (first | exact Drawn0.refl _ | apply Drawn0.step)⟩
    case rest =>
     clear HC5
     try clear c1
     try clear c2
     try clear p2
     try clear c3
     try clear c3b0
     try clear c3b1
     try clear c4
     try clear c6
     try clear c6b0
     try clear c6b1
     try clear p6
     try clear c7
     try clear c7b0
     try clear c7b1
     try clear p2
     obtain ⟨kq, x8_4, rfl, HA, HJ4, ⟨mc4, rfl⟩⟩ := hcut
     cases kq with
     | zero => exact absurd HA.out (by simp [code_Args.j1])
     | succ kj4 =>
      have H := HA.out
      clear HA
      simp only [code_Args.j1] at H
      by_cases c8 : x8_4 = true
      ·subst c8
       have H1 : (some (wrap64 ((wrap64 ((wrap64 (0 + 1)) + 1)) + 1))) = some r := by rw [if_pos rfl] at H; exact H
       clear H
       have H := H1
       clear H1
       obtain rfl := Option.some.inj H
       go_wp2
       go_ret
       exact ⟨by first | rfl | (simp; done) | (simp [*]; done) | (simp; unfold wrap64; omega), by repeat (first | exact Drawn0.refl _ | apply Drawn0.step)⟩
      ·replace c8 := Bool.eq_false_iff.mpr c8
       subst c8
       have H1 : (if a0 = 3 then (code_Args.j2 kj4 0 a0 (a0 == 3)) else (if a0 = 11 then (code_Args.j2 kj4 0 a0 (a0 == 11)) else (if a0 = 12 then (code_Args.j2 kj4 0 a0 (a0 == 12)) else (if a0 = 15 then (code_Args.j2 kj4 0 a0 (a0 == 15)) else (code_Args.j2 kj4 0 a0 (a0 == 16)))))) = some r := by rw [if_neg (show ¬ (false = true) by decide)] at H; exact H
       clear H
       have H := H1
       clear H1
       have HC9 := Aside0.mk H
       clear H
       go_upto_if 12 with (fail)
       go_cut [12] (fun v12 wc => ∃ (kq : Nat) (x12_8 : Bool), v12 = .bool x12_8 ∧ Aside0 (code_Args.j2 kq 0 a0 x12_8 = some r) ∧ Aside0 (kq ≤ kj4) ∧ Drawn0 w wc)
       case first =>
        have H := HC9.out
        clear HC9
        by_cases c10 : a0 = 3
        ·rw [if_pos c10] at H
         have c10b0 : (a0 == 3) = true := beq_iff_eq.mpr c10
         have c10b1 : (a0 != 3) = false := bne_eq_false_iff_eq.mpr c10
         clear c10
         (first | rw [c10b0] | (simp only [i64_w, i32_w]; rw [c10b0]) | skip)
         have H' := Aside0.mk H
         clear H
         go_wp2
         go_meet
         case rel => exact ⟨_, ((a0 == 3)), (by first | rfl | (simp; done) | (simp [*]; done)), H', ⟨by have := HJ1.out; have := HJ4.out; first | omega | exact Nat.le_refl _⟩, by repeat (first | exact Drawn0.refl _ | apply Drawn0.step)⟩
        ·rw [if_neg c10] at H
         have c10b0 : (a0 == 3) = false := beq_eq_false_iff_ne.mpr c10
         have c10b1 : (a0 != 3) = true := bne_iff_ne.mpr c10
         (first | rw [c10b0] | (simp only [i64_w, i32_w]; rw [c10b0]) | skip)
         by_cases c11 : a0 = 11
         ·rw [if_pos c11] at H
          have c11b0 : (a0 == 11) = true := beq_iff_eq.mpr c11
          have c11b1 : (a0 != 11) = false := bne_eq_false_iff_eq.mpr c11
          clear c11
          have H' := Aside0.mk H
          clear H
          go_wp2
          go_meet
          case rel => exact ⟨_, ((a0 == 11)), (by first | rfl | (simp; done) | (simp [*]; done)), H', ⟨by have := HJ1.out; have := HJ4.out; first | omega | exact Nat.le_refl _⟩, by repeat (first | exact Drawn0.refl _ | apply Drawn0.step)⟩
         ·rw [if_neg c11] at H
          have c11b0 : (a0 == 11) = false := beq_eq_false_iff_ne.mpr c11
          have c11b1 : (a0 != 11) = true := bne_iff_ne.mpr c11
          by_cases c12 : a0 = 12
          ·rw [if_pos c12] at H
           have c12b0 : (a0 == 12) = true := beq_iff_eq.mpr c12
           have c12b1 : (a0 != 12) = false := bne_eq_false_iff_eq.mpr c12
           clear c12
           have H' := Aside0.mk H
           clear H
           go_wp2
           go_meet
           case rel => exact ⟨_, ((a0 == 12)), (by first | rfl | (simp; done) | (simp [*]; done)), H', ⟨by have := HJ1.out; have := HJ4.out; first | omega | exact Nat.le_refl _⟩, by repeat (first | exact Drawn0.refl _ | apply Drawn0.step)⟩
          ·rw [if_neg c12] at H
           have c12b0 : (a0 == 12) = false := beq_eq_false_iff_ne.mpr c12
           have c12b1 : (a0 != 12) = true := bne_iff_ne.mpr c12
           by_cases c13 : a0 = 15
           ·rw [if_pos c13] at H
            have c13b0 : (a0 == 15) = true := beq_iff_eq.mpr c13
            have c13b1 : (a0 != 15) = false := bne_eq_false_iff_eq.mpr c13
            clear c13
            have H' := Aside0.mk H
            clear H
            go_wp2
            go_meet
            case rel => exact ⟨_, ((a0 == 15)), (by first | rfl | (simp; done) | (simp [*]; done)), H', ⟨by have := HJ1.out; have := HJ4.out; first | omega | exact Nat.le_refl _⟩, by repeat (first | exact Drawn0.refl _ | apply Drawn0.step)⟩
           ·rw [if_neg c13] at H
            have c13b0 : (a0 == 15) = false := beq_eq_false_iff_ne.mpr c13
            have c13b1 : (a0 != 15) = true := bne_iff_ne.mpr c13
            have H' := Aside0.mk H
            clear H
            go_wp2
            go_meet
            case rel => exact ⟨_, ((a0 == 16)), (by first | rfl | (simp; done) | (simp [*]; done)), H', ⟨by have := HJ1.out; have := HJ4.out; first | omega | exact Nat.le_refl _⟩, by repeat (first | exact Drawn0.refl _ | apply Drawn0.step)⟩
       case rest =>
        clear HC9
        try clear c1
        try clear c2
        try clear p2
        try clear c3
        try clear c3b0
        try clear c3b1
        try clear c4
        try clear c6
        try clear c6b0
        try clear c6b1
        try clear p6
        try clear c7
        try clear c7b0
        try clear c7b1
        try clear c8
        try clear c10
        try clear c10b0
        try clear c10b1
        try clear c11
        try clear c11b0
        try clear c11b1
        try clear c12
        try clear c12b0
        try clear c12b1
        try clear c13
        try clear c13b0
        try clear c13b1
        try clear p2
        try clear p6
        obtain ⟨kq, x12_8, rfl, HA, HJ8, ⟨mc8, rfl⟩⟩ := hcut
        cases kq with
        | zero => exact absurd HA.out (by simp [code_Args.j2])
        | succ kj8 =>
         have H := HA.out
         clear HA
         simp only [code_Args.j2] at H
         by_cases c14 : x12_8 = true
         ·subst c14
          have H1 : (some (wrap64 ((wrap64 (0 + 1)) + 1))) = some r := by rw [if_pos rfl] at H; exact H
          clear H
          have H := H1
          clear H1
          obtain rfl := Option.some.inj H
          go_wp2
          go_ret
          exact ⟨by first | rfl | (simp; done) | (simp [*]; done) | (simp; unfold wrap64; omega), by repeat (first | exact Drawn0.refl _ | apply Drawn0.step)⟩
         ·replace c14 := Bool.eq_false_iff.mpr c14
          subst c14
          have H1 : (if a0 = 1 then (code_Args.j3 kj8 0 a0 (a0 == 1)) else (if a0 = 4 then (code_Args.j3 kj8 0 a0 (a0 == 4)) else (if a0 = 6 then (code_Args.j3 kj8 0 a0 (a0 == 6)) else (if a0 = 9 then (code_Args.j3 kj8 0 a0 (a0 == 9)) else (code_Args.j3 kj8 0 a0 (a0 == 10)))))) = some r := by rw [if_neg (show ¬ (false = true) by decide)] at H; exact H
          clear H
          have H := H1
          clear H1
          have HC15 := Aside0.mk H
          clear H
          go_upto_if 18 with (fail)
          go_cut [18] (fun v18 wc => ∃ (kq : Nat) (x18_14 : Bool), v18 = .bool x18_14 ∧ Aside0 (code_Args.j3 kq 0 a0 x18_14 = some r) ∧ Aside0 (kq ≤ kj8) ∧ Drawn0 w wc)
          case first =>
           have H := HC15.out
           clear HC15
           by_cases c16 : a0 = 1
           ·rw [if_pos c16] at H
            have c16b0 : (a0 == 1) = true := beq_iff_eq.mpr c16
            have c16b1 : (a0 != 1) = false := bne_eq_false_iff_eq.mpr c16
            clear c16
            (first | rw [c16b0] | (simp only [i64_w, i32_w]; rw [c16b0]) | skip)
            have H' := Aside0.mk H
            clear H
            go_wp2
            go_meet
            case rel => exact ⟨_, ((a0 == 1)), (by first | rfl | (simp; done) | (simp [*]; done)), H', ⟨by have := HJ1.out; have := HJ4.out; have := HJ8.out; first | omega | exact Nat.le_refl _⟩, by repeat (first | exact Drawn0.refl _ | apply Drawn0.step)⟩
           ·rw [if_neg c16] at H
            have c16b0 : (a0 == 1) = false := beq_eq_false_iff_ne.mpr c16
            have c16b1 : (a0 != 1) = true := bne_iff_ne.mpr c16
            (first | rw [c16b0] | (simp only [i64_w, i32_w]; rw [c16b0]) | skip)
            by_cases c17 : a0 = 4
            ·rw [if_pos c17] at H
             have c17b0 : (a0 == 4) = true := beq_iff_eq.mpr c17
             have c17b1 : (a0 != 4) = false := bne_eq_false_iff_eq.mpr c17
             clear c17
             have H' := Aside0.mk H
             clear H
             go_wp2
             go_meet
             case rel => exact ⟨_, ((a0 == 4)), (by first | rfl | (simp; done) | (simp [*]; done)), H', ⟨by have := HJ1.out; have := HJ4.out; have := HJ8.out; first | omega | exact Nat.le_refl _⟩, by repeat (first | exact Drawn0.refl _ | apply Drawn0.step)⟩
            ·rw [if_neg c17] at H
             have c17b0 : (a0 == 4) = false := beq_eq_false_iff_ne.mpr c17
             have c17b1 : (a0 != 4) = true := bne_iff_ne.mpr c17
             by_cases c18 : a0 = 6
             ·rw [if_pos c18] at H
              have c18b0 : (a0 == 6) = true := beq_iff_eq.mpr c18
              have c18b1 : (a0 != 6) = false := bne_eq_false_iff_eq.mpr c18
              clear c18
              have H' := Aside0.mk H
              clear H
              go_wp2
              go_meet
              case rel => exact ⟨_, ((a0 == 6)), (by first | rfl | (simp; done) | (simp [*]; done)), H', ⟨by have := HJ1.out; have := HJ4.out; have := HJ8.out; first | omega | exact Nat.le_refl _⟩, by repeat (first | exact Drawn0.refl _ | apply Drawn0.step)⟩
             ·rw [if_neg c18] at H
              have c18b0 : (a0 == 6) = false := beq_eq_false_iff_ne.mpr c18
              have c18b1 : (a0 != 6) = true := bne_iff_ne.mpr c18
              by_cases c19 : a0 = 9
              ·rw [if_pos c19] at H
               have c19b0 : (a0 == 9) = true := beq_iff_eq.mpr c19
               have c19b1 : (a0 != 9) = false := bne_eq_false_iff_eq.mpr c19
               clear c19
               have H' := Aside0.mk H
               clear H
               go_wp2
               go_meet
               case rel => exact ⟨_, ((a0 == 9)), (by first | rfl | (simp; done) | (simp [*]; done)), H', ⟨by have := HJ1.out; have := HJ4.out; have := HJ8.out; first | omega | exact Nat.le_refl _⟩, by repeat (first | exact Drawn0.refl _ | apply Drawn0.step)⟩
              ·rw [if_neg c19] at H
               have c19b0 : (a0 == 9) = false := beq_eq_false_iff_ne.mpr c19
               have c19b1 : (a0 != 9) = true := bne_iff_ne.mpr c19
               have H' := Aside0.mk H
               clear H
               go_wp2
               go_meet
               case rel => exact ⟨_, ((a0 == 10)), (by first | rfl | (simp; done) | (simp [*]; done)), H', ⟨by have := HJ1.out; have := HJ4.out; have := HJ8.out; first | omega | exact Nat.le_refl _⟩, by repeat (first | exact Drawn0.refl _ | apply Drawn0.step)⟩
          case rest =>
           clear HC15
           try clear c1
           try clear c2
           try clear p2
           try clear c3
           try clear c3b0
           try clear c3b1
           try clear c4
           try clear c6
           try clear c6b0
           try clear c6b1
           try clear p6
           try clear c7
           try clear c7b0
           try clear c7b1
           try clear c8
           try clear c10
           try clear c10b0
           try clear c10b1
           try clear c11
           try clear c11b0
           try clear c11b1
           try clear c12
           try clear c12b0
           try clear c12b1
           try clear c13
           try clear c13b0
           try clear c13b1
           try clear c14
           try clear c16
           try clear c16b0
           try clear c16b1
           try clear c17
           try clear c17b0
           try clear c17b1
           try clear c18
           try clear c18b0
           try clear c18b1
           try clear c19
           try clear c19b0
           try clear c19b1
           try clear p2
           try clear p6
           obtain ⟨kq, x18_14, rfl, HA, HJ14, ⟨mc14, rfl⟩⟩ := hcut
           cases kq with
           | zero => exact absurd HA.out (by simp [code_Args.j3])
           | succ kj14 =>
            have H := HA.out
            clear HA
            simp only [code_Args.j3] at H
            by_cases c20 : x18_14 = true
            ·subst c20
             have H1 : (some (wrap64 (0 + 1))) = some r := by rw [if_pos rfl] at H; exact H
             clear H
             have H := H1
             clear H1
             obtain rfl := Option.some.inj H
             go_wp2
             go_ret
             exact ⟨by first | rfl | (simp; done) | (simp [*]; done) | (simp; unfold wrap64; omega), by repeat (first | exact Drawn0.refl _ | apply Drawn0.step)⟩
            ·replace c20 := Bool.eq_false_iff.mpr c20
             subst c20
             have H1 : (if a0 = 2 then (some 0) else (if a0 = 17 then (some 0) else (if a0 = 18 then (some 0) else (if a0 = 19 then (some 0) else (some (-1)))))) = some r := by rw [if_neg (show ¬ (false = true) by decide)] at H; exact H
             clear H
             have H := H1
             clear H1
             by_cases c21 : a0 = 2
             ·rw [if_pos c21] at H
              have c21b0 : (a0 == 2) = true := beq_iff_eq.mpr c21
              have c21b1 : (a0 != 2) = false := bne_eq_false_iff_eq.mpr c21
              clear c21
              obtain rfl := Option.some.inj H
              go_wp2
              go_ret
              exact ⟨by first | rfl | (simp; done) | (simp [*]; done) | (simp; unfold wrap64; omega), by repeat (first | exact Drawn0.refl _ | apply Drawn0.step)⟩
             ·rw [if_neg c21] at H
              have c21b0 : (a0 == 2) = false := beq_eq_false_iff_ne.mpr c21
              have c21b1 : (a0 != 2) = true := bne_iff_ne.mpr c21
              by_cases c22 : a0 = 17
              ·rw [if_pos c22] at H
               have c22b0 : (a0 == 17) = true := beq_iff_eq.mpr c22
               have c22b1 : (a0 != 17) = false := bne_eq_false_iff_eq.mpr c22
               clear c22
               obtain rfl := Option.some.inj H
               go_wp2
               go_ret
               exact ⟨by first | rfl | (simp; done) | (simp [*]; done) | (simp; unfold wrap64; omega), by repeat (first | exact Drawn0.refl _ | apply Drawn0.step)⟩
              ·rw [if_neg c22] at H
               have c22b0 : (a0 == 17) = false := beq_eq_false_iff_ne.mpr c22
               have c22b1 : (a0 != 17) = true := bne_iff_ne.mpr c22
               by_cases c23 : a0 = 18
               ·rw [if_pos c23] at H
                have c23b0 : (a0 == 18) = true := beq_iff_eq.mpr c23
                have c23b1 : (a0 != 18) = false := bne_eq_false_iff_eq.mpr c23
                clear c23
                obtain rfl := Option.some.inj H
                go_wp2
                go_ret
                exact ⟨by first | rfl | (simp; done) | (simp [*]; done) | (simp; unfold wrap64; omega), by repeat (first | exact Drawn0.refl _ | apply Drawn0.step)⟩
               ·rw [if_neg c23] at H
                have c23b0 : (a0 == 18) = false := beq_eq_false_iff_ne.mpr c23
                have c23b1 : (a0 != 18) = true := bne_iff_ne.mpr c23
                by_cases c24 : a0 = 19
                ·rw [if_pos c24] at H
                 have c24b0 : (a0 == 19) = true := beq_iff_eq.mpr c24
                 have c24b1 : (a0 != 19) = false := bne_eq_false_iff_eq.mpr c24
                 clear c24
                 obtain rfl := Option.some.inj H
                 go_wp2
                 go_ret
                 exact ⟨by first | rfl | (simp; done) | (simp [*]; done) | (simp; unfold wrap64; omega), by repeat (first | exact Drawn0.refl _ | apply Drawn0.step)⟩
                ·rw [if_neg c24] at H
                 have c24b0 : (a0 == 19) = false := beq_eq_false_iff_ne.mpr c24
                 have c24b1 : (a0 != 19) = true := bne_iff_ne.mpr c24
                 obtain rfl := Option.some.inj H
                 go_wp2
                 go_ret
                 exact ⟨by first | rfl | (simp; done) | (simp [*]; done) | (simp; unfold wrap64; omega), by repeat (first | exact Drawn0.refl _ | apply Drawn0.step)⟩
end Go.Proofs.Ytjbpljcfogekhaa.Q
namespace Go.Proofs.Ytjbpljcfogekhaa.Q
open Go.RowKit Go.Proofs.YtjbpljcfogekhaaW.PrintWords Go.Proofs.YtjbpljcfogekhaaW.PrintLast Go.Proofs.YtjbpljcfogekhaaW.PrintMore
attribute [local go_sem] max2_int min2_int max_two min_two max_three min_three max_four min_four
set_option linter.unusedVariables false
set_option linter.unusedSimpArgs false
mutual
def code_Moves.j0 : Nat → Int → Bool → Int → Int → Int → Int → Option (Int × Int)
 | 0, _, _, _, _, _, _ => none
 | k + 1, x5, x6, x131000, x131001, x131002, x131003 => if x6 = true then (some (0, 1)) else (if x5 = 2 then (some (1, 2)) else (if x5 = 3 then (code_Moves.j1 k x5 (x5 == 3) x131000 x131001 x131002 x131003) else (code_Moves.j1 k x5 (x5 == 22) x131000 x131001 x131002 x131003)))
def code_Moves.j1 : Nat → Int → Bool → Int → Int → Int → Int → Option (Int × Int)
 | 0, _, _, _, _, _, _ => none
 | k + 1, x5, x11, x131000, x131001, x131002, x131003 => if x11 = true then (some (1, 0)) else (if x5 = 4 then (some (2, 2)) else (if x5 = 5 then (some (2, 3)) else (if x5 = 18 then (code_Moves.j2 k x5 (x5 == 18) x131000 x131001 x131002 x131003) else (code_Moves.j2 k x5 (x5 == 19) x131000 x131001 x131002 x131003))))
def code_Moves.j2 : Nat → Int → Bool → Int → Int → Int → Int → Option (Int × Int)
 | 0, _, _, _, _, _, _ => none
 | k + 1, x5, x18, x131000, x131001, x131002, x131003 => if x18 = true then (some (1, 1)) else (if x5 = 20 then (some (2, 0)) else (if x5 = 21 then (some (0, 0)) else (if x5 = 23 then (if x131001 < 256 then ((code_Args.f k (wrap64 (x131001))).bind fun t131 => (code_Moves.j3 k (decide (t131 ≥ 0)) x131000 x131001 x131002 x131003)) else (code_Moves.j3 k false x131000 x131001 x131002 x131003)) else (if x131000 ≥ 6 then (if x131000 ≤ 17 then (some (2, 1)) else (some ((-1), (-1)))) else (some ((-1), (-1)))))))
def code_Moves.j3 : Nat → Bool → Int → Int → Int → Int → Option (Int × Int)
 | 0, _, _, _, _, _ => none
 | k + 1, x36, x131000, x131001, x131002, x131003 => if x36 = true then ((code_Args.f k (wrap64 (x131001))).bind fun t132 => (some (t132, 1))) else (some ((-1), (-1)))
end
def code_Moves.f (k : Nat) (a0_0 : Int) (a0_1 : Int) (a0_2 : Int) (a0_3 : Int) : Option (Int × Int) := if a0_0 = 0 then (code_Moves.j0 k a0_0 (a0_0 == 0) a0_0 a0_1 a0_2 a0_3) else (code_Moves.j0 k a0_0 (a0_0 == 1) a0_0 a0_1 a0_2 a0_3)
set_option maxHeartbeats 8000000 in
set_option maxRecDepth 100000 in
theorem code_Moves.calls (k : Nat) (a0_0 : Int) (a0_1 : Int) (a0_2 : Int) (a0_3 : Int) (r1 : Int) (r2 : Int) (w : World) (h : code_Moves.f k a0_0 a0_1 a0_2 a0_3 = some (r1, r2)) :
  Calls Try.prog 23 #[.agg #[.int .i64 a0_0, .int .u64 a0_1, .int .i64 a0_2, .int .i64 a0_3]] w fun e w' => e = .returned (.tuple #[.int .i64 r1, .int .i64 r2]) ∧ Below w.heap.size w w' := by
 have hu36 := Try.underlying36
 have HB := Aside0.mk (Below.refl w.heap.size w)
 have H : (if a0_0 = 0 then (code_Moves.j0 k a0_0 (a0_0 == 0) a0_0 a0_1 a0_2 a0_3) else (code_Moves.j0 k a0_0 (a0_0 == 1) a0_0 a0_1 a0_2 a0_3)) = some (r1, r2) := h
 clear h
 have HC2 := Aside0.mk H
 clear H
 go_enter Try.func23, Try.ntmps23
 go_upto_if 6 with (first | ((with_reducible refine gate_dst (N := 1) rfl ?_); refine box_event ?hg (N := 1) ?hd (cs := #[.int .i64 a0_0, .int .u64 a0_1, .int .i64 a0_2, .int .i64 a0_3]) (t := 36) ?hr ?_; (case hd => rfl); (case hg => rfl); (case hr => first | (go_simp; done) | (go_simp; rfl)); intro gb130 hg w3 hbox hb; have n0_ := Aside0.mk (below_step (by repeat (first | (with_reducible first | exact HB.out | apply below_alloc | apply pw_below_drewN | apply below_drew1) | exact HB.out)) hb); have n1_ := Aside0.mk (hbox); have n2_ := Aside0.mk ((by rw [hg]; exact (below_size (by repeat (first | (with_reducible first | exact HB.out | apply below_alloc | apply pw_below_drewN | apply below_drew1) | exact HB.out))) : w.heap.size ≤ gb130)); have n3_ := Aside0.mk ((by rw [hg]; exact (below_size (by repeat (first | (with_reducible first | exact HB.out | apply below_alloc | apply pw_below_drewN | apply below_drew1) | exact HB.out))) : w.heap.size ≤ gb130)); clear HB; have HB := n0_; have BK130 := n1_; have GW130 := n2_; have GE130 := n3_; clear n0_ n1_ n2_ n3_; clear hb hbox hg; have hcz4_0 : w3.cell? ⟨gb130, 0, none⟩ = some (.int .i64 a0_0) := (blk_cell BK130.out 0).trans rfl; have hcz4_1 : w3.cell? ⟨gb130, 1, none⟩ = some (.int .u64 a0_1) := (blk_cell BK130.out 1).trans rfl; have hcz4_2 : w3.cell? ⟨gb130, 2, none⟩ = some (.int .i64 a0_2) := (blk_cell BK130.out 2).trans rfl; have hcz4_3 : w3.cell? ⟨gb130, 3, none⟩ = some (.int .i64 a0_3) := (blk_cell BK130.out 3).trans rfl; have hfz4_0 := blk_frozen BK130.out 0; have hfz4_1 := blk_frozen BK130.out 1; have hfz4_2 := blk_frozen BK130.out 2; have hfz4_3 := blk_frozen BK130.out 3))
 (try simp only [Act.put, List.setIfInBounds_toArray, List.set_cons_zero, List.set_cons_succ])
 go_cut [6] (fun v6 wc => ∃ (kq : Nat) (x6_1 : Bool), v6 = .bool x6_1 ∧ Aside0 (code_Moves.j0 kq a0_0 x6_1 a0_0 a0_1 a0_2 a0_3 = some (r1, r2)) ∧ Aside0 (kq ≤ k) ∧ Aside0 (wc.heap[gb130]? = some (.cells #[.int .i64 a0_0, .int .u64 a0_1, .int .i64 a0_2, .int .i64 a0_3] 36 (0, 0))) ∧ Aside0 (Below w.heap.size w wc))
 case first =>
  have H := HC2.out
  clear HC2
  by_cases c5 : a0_0 = 0
  ·rw [if_pos c5] at H
   have c5b0 : (a0_0 == 0) = true := beq_iff_eq.mpr c5
   have c5b1 : (a0_0 != 0) = false := bne_eq_false_iff_eq.mpr c5
   clear c5
   (first | rw [c5b0] | (simp only [i64_w, i32_w]; rw [c5b0]) | skip)
   have H' := Aside0.mk H
   clear H
   go_wp2
   go_meet
   case rel => exact ⟨_, ((a0_0 == 0)), (by first | rfl | (simp; done) | (simp [*]; done)), H', ⟨by first | omega | exact Nat.le_refl _⟩, ⟨by (with_reducible repeat (first | refine blk_drewN ?_ _ | refine blk_drew ?_ | refine blk_alloc ?_ _)); exact BK130.out⟩, ⟨by repeat (first | (with_reducible first | exact HB.out | apply below_alloc | apply pw_below_drewN | apply below_drew1 | refine below_set ?_ GE130.out) | exact HB.out)⟩⟩
  ·rw [if_neg c5] at H
   have c5b0 : (a0_0 == 0) = false := beq_eq_false_iff_ne.mpr c5
   have c5b1 : (a0_0 != 0) = true := bne_iff_ne.mpr c5
   (first | rw [c5b0] | (simp only [i64_w, i32_w]; rw [c5b0]) | skip)
   have H' := Aside0.mk H
   clear H
   go_wp2
   go_meet
   case rel => exact ⟨_, ((a0_0 == 1)), (by first | rfl | (simp; done) | (simp [*]; done)), H', ⟨by first | omega | exact Nat.le_refl _⟩, ⟨by (with_reducible repeat (first | refine blk_drewN ?_ _ | refine blk_drew ?_ | refine blk_alloc ?_ _)); exact BK130.out⟩, ⟨by repeat (first | (with_reducible first | exact HB.out | apply below_alloc | apply pw_below_drewN | apply below_drew1 | refine below_set ?_ GE130.out) | exact HB.out)⟩⟩
 case rest =>
  clear HC2
  try clear c2
  try clear p2
  try clear c5
  try clear c5b0
  try clear c5b1
  try clear hcz4_0
  try clear hcz4_1
  try clear hcz4_2
  try clear hcz4_3
  try clear hfz4_0
  try clear hfz4_1
  try clear hfz4_2
  try clear hfz4_3
  obtain ⟨kq, x6_1, rfl, HA, HJ1, BK130, HB⟩ := hcut
  cases kq with
  | zero => exact absurd HA.out (by simp [code_Moves.j0])
  | succ kj1 =>
   have H := HA.out
   clear HA
   simp only [code_Moves.j0] at H
   by_cases c6 : x6_1 = true
   ·subst c6
    have H1 : (some (0, 1)) = some (r1, r2) := by rw [if_pos rfl] at H; exact H
    clear H
    have H := H1
    clear H1
    simp only [Option.some.injEq, Prod.mk.injEq] at H
    obtain ⟨rfl, rfl⟩ := H
    go_wp2
    go_ret2
    exact ⟨by first | rfl | (simp [errW_none, errW_some] <;> rfl) | (simp [*, errW_none, errW_some] <;> rfl), by repeat (first | (with_reducible first | exact HB.out | apply below_alloc | apply pw_below_drewN | apply below_drew1 | refine below_set ?_ GE130.out) | exact HB.out)⟩
   ·replace c6 := Bool.eq_false_iff.mpr c6
    subst c6
    have H1 : (if a0_0 = 2 then (some (1, 2)) else (if a0_0 = 3 then (code_Moves.j1 kj1 a0_0 (a0_0 == 3) a0_0 a0_1 a0_2 a0_3) else (code_Moves.j1 kj1 a0_0 (a0_0 == 22) a0_0 a0_1 a0_2 a0_3))) = some (r1, r2) := by rw [if_neg (show ¬ (false = true) by decide)] at H; exact H
    clear H
    have H := H1
    clear H1
    by_cases c7 : a0_0 = 2
    ·rw [if_pos c7] at H
     have c7b0 : (a0_0 == 2) = true := beq_iff_eq.mpr c7
     have c7b1 : (a0_0 != 2) = false := bne_eq_false_iff_eq.mpr c7
     clear c7
     simp only [Option.some.injEq, Prod.mk.injEq] at H
     obtain ⟨rfl, rfl⟩ := H
     go_wp2
     go_ret2
     exact ⟨by first | rfl | (simp [errW_none, errW_some] <;> rfl) | (simp [*, errW_none, errW_some] <;> rfl), by repeat (first | (with_reducible first | exact HB.out | apply below_alloc | apply pw_below_drewN | apply below_drew1 | refine below_set ?_ GE130.out) | exact HB.out)⟩
    ·rw [if_neg c7] at H
     have c7b0 : (a0_0 == 2) = false := beq_eq_false_iff_ne.mpr c7
     have c7b1 : (a0_0 != 2) = true := bne_iff_ne.mpr c7
     have HC8 := Aside0.mk H
     clear H
     go_upto_if 11 with (fail)
     go_cut [11] (fun v11 wc => ∃ (kq : Nat) (x11_7 : Bool), v11 = .bool x11_7 ∧ Aside0 (code_Moves.j1 kq a0_0 x11_7 a0_0 a0_1 a0_2 a0_3 = some (r1, r2)) ∧ Aside0 (kq ≤ kj1) ∧ Aside0 (wc.heap[gb130]? = some (.cells #[.int .i64 a0_0, .int .u64 a0_1, .int .i64 a0_2, .int .i64 a0_3] 36 (0, 0))) ∧ Aside0 (Below w.heap.size w wc))
     case first =>
      have H := HC8.out
      clear HC8
      by_cases c9 : a0_0 = 3
      ·rw [if_pos c9] at H
       have c9b0 : (a0_0 == 3) = true := beq_iff_eq.mpr c9
       have c9b1 : (a0_0 != 3) = false := bne_eq_false_iff_eq.mpr c9
       clear c9
       (first | rw [c9b0] | (simp only [i64_w, i32_w]; rw [c9b0]) | skip)
       have H' := Aside0.mk H
       clear H
       go_wp2
       go_meet
       case rel => exact ⟨_, ((a0_0 == 3)), (by first | rfl | (simp; done) | (simp [*]; done)), H', ⟨by have := HJ1.out; first | omega | exact Nat.le_refl _⟩, ⟨by (with_reducible repeat (first | refine blk_drewN ?_ _ | refine blk_drew ?_ | refine blk_alloc ?_ _)); exact BK130.out⟩, ⟨by repeat (first | (with_reducible first | exact HB.out | apply below_alloc | apply pw_below_drewN | apply below_drew1 | refine below_set ?_ GE130.out) | exact HB.out)⟩⟩
      ·rw [if_neg c9] at H
       have c9b0 : (a0_0 == 3) = false := beq_eq_false_iff_ne.mpr c9
       have c9b1 : (a0_0 != 3) = true := bne_iff_ne.mpr c9
       (first | rw [c9b0] | (simp only [i64_w, i32_w]; rw [c9b0]) | skip)
       have H' := Aside0.mk H
       clear H
       go_wp2
       go_meet
       case rel => exact ⟨_, ((a0_0 == 22)), (by first | rfl | (simp; done) | (simp [*]; done)), H', ⟨by have := HJ1.out; first | omega | exact Nat.le_refl _⟩, ⟨by (with_reducible repeat (first | refine blk_drewN ?_ _ | refine blk_drew ?_ | refine blk_alloc ?_ _)); exact BK130.out⟩, ⟨by repeat (first | (with_reducible first | exact HB.out | apply below_alloc | apply pw_below_drewN | apply below_drew1 | refine below_set ?_ GE130.out) | exact HB.out)⟩⟩
     case rest =>
      clear HC8
      try clear c2
      try clear p2
      try clear c5
      try clear c5b0
      try clear c5b1
      try clear c6
      try clear c7
      try clear c7b0
      try clear c7b1
      try clear c9
      try clear c9b0
      try clear c9b1
      try clear hcz4_0
      try clear hcz4_1
      try clear hcz4_2
      try clear hcz4_3
      try clear hfz4_0
      try clear hfz4_1
      try clear hfz4_2
      try clear hfz4_3
      try clear p2
      obtain ⟨kq, x11_7, rfl, HA, HJ7, BK130, HB⟩ := hcut
      cases kq with
      | zero => exact absurd HA.out (by simp [code_Moves.j1])
      | succ kj7 =>
       have H := HA.out
       clear HA
       simp only [code_Moves.j1] at H
       by_cases c10 : x11_7 = true
       ·subst c10
        have H1 : (some (1, 0)) = some (r1, r2) := by rw [if_pos rfl] at H; exact H
        clear H
        have H := H1
        clear H1
        simp only [Option.some.injEq, Prod.mk.injEq] at H
        obtain ⟨rfl, rfl⟩ := H
        go_wp2
        go_ret2
        exact ⟨by first | rfl | (simp [errW_none, errW_some] <;> rfl) | (simp [*, errW_none, errW_some] <;> rfl), by repeat (first | (with_reducible first | exact HB.out | apply below_alloc | apply pw_below_drewN | apply below_drew1 | refine below_set ?_ GE130.out) | exact HB.out)⟩
       ·replace c10 := Bool.eq_false_iff.mpr c10
        subst c10
        have H1 : (if a0_0 = 4 then (some (2, 2)) else (if a0_0 = 5 then (some (2, 3)) else (if a0_0 = 18 then (code_Moves.j2 kj7 a0_0 (a0_0 == 18) a0_0 a0_1 a0_2 a0_3) else (code_Moves.j2 kj7 a0_0 (a0_0 == 19) a0_0 a0_1 a0_2 a0_3)))) = some (r1, r2) := by rw [if_neg (show ¬ (false = true) by decide)] at H; exact H
        clear H
        have H := H1
        clear H1
        by_cases c11 : a0_0 = 4
        ·rw [if_pos c11] at H
         have c11b0 : (a0_0 == 4) = true := beq_iff_eq.mpr c11
         have c11b1 : (a0_0 != 4) = false := bne_eq_false_iff_eq.mpr c11
         clear c11
         simp only [Option.some.injEq, Prod.mk.injEq] at H
         obtain ⟨rfl, rfl⟩ := H
         go_wp2
         go_ret2
         exact ⟨by first | rfl | (simp [errW_none, errW_some] <;> rfl) | (simp [*, errW_none, errW_some] <;> rfl), by repeat (first | (with_reducible first | exact HB.out | apply below_alloc | apply pw_below_drewN | apply below_drew1 | refine below_set ?_ GE130.out) | exact HB.out)⟩
        ·rw [if_neg c11] at H
         have c11b0 : (a0_0 == 4) = false := beq_eq_false_iff_ne.mpr c11
         have c11b1 : (a0_0 != 4) = true := bne_iff_ne.mpr c11
         by_cases c12 : a0_0 = 5
         ·rw [if_pos c12] at H
          have c12b0 : (a0_0 == 5) = true := beq_iff_eq.mpr c12
          have c12b1 : (a0_0 != 5) = false := bne_eq_false_iff_eq.mpr c12
          clear c12
          simp only [Option.some.injEq, Prod.mk.injEq] at H
          obtain ⟨rfl, rfl⟩ := H
          go_wp2
          go_ret2
          exact ⟨by first | rfl | (simp [errW_none, errW_some] <;> rfl) | (simp [*, errW_none, errW_some] <;> rfl), by repeat (first | (with_reducible first | exact HB.out | apply below_alloc | apply pw_below_drewN | apply below_drew1 | refine below_set ?_ GE130.out) | exact HB.out)⟩
         ·rw [if_neg c12] at H
          have c12b0 : (a0_0 == 5) = false := beq_eq_false_iff_ne.mpr c12
          have c12b1 : (a0_0 != 5) = true := bne_iff_ne.mpr c12
          have HC13 := Aside0.mk H
          clear H
          go_upto_if 18 with (fail)
          go_cut [18] (fun v18 wc => ∃ (kq : Nat) (x18_12 : Bool), v18 = .bool x18_12 ∧ Aside0 (code_Moves.j2 kq a0_0 x18_12 a0_0 a0_1 a0_2 a0_3 = some (r1, r2)) ∧ Aside0 (kq ≤ kj7) ∧ Aside0 (wc.heap[gb130]? = some (.cells #[.int .i64 a0_0, .int .u64 a0_1, .int .i64 a0_2, .int .i64 a0_3] 36 (0, 0))) ∧ Aside0 (Below w.heap.size w wc))
          case first =>
           have H := HC13.out
           clear HC13
           by_cases c14 : a0_0 = 18
           ·rw [if_pos c14] at H
            have c14b0 : (a0_0 == 18) = true := beq_iff_eq.mpr c14
            have c14b1 : (a0_0 != 18) = false := bne_eq_false_iff_eq.mpr c14
            clear c14
            (first | rw [c14b0] | (simp only [i64_w, i32_w]; rw [c14b0]) | skip)
            have H' := Aside0.mk H
            clear H
            go_wp2
            go_meet
            case rel => exact ⟨_, ((a0_0 == 18)), (by first | rfl | (simp; done) | (simp [*]; done)), H', ⟨by have := HJ1.out; have := HJ7.out; first | omega | exact Nat.le_refl _⟩, ⟨by (with_reducible repeat (first | refine blk_drewN ?_ _ | refine blk_drew ?_ | refine blk_alloc ?_ _)); exact BK130.out⟩, ⟨by repeat (first | (with_reducible first | exact HB.out | apply below_alloc | apply pw_below_drewN | apply below_drew1 | refine below_set ?_ GE130.out) | exact HB.out)⟩⟩
           ·rw [if_neg c14] at H
            have c14b0 : (a0_0 == 18) = false := beq_eq_false_iff_ne.mpr c14
            have c14b1 : (a0_0 != 18) = true := bne_iff_ne.mpr c14
            (first | rw [c14b0] | (simp only [i64_w, i32_w]; rw [c14b0]) | skip)
            have H' := Aside0.mk H
            clear H
            go_wp2
            go_meet
            case rel => exact ⟨_, ((a0_0 == 19)), (by first | rfl | (simp; done) | (simp [*]; done)), H', ⟨by have := HJ1.out; have := HJ7.out; first | omega | exact Nat.le_refl _⟩, ⟨by (with_reducible repeat (first | refine blk_drewN ?_ _ | refine blk_drew ?_ | refine blk_alloc ?_ _)); exact BK130.out⟩, ⟨by repeat (first | (with_reducible first | exact HB.out | apply below_alloc | apply pw_below_drewN | apply below_drew1 | refine below_set ?_ GE130.out) | exact HB.out)⟩⟩
          case rest =>
           clear HC13
           try clear c1
           try clear c2
           try clear p2
           try clear c5
           try clear c5b0
           try clear c5b1
           try clear c6
           try clear c7
           try clear c7b0
           try clear c7b1
           try clear c9
           try clear c9b0
           try clear c9b1
           try clear c10
           try clear c11
           try clear c11b0
           try clear c11b1
           try clear c12
           try clear c12b0
           try clear c12b1
           try clear c14
           try clear c14b0
           try clear c14b1
           try clear hcz4_0
           try clear hcz4_1
           try clear hcz4_2
           try clear hcz4_3
           try clear hfz4_0
           try clear hfz4_1
           try clear hfz4_2
           try clear hfz4_3
           try clear p2
           obtain ⟨kq, x18_12, rfl, HA, HJ12, BK130, HB⟩ := hcut
           cases kq with
           | zero => exact absurd HA.out (by simp [code_Moves.j2])
           | succ kj12 =>
            have H := HA.out
            clear HA
            simp only [code_Moves.j2] at H
            by_cases c15 : x18_12 = true
            ·subst c15
             have H1 : (some (1, 1)) = some (r1, r2) := by rw [if_pos rfl] at H; exact H
             clear H
             have H := H1
             clear H1
             simp only [Option.some.injEq, Prod.mk.injEq] at H
             obtain ⟨rfl, rfl⟩ := H
             go_wp2
             go_ret2
             exact ⟨by first | rfl | (simp [errW_none, errW_some] <;> rfl) | (simp [*, errW_none, errW_some] <;> rfl), by repeat (first | (with_reducible first | exact HB.out | apply below_alloc | apply pw_below_drewN | apply below_drew1 | refine below_set ?_ GE130.out) | exact HB.out)⟩
            ·replace c15 := Bool.eq_false_iff.mpr c15
             subst c15
             have H1 : (if a0_0 = 20 then (some (2, 0)) else (if a0_0 = 21 then (some (0, 0)) else (if a0_0 = 23 then (if a0_1 < 256 then ((code_Args.f kj12 (wrap64 (a0_1))).bind fun t131 => (code_Moves.j3 kj12 (decide (t131 ≥ 0)) a0_0 a0_1 a0_2 a0_3)) else (code_Moves.j3 kj12 false a0_0 a0_1 a0_2 a0_3)) else (if a0_0 ≥ 6 then (if a0_0 ≤ 17 then (some (2, 1)) else (some ((-1), (-1)))) else (some ((-1), (-1))))))) = some (r1, r2) := by rw [if_neg (show ¬ (false = true) by decide)] at H; exact H
             clear H
             have H := H1
             clear H1
             by_cases c16 : a0_0 = 20
             ·rw [if_pos c16] at H
              have c16b0 : (a0_0 == 20) = true := beq_iff_eq.mpr c16
              have c16b1 : (a0_0 != 20) = false := bne_eq_false_iff_eq.mpr c16
              clear c16
              simp only [Option.some.injEq, Prod.mk.injEq] at H
              obtain ⟨rfl, rfl⟩ := H
              go_wp2
              go_ret2
              exact ⟨by first | rfl | (simp [errW_none, errW_some] <;> rfl) | (simp [*, errW_none, errW_some] <;> rfl), by repeat (first | (with_reducible first | exact HB.out | apply below_alloc | apply pw_below_drewN | apply below_drew1 | refine below_set ?_ GE130.out) | exact HB.out)⟩
             ·rw [if_neg c16] at H
              have c16b0 : (a0_0 == 20) = false := beq_eq_false_iff_ne.mpr c16
              have c16b1 : (a0_0 != 20) = true := bne_iff_ne.mpr c16
              by_cases c17 : a0_0 = 21
              ·rw [if_pos c17] at H
               have c17b0 : (a0_0 == 21) = true := beq_iff_eq.mpr c17
               have c17b1 : (a0_0 != 21) = false := bne_eq_false_iff_eq.mpr c17
               clear c17
               simp only [Option.some.injEq, Prod.mk.injEq] at H
               obtain ⟨rfl, rfl⟩ := H
               go_wp2
               go_ret2
               exact ⟨by first | rfl | (simp [errW_none, errW_some] <;> rfl) | (simp [*, errW_none, errW_some] <;> rfl), by repeat (first | (with_reducible first | exact HB.out | apply below_alloc | apply pw_below_drewN | apply below_drew1 | refine below_set ?_ GE130.out) | exact HB.out)⟩
              ·rw [if_neg c17] at H
               have c17b0 : (a0_0 == 21) = false := beq_eq_false_iff_ne.mpr c17
               have c17b1 : (a0_0 != 21) = true := bne_iff_ne.mpr c17
               by_cases c18 : a0_0 = 23
               ·rw [if_pos c18] at H
                have c18b0 : (a0_0 == 23) = true := beq_iff_eq.mpr c18
                have c18b1 : (a0_0 != 23) = false := bne_eq_false_iff_eq.mpr c18
                clear c18
                have HC19 := Aside0.mk H
                clear H
                go_upto_region 22 with (fail)
                go_cut [36] (fun v36 wc => ∃ (kq : Nat) (x36_18 : Bool), v36 = .bool x36_18 ∧ Aside0 (code_Moves.j3 kq x36_18 a0_0 a0_1 a0_2 a0_3 = some (r1, r2)) ∧ Aside0 (kq ≤ kj12) ∧ Aside0 (wc.heap[gb130]? = some (.cells #[.int .i64 a0_0, .int .u64 a0_1, .int .i64 a0_2, .int .i64 a0_3] 36 (0, 0))) ∧ Aside0 (Below w.heap.size w wc))
                case first =>
                 have H := HC19.out
                 clear HC19
                 by_cases c20 : a0_1 < 256
                 ·rw [if_pos c20] at H
                  have c20b0 : decide (a0_1 < 256) = true := decide_eq_true c20
                  clear c20
                  (first | rw [c20b0] | (simp only [i64_w, i32_w]; rw [c20b0]) | skip)
                  replace H := Option.bind_eq_some_iff.mp H
                  obtain ⟨t131, A210, H⟩ := H
                  replace H : (code_Moves.j3 kj12 (decide (t131 ≥ 0)) a0_0 a0_1 a0_2 a0_3) = some (r1, r2) := H
                  have A21 := Aside0.mk A210
                  clear A210
                  have H' := Aside0.mk H
                  clear H
                  have hcz22_0 : wc.cell? ⟨gb130, 0, none⟩ = some (.int .i64 a0_0) := (blk_cell BK130.out 0).trans rfl
                  have hcz22_1 : wc.cell? ⟨gb130, 1, none⟩ = some (.int .u64 a0_1) := (blk_cell BK130.out 1).trans rfl
                  have hcz22_2 : wc.cell? ⟨gb130, 2, none⟩ = some (.int .i64 a0_2) := (blk_cell BK130.out 2).trans rfl
                  have hcz22_3 : wc.cell? ⟨gb130, 3, none⟩ = some (.int .i64 a0_3) := (blk_cell BK130.out 3).trans rfl
                  have hfz22_0 := blk_frozen BK130.out 0
                  have hfz22_1 := blk_frozen BK130.out 1
                  have hfz22_2 := blk_frozen BK130.out 2
                  have hfz22_3 := blk_frozen BK130.out 3
                  go_wp2_with (first | (go_at_call 25; (with_reducible refine (code_Args.calls kj12 (wrap64 (a0_1)) t131 _ A21.out).mono ?_); rintro e w' ⟨rfl, ⟨nd, rfl⟩⟩))
                  go_meet
                  case rel => exact ⟨_, (decide (t131 ≥ 0)), (by first | rfl | (simp; done) | (simp [*]; done)), H', ⟨by have := HJ1.out; have := HJ7.out; have := HJ12.out; first | omega | exact Nat.le_refl _⟩, ⟨by (with_reducible repeat (first | refine blk_drewN ?_ _ | refine blk_drew ?_ | refine blk_alloc ?_ _)); exact BK130.out⟩, ⟨by repeat (first | (with_reducible first | exact HB.out | apply below_alloc | apply pw_below_drewN | apply below_drew1 | refine below_set ?_ GE130.out) | exact HB.out)⟩⟩
                 ·rw [if_neg c20] at H
                  have c20b0 : decide (a0_1 < 256) = false := decide_eq_false c20
                  clear c20
                  (first | rw [c20b0] | (simp only [i64_w, i32_w]; rw [c20b0]) | skip)
                  have H' := Aside0.mk H
                  clear H
                  have hcz23_0 : wc.cell? ⟨gb130, 0, none⟩ = some (.int .i64 a0_0) := (blk_cell BK130.out 0).trans rfl
                  have hcz23_1 : wc.cell? ⟨gb130, 1, none⟩ = some (.int .u64 a0_1) := (blk_cell BK130.out 1).trans rfl
                  have hcz23_2 : wc.cell? ⟨gb130, 2, none⟩ = some (.int .i64 a0_2) := (blk_cell BK130.out 2).trans rfl
                  have hcz23_3 : wc.cell? ⟨gb130, 3, none⟩ = some (.int .i64 a0_3) := (blk_cell BK130.out 3).trans rfl
                  have hfz23_0 := blk_frozen BK130.out 0
                  have hfz23_1 := blk_frozen BK130.out 1
                  have hfz23_2 := blk_frozen BK130.out 2
                  have hfz23_3 := blk_frozen BK130.out 3
                  go_wp2
                  go_meet
                  case rel => exact ⟨_, (false), (by first | rfl | (simp; done) | (simp [*]; done)), H', ⟨by have := HJ1.out; have := HJ7.out; have := HJ12.out; first | omega | exact Nat.le_refl _⟩, ⟨by (with_reducible repeat (first | refine blk_drewN ?_ _ | refine blk_drew ?_ | refine blk_alloc ?_ _)); exact BK130.out⟩, ⟨by repeat (first | (with_reducible first | exact HB.out | apply below_alloc | apply pw_below_drewN | apply below_drew1 | refine below_set ?_ GE130.out) | exact HB.out)⟩⟩
                case rest =>
                 clear HC19
                 try clear c1
                 try clear c2
                 try clear p2
                 try clear c5
                 try clear c5b0
                 try clear c5b1
                 try clear c6
                 try clear p6
                 try clear c7
                 try clear c7b0
                 try clear c7b1
                 try clear c9
                 try clear c9b0
                 try clear c9b1
                 try clear c10
                 try clear c11
                 try clear c11b0
                 try clear c11b1
                 try clear c12
                 try clear c12b0
                 try clear c12b1
                 try clear c14
                 try clear c14b0
                 try clear c14b1
                 try clear c15
                 try clear c16
                 try clear c16b0
                 try clear c16b1
                 try clear c17
                 try clear c17b0
                 try clear c17b1
                 try clear c18
                 try clear c18b0
                 try clear c18b1
                 try clear c20
                 try clear c20b0
                 try clear c23
                 try clear hcz22_0
                 try clear hcz22_1
                 try clear hcz22_2
                 try clear hcz22_3
                 try clear hcz23_0
                 try clear hcz23_1
                 try clear hcz23_2
                 try clear hcz23_3
                 try clear hcz4_0
                 try clear hcz4_1
                 try clear hcz4_2
                 try clear hcz4_3
                 try clear hfz22_0
                 try clear hfz22_1
                 try clear hfz22_2
                 try clear hfz22_3
                 try clear hfz23_0
                 try clear hfz23_1
                 try clear hfz23_2
                 try clear hfz23_3
                 try clear hfz4_0
                 try clear hfz4_1
                 try clear hfz4_2
                 try clear hfz4_3
                 try clear p2
                 obtain ⟨kq, x36_18, rfl, HA, HJ18, BK130, HB⟩ := hcut
                 cases kq with
                 | zero => exact absurd HA.out (by simp [code_Moves.j3])
                 | succ kj18 =>
                  have H := HA.out
                  clear HA
                  simp only [code_Moves.j3] at H
                  by_cases c24 : x36_18 = true
                  ·subst c24
                   have H1 : ((code_Args.f kj18 (wrap64 (a0_1))).bind fun t132 => (some (t132, 1))) = some (r1, r2) := by rw [if_pos rfl] at H; exact H
                   clear H
                   have H := H1
                   clear H1
                   replace H := Option.bind_eq_some_iff.mp H
                   obtain ⟨t132, A250, H⟩ := H
                   replace H : (some (t132, 1)) = some (r1, r2) := H
                   have A25 := Aside0.mk A250
                   clear A250
                   simp only [Option.some.injEq, Prod.mk.injEq] at H
                   obtain ⟨rfl, rfl⟩ := H
                   have hcz26_0 : wc.cell? ⟨gb130, 0, none⟩ = some (.int .i64 a0_0) := (blk_cell BK130.out 0).trans rfl
                   have hcz26_1 : wc.cell? ⟨gb130, 1, none⟩ = some (.int .u64 a0_1) := (blk_cell BK130.out 1).trans rfl
                   have hcz26_2 : wc.cell? ⟨gb130, 2, none⟩ = some (.int .i64 a0_2) := (blk_cell BK130.out 2).trans rfl
                   have hcz26_3 : wc.cell? ⟨gb130, 3, none⟩ = some (.int .i64 a0_3) := (blk_cell BK130.out 3).trans rfl
                   have hfz26_0 := blk_frozen BK130.out 0
                   have hfz26_1 := blk_frozen BK130.out 1
                   have hfz26_2 := blk_frozen BK130.out 2
                   have hfz26_3 := blk_frozen BK130.out 3
                   go_wp2_with (first | ((with_reducible refine gate_callee (f := 25) rfl ?_); refine goesL_ (some 40) rfl rfl Try.func25 (by kernel_rfl) rfl #[.int .i64 (wrap64 (a0_1))] rfl (by (try simp only [List.map_toArray, List.map_cons, List.map_nil]); first | done | rfl | (simp only [List.length_drop, List.length_take]; rfl)) ?_; (with_reducible refine (code_Args.calls kj18 (wrap64 (a0_1)) t132 _ A25.out).mono ?_); rintro e w' ⟨rfl, ⟨nd, rfl⟩⟩; refine ⟨_, rfl, ?_⟩))
                   go_ret2
                   exact ⟨by first | rfl | (simp [errW_none, errW_some] <;> rfl) | (simp [*, errW_none, errW_some] <;> rfl), by repeat (first | (with_reducible first | exact HB.out | apply below_alloc | apply pw_below_drewN | apply below_drew1 | refine below_set ?_ GE130.out) | exact HB.out)⟩
                  ·replace c24 := Bool.eq_false_iff.mpr c24
                   subst c24
                   have H1 : (some ((-1), (-1))) = some (r1, r2) := by rw [if_neg (show ¬ (false = true) by decide)] at H; exact H
                   clear H
                   have H := H1
                   clear H1
                   simp only [Option.some.injEq, Prod.mk.injEq] at H
                   obtain ⟨rfl, rfl⟩ := H
                   go_wp2
                   go_ret2
                   exact ⟨by first | rfl | (simp [errW_none, errW_some] <;> rfl) | (simp [*, errW_none, errW_some] <;> rfl), by repeat (first | (with_reducible first | exact HB.out | apply below_alloc | apply pw_below_drewN | apply below_drew1 | refine below_set ?_ GE130.out) | exact HB.out)⟩
               ·rw [if_neg c18] at H
                have c18b0 : (a0_0 == 23) = false := beq_eq_false_iff_ne.mpr c18
                have c18b1 : (a0_0 != 23) = true := bne_iff_ne.mpr c18
                by_cases c27 : a0_0 ≥ 6
                ·rw [if_pos c27] at H
                 have c27b0 : decide (6 ≤ a0_0) = true := decide_eq_true c27
                 clear c27
                 by_cases c28 : a0_0 ≤ 17
                 ·rw [if_pos c28] at H
                  have c28b0 : decide (a0_0 ≤ 17) = true := decide_eq_true c28
                  clear c28
                  simp only [Option.some.injEq, Prod.mk.injEq] at H
                  obtain ⟨rfl, rfl⟩ := H
                  have hcz29_0 : wc.cell? ⟨gb130, 0, none⟩ = some (.int .i64 a0_0) := (blk_cell BK130.out 0).trans rfl
                  have hcz29_1 : wc.cell? ⟨gb130, 1, none⟩ = some (.int .u64 a0_1) := (blk_cell BK130.out 1).trans rfl
                  have hcz29_2 : wc.cell? ⟨gb130, 2, none⟩ = some (.int .i64 a0_2) := (blk_cell BK130.out 2).trans rfl
                  have hcz29_3 : wc.cell? ⟨gb130, 3, none⟩ = some (.int .i64 a0_3) := (blk_cell BK130.out 3).trans rfl
                  have hfz29_0 := blk_frozen BK130.out 0
                  have hfz29_1 := blk_frozen BK130.out 1
                  have hfz29_2 := blk_frozen BK130.out 2
                  have hfz29_3 := blk_frozen BK130.out 3
                  go_wp2
                  go_ret2
                  exact ⟨by first | rfl | (simp [errW_none, errW_some] <;> rfl) | (simp [*, errW_none, errW_some] <;> rfl), by repeat (first | (with_reducible first | exact HB.out | apply below_alloc | apply pw_below_drewN | apply below_drew1 | refine below_set ?_ GE130.out) | exact HB.out)⟩
                 ·rw [if_neg c28] at H
                  have c28b0 : decide (a0_0 ≤ 17) = false := decide_eq_false c28
                  clear c28
                  simp only [Option.some.injEq, Prod.mk.injEq] at H
                  obtain ⟨rfl, rfl⟩ := H
                  have hcz30_0 : wc.cell? ⟨gb130, 0, none⟩ = some (.int .i64 a0_0) := (blk_cell BK130.out 0).trans rfl
                  have hcz30_1 : wc.cell? ⟨gb130, 1, none⟩ = some (.int .u64 a0_1) := (blk_cell BK130.out 1).trans rfl
                  have hcz30_2 : wc.cell? ⟨gb130, 2, none⟩ = some (.int .i64 a0_2) := (blk_cell BK130.out 2).trans rfl
                  have hcz30_3 : wc.cell? ⟨gb130, 3, none⟩ = some (.int .i64 a0_3) := (blk_cell BK130.out 3).trans rfl
                  have hfz30_0 := blk_frozen BK130.out 0
                  have hfz30_1 := blk_frozen BK130.out 1
                  have hfz30_2 := blk_frozen BK130.out 2
                  have hfz30_3 := blk_frozen BK130.out 3
                  go_wp2
                  go_ret2
                  exact ⟨by first | rfl | (simp [errW_none, errW_some] <;> rfl) | (simp [*, errW_none, errW_some] <;> rfl), by repeat (first | (with_reducible first | exact HB.out | apply below_alloc | apply pw_below_drewN | apply below_drew1 | refine below_set ?_ GE130.out) | exact HB.out)⟩
                ·rw [if_neg c27] at H
                 have c27b0 : decide (6 ≤ a0_0) = false := decide_eq_false c27
                 clear c27
                 simp only [Option.some.injEq, Prod.mk.injEq] at H
                 obtain ⟨rfl, rfl⟩ := H
                 have hcz31_0 : wc.cell? ⟨gb130, 0, none⟩ = some (.int .i64 a0_0) := (blk_cell BK130.out 0).trans rfl
                 have hcz31_1 : wc.cell? ⟨gb130, 1, none⟩ = some (.int .u64 a0_1) := (blk_cell BK130.out 1).trans rfl
                 have hcz31_2 : wc.cell? ⟨gb130, 2, none⟩ = some (.int .i64 a0_2) := (blk_cell BK130.out 2).trans rfl
                 have hcz31_3 : wc.cell? ⟨gb130, 3, none⟩ = some (.int .i64 a0_3) := (blk_cell BK130.out 3).trans rfl
                 have hfz31_0 := blk_frozen BK130.out 0
                 have hfz31_1 := blk_frozen BK130.out 1
                 have hfz31_2 := blk_frozen BK130.out 2
                 have hfz31_3 := blk_frozen BK130.out 3
                 go_wp2
                 go_ret2
                 exact ⟨by first | rfl | (simp [errW_none, errW_some] <;> rfl) | (simp [*, errW_none, errW_some] <;> rfl), by repeat (first | (with_reducible first | exact HB.out | apply below_alloc | apply pw_below_drewN | apply below_drew1 | refine below_set ?_ GE130.out) | exact HB.out)⟩
end Go.Proofs.Ytjbpljcfogekhaa.Q
namespace Go.Proofs.Ytjbpljcfogekhaa.Core
open Go.RowKit Go.Proofs.Ytjbpljcfogekhaa.Q Go.Proofs.YtjbpljcfogekhaaW.PrintWords Go.Proofs.YtjbpljcfogekhaaW.PrintLast Go.Proofs.YtjbpljcfogekhaaW.PrintMore
def argsS (c : Int) : Int :=
  if c = 2 then 0 else if c = 17 then 0 else if c = 18 then 0 else if c = 19 then 0
  else if c = 1 then 1 else if c = 4 then 1 else if c = 6 then 1 else if c = 9 then 1 else if c = 10 then 1
  else if c = 3 then 2 else if c = 11 then 2 else if c = 12 then 2 else if c = 15 then 2 else if c = 16 then 2
  else if c = 5 then 3 else if c = 7 then 3 else if c = 8 then 3
  else if c = 13 then 4 else if c = 14 then 4 else -1
theorem Args_ev (c : Int) : Ev (fun k => code_Args.f k c) (argsS c) := by
  by_cases h : 1 ≤ c ∧ c ≤ 19
  · have h' : c = 1 ∨ c = 2 ∨ c = 3 ∨ c = 4 ∨ c = 5 ∨ c = 6 ∨ c = 7 ∨ c = 8 ∨ c = 9 ∨ c = 10 ∨ c = 11 ∨ c = 12 ∨ c = 13 ∨ c = 14 ∨ c = 15 ∨ c = 16 ∨ c = 17 ∨ c = 18 ∨ c = 19 := by omega
    rcases h' with rfl | rfl | rfl | rfl | rfl | rfl | rfl | rfl | rfl | rfl | rfl | rfl | rfl | rfl | rfl | rfl | rfl | rfl | rfl
    all_goals exact Ev.of (code_Args.mono _) (k := 4) (by decide +kernel)
  · refine Ev.from 4 fun k => ?_
    have h1 : c ≠ 1 := by omega
    have h2 : c ≠ 2 := by omega
    have h3 : c ≠ 3 := by omega
    have h4 : c ≠ 4 := by omega
    have h5 : c ≠ 5 := by omega
    have h6 : c ≠ 6 := by omega
    have h7 : c ≠ 7 := by omega
    have h8 : c ≠ 8 := by omega
    have h9 : c ≠ 9 := by omega
    have h10 : c ≠ 10 := by omega
    have h11 : c ≠ 11 := by omega
    have h12 : c ≠ 12 := by omega
    have h13 : c ≠ 13 := by omega
    have h14 : c ≠ 14 := by omega
    have h15 : c ≠ 15 := by omega
    have h16 : c ≠ 16 := by omega
    have h17 : c ≠ 17 := by omega
    have h18 : c ≠ 18 := by omega
    have h19 : c ≠ 19 := by omega
    simp [code_Args.f, code_Args.j0, code_Args.j1, code_Args.j2, code_Args.j3, argsS, h1, h2, h3, h4, h5, h6, h7, h8, h9, h10, h11, h12, h13, h14, h15, h16, h17, h18, h19]
def movesS (op arg : Int) : Int × Int :=
  if op = 0 then (0, 1) else if op = 1 then (0, 1) else if op = 2 then (1, 2) else if op = 3 then (1, 0) else if op = 22 then (1, 0)
  else if op = 4 then (2, 2) else if op = 5 then (2, 3) else if op = 18 then (1, 1) else if op = 19 then (1, 1) else if op = 20 then (2, 0) else if op = 21 then (0, 0)
  else if op = 23 then (if arg < 256 then (if 0 ≤ argsS arg then (argsS arg, 1) else (-1, -1)) else (-1, -1))
  else if 6 ≤ op then (if op ≤ 17 then (2, 1) else (-1, -1)) else (-1, -1)
theorem wrap_small {n : Int} (h0 : 0 ≤ n) (h1 : n < 256) : wrap64 n = n := by unfold wrap64; omega
theorem Moves_ev (op arg a b : Int) (h0 : 0 ≤ arg) : Ev (fun k => code_Moves.f k op arg a b) (movesS op arg) := by
  have j2 : ∀ t, (t = true ↔ (op = 18 ∨ op = 19)) → op ≠ 0 → op ≠ 1 → op ≠ 2 → op ≠ 3 → op ≠ 22 → op ≠ 4 → op ≠ 5 → Ev (fun k => code_Moves.j2 k op t op arg a b) (movesS op arg) := by
    intro t ht g0 g1 g2 g3 g4 g5 g6
    unfold movesS
    rw [if_neg g0, if_neg g1, if_neg g2, if_neg g3, if_neg g4, if_neg g5, if_neg g6]
    by_cases h18 : op = 18 ∨ op = 19
    · refine Ev.from 1 fun k => ?_
      simp only [code_Moves.j2]
      rw [if_pos (ht.2 h18)]
      rcases h18 with rfl | rfl <;> rfl
    · have e18 : op ≠ 18 := fun h => h18 (.inl h)
      have e19 : op ≠ 19 := fun h => h18 (.inr h)
      rw [if_neg e18, if_neg e19]
      refine Ev.step (f := fun k => if op = 20 then (some (2, 0)) else (if op = 21 then (some (0, 0)) else (if op = 23 then (if arg < 256 then ((code_Args.f k (wrap64 (arg))).bind fun t131 => (code_Moves.j3 k (decide (t131 ≥ 0)) op arg a b)) else (code_Moves.j3 k false op arg a b)) else (if op ≥ 6 then (if op ≤ 17 then (some (2, 1)) else (some ((-1), (-1)))) else (some ((-1), (-1))))))) (fun k => ?_) ?_
      · simp only [code_Moves.j2]
        rw [if_neg (fun h => h18 (ht.1 h))]
      · have no : Ev (fun k => code_Moves.j3 k false op arg a b) (-1, -1) := Ev.from 1 fun k => by simp [code_Moves.j3]
        by_cases e20 : op = 20
        · rw [if_pos e20]; exact Ev.pos e20 (Ev.now _)
        refine Ev.neg e20 ?_
        rw [if_neg e20]
        by_cases e21 : op = 21
        · rw [if_pos e21]; exact Ev.pos e21 (Ev.now _)
        refine Ev.neg e21 ?_
        rw [if_neg e21]
        by_cases e23 : op = 23
        · refine Ev.pos e23 ?_
          rw [if_pos e23]
          by_cases ha : arg < 256
          · refine Ev.pos ha ?_
            rw [if_pos ha, wrap_small h0 ha]
            refine Ev.bind (Args_ev arg) ?_
            by_cases hn : 0 ≤ argsS arg
            · rw [if_pos hn, decide_eq_true (show argsS arg ≥ 0 from hn)]
              refine Ev.step (f := fun k => (code_Args.f k (wrap64 (arg))).bind fun t132 => (some (t132, 1))) (fun k => by simp [code_Moves.j3]) ?_
              rw [wrap_small h0 ha]
              exact Ev.bind (Args_ev arg) (Ev.now _)
            · rw [if_neg hn, decide_eq_false (show ¬ argsS arg ≥ 0 from hn)]
              exact no
          · refine Ev.neg ha ?_
            rw [if_neg ha]
            exact no
        · refine Ev.neg e23 ?_
          rw [if_neg e23]
          by_cases e6 : 6 ≤ op
          · refine Ev.pos e6 ?_
            rw [if_pos e6]
            by_cases e17 : op ≤ 17
            · simp only [if_pos e17]; exact Ev.now _
            · simp only [if_neg e17]; exact Ev.now _
          · simp only [ge_iff_le, if_neg e6]; exact Ev.now _
  have j1 : ∀ t, (t = true ↔ (op = 3 ∨ op = 22)) → op ≠ 0 → op ≠ 1 → op ≠ 2 → Ev (fun k => code_Moves.j1 k op t op arg a b) (movesS op arg) := by
    intro t ht g0 g1 g2
    by_cases h3 : op = 3 ∨ op = 22
    · refine Ev.from 1 fun k => ?_
      simp only [code_Moves.j1]
      rw [if_pos (ht.2 h3)]
      rcases h3 with rfl | rfl <;> rfl
    · have e3 : op ≠ 3 := fun h => h3 (.inl h)
      have e22 : op ≠ 22 := fun h => h3 (.inr h)
      by_cases e4 : op = 4
      · refine Ev.from 1 fun k => ?_
        simp only [code_Moves.j1]
        rw [if_neg (fun h => h3 (ht.1 h)), if_pos e4]
        subst e4; rfl
      by_cases e5 : op = 5
      · refine Ev.from 1 fun k => ?_
        simp only [code_Moves.j1]
        rw [if_neg (fun h => h3 (ht.1 h)), if_neg e4, if_pos e5]
        subst e5; rfl
      refine Ev.step (f := fun k => if op = 18 then (code_Moves.j2 k op (op == 18) op arg a b) else (code_Moves.j2 k op (op == 19) op arg a b)) (fun k => ?_) ?_
      · simp only [code_Moves.j1]
        rw [if_neg (fun h => h3 (ht.1 h)), if_neg e4, if_neg e5]
      · by_cases e18 : op = 18
        · exact Ev.pos e18 (j2 _ (by simp [e18]) g0 g1 g2 e3 e22 e4 e5)
        · exact Ev.neg e18 (j2 _ (by simp [e18]) g0 g1 g2 e3 e22 e4 e5)
  have j0 : ∀ t, (t = true ↔ (op = 0 ∨ op = 1)) → Ev (fun k => code_Moves.j0 k op t op arg a b) (movesS op arg) := by
    intro t ht
    by_cases h0 : op = 0 ∨ op = 1
    · refine Ev.from 1 fun k => ?_
      simp only [code_Moves.j0]
      rw [if_pos (ht.2 h0)]
      rcases h0 with rfl | rfl <;> rfl
    · have e0 : op ≠ 0 := fun h => h0 (.inl h)
      have e1 : op ≠ 1 := fun h => h0 (.inr h)
      by_cases e2 : op = 2
      · refine Ev.from 1 fun k => ?_
        simp only [code_Moves.j0]
        rw [if_neg (fun h => h0 (ht.1 h)), if_pos e2]
        subst e2; rfl
      refine Ev.step (f := fun k => if op = 3 then (code_Moves.j1 k op (op == 3) op arg a b) else (code_Moves.j1 k op (op == 22) op arg a b)) (fun k => ?_) ?_
      · simp only [code_Moves.j0]
        rw [if_neg (fun h => h0 (ht.1 h)), if_neg e2]
      · by_cases e3 : op = 3
        · exact Ev.pos e3 (j1 _ (by simp [e3]) e0 e1 e2)
        · exact Ev.neg e3 (j1 _ (by simp [e3]) e0 e1 e2)
  simp only [code_Moves.f]
  by_cases e0 : op = 0
  · exact Ev.pos e0 (j0 _ (by simp [e0]))
  · exact Ev.neg e0 (j0 _ (by simp [e0]))
end Go.Proofs.Ytjbpljcfogekhaa.Core
namespace Go.Proofs.Ytjbpljcfogekhaa.Q
open Go.RowKit Go.Proofs.YtjbpljcfogekhaaW.PrintWords Go.Proofs.YtjbpljcfogekhaaW.PrintLast Go.Proofs.YtjbpljcfogekhaaW.PrintMore
set_option linter.unusedVariables false
theorem own_is (pc : Int) (st : List Int) (hl : st.length < 17592186044416) : vm_own.f pc st = some (pc, st) := by
  simp [vm_own.f, slices_Clone_uint64_uint64.f, hl]
/-- The three blocks that Step lays first. -/
theorem three_blocks {w w4 : World} {o0 o1 o2 : Obj} (hb : Below (((w.alloc o0).alloc o1).alloc o2).heap.size (((w.alloc o0).alloc o1).alloc o2) w4) :
    w4.heap[w.heap.size]? = some o0 ∧ w4.heap[w.heap.size + 1]? = some o1 ∧ w4.heap[w.heap.size + 1 + 1]? = some o2 ∧ Below w.heap.size w w4 ∧ w.heap.size + 3 ≤ w4.heap.size := by
  have e1 : (w.alloc o0).heap.size = w.heap.size + 1 := by simp
  have e2 : ((w.alloc o0).alloc o1).heap.size = w.heap.size + 2 := by simp
  have e3 : (((w.alloc o0).alloc o1).alloc o2).heap.size = w.heap.size + 3 := by simp
  have b0 : (((w.alloc o0).alloc o1).alloc o2).heap[w.heap.size]? = some o0 := blk_alloc (blk_alloc (blk_new w o0) o1) o2
  have b1 : (((w.alloc o0).alloc o1).alloc o2).heap[w.heap.size + 1]? = some o1 := by have := blk_alloc (blk_new (w.alloc o0) o1) o2; rwa [e1] at this
  have b2 : (((w.alloc o0).alloc o1).alloc o2).heap[w.heap.size + 2]? = some o2 := by have := blk_new ((w.alloc o0).alloc o1) o2; rwa [e2] at this
  refine ⟨blk_below b0 hb, blk_below b1 hb, blk_below b2 hb, ?_, ?_⟩
  · exact below_then (below_alloc (below_alloc (below_alloc (Below.refl _ _) _) _) _) (by omega) hb
  · have := hb.size; omega
theorem cells2 {w : World} {g : Nat} {t : TypeId} {x0 x1 : Value} (h : w.heap[g]? = some (.cells #[x0, x1] t (0, 0))) :
    (w.cell? ⟨g, 0, none⟩ = some x0 ∧ w.cell? ⟨g, 1, none⟩ = some x1) ∧ w.frozen? ⟨g, 0, none⟩ = false ∧ w.frozen? ⟨g, 1, none⟩ = false :=
  ⟨⟨blk_cell h 0, blk_cell h 1⟩, blk_frozen h 0, blk_frozen h 1⟩
theorem cells4 {w : World} {g : Nat} {t : TypeId} {x0 x1 x2 x3 : Value} (h : w.heap[g]? = some (.cells #[x0, x1, x2, x3] t (0, 0))) :
    (w.cell? ⟨g, 0, none⟩ = some x0 ∧ w.cell? ⟨g, 1, none⟩ = some x1 ∧ w.cell? ⟨g, 2, none⟩ = some x2 ∧ w.cell? ⟨g, 3, none⟩ = some x3) ∧ w.frozen? ⟨g, 0, none⟩ = false ∧ w.frozen? ⟨g, 1, none⟩ = false ∧ w.frozen? ⟨g, 2, none⟩ = false ∧ w.frozen? ⟨g, 3, none⟩ = false :=
  ⟨⟨blk_cell h 0, blk_cell h 1, blk_cell h 2, blk_cell h 3⟩, blk_frozen h 0, blk_frozen h 1, blk_frozen h 2, blk_frozen h 3⟩
set_option maxHeartbeats 1000000 in
set_option maxRecDepth 100000 in
theorem step_none (k : Nat) (s : ByteArray) (pc : Int) (A : Option Addr) (c : Nat) (st : List Int) (t1 t2 t3 t4 t5 : Int) (w : World) (hr : Kd.C (Kd.int .u64) w A st.length st) (hc : st.length ≤ c) (hl : st.length < 17592186044416)
    (h : code_One.f k s pc = some (t1, t2, t3, t4, t5)) (hz : (t5 == 0) = false) (hz' : (t5 != 0) = true) :
    Calls Try.prog 45 #[.string s, .agg #[.int .i64 pc, .slice A st.length c]] w fun e w' => ∃ v1_ : Value, e = .returned (.tuple #[.agg #[.int .i64 pc, v1_], .agg #[.int .i64 4, .int .u64 0, .int .u64 0, .int .i64 0]]) ∧ Kd.R (Kd.int .u64) 34 w' w.heap.size (fun _ => True) v1_ st ∧ Below w.heap.size w w' := by
  have hu59 := Try.underlying59
  have hu61 := Try.underlying61
  have hu36 := Try.underlying36
  have HR := Aside0.mk hr
  have HC := Aside0.mk hc
  have HL := Aside0.mk hl
  have HO := Aside0.mk h
  clear hr hc hl h
  go_enter Try.func45, Try.ntmps45
  go_wp2_with (first
    | (go_at_call 20; refine (code_One.calls k s pc t1 t2 t3 t4 t5 _ HO.out).mono ?_; rintro e w4 ⟨rfl, hb⟩; obtain ⟨b0, b1, b2, hB, hz4⟩ := three_blocks hb; have z0 : w.heap.size < w4.heap.size := (by omega); have z1 : w.heap.size + 1 < w4.heap.size := (by omega); have z2 : w.heap.size + 1 + 1 < w4.heap.size := (by omega); clear hz4; obtain ⟨⟨c00, c01⟩, f00, f01⟩ := cells2 b0; obtain ⟨⟨c10, c11⟩, f10, f11⟩ := cells2 b1; obtain ⟨⟨c20, c21, c22, c23⟩, f20, f21, f22, f23⟩ := cells4 b2; have B0 := Aside0.mk b0; have B1 := Aside0.mk b1; have B2 := Aside0.mk b2; have HB := Aside0.mk hB; clear b0 b1 b2 hB hb)
    | (go_at_call 46; refine (vm_own.calls pc A c st pc st _ (Kd.C_below HR.out (below_alloc HB.out _)) HC.out (own_is _ _ HL.out)).mono ?_; rintro e w5 ⟨v1, rfl, hR, hb⟩; obtain ⟨A5, c5, rfl⟩ := Kd.R_slice hR; have b1 := blk_below (blk_alloc B1.out _) hb; have b2 := blk_below (blk_alloc B2.out _) hb; have HB5 := Aside0.mk (below_step (below_alloc HB.out _) hb); clear c00 c01 f00 f01 c10 c11 f10 f11 c20 c21 c22 c23 f20 f21 f22 f23; obtain ⟨⟨c10, c11⟩, f10, f11⟩ := cells2 b1; obtain ⟨⟨c20, c21, c22, c23⟩, f20, f21, f22, f23⟩ := cells4 b2; have B1' := Aside0.mk b1; have B2' := Aside0.mk b2; have HR5 := Aside0.mk hR; clear b1 b2 hR hb))
  refine bodyPost_ret (v := .tuple #[.agg #[.int .i64 pc, .slice A5 st.length c5], .agg #[.int .i64 4, .int .u64 0, .int .u64 0, .int .i64 0]]) (by simp [results, Try.results45, go_sem, c10, c11, c20, c21, c22, c23]) rfl ⟨_, rfl, ?_, ?_⟩
  · have h1 := Kd.R_mono (ok' := fun k => k ≠ w.heap.size + 1 ∧ k ≠ w.heap.size + 1 + 1) (Kd.R_bound HR5.out) (fun k hk => by have := hk.2.1; simp at this; omega)
    have h2 := Kd.R_lower h1 (base' := w.heap.size) (by simp; omega)
    refine Kd.R_mono (ok := fun k => k ≠ w.heap.size + 1 ∧ k ≠ w.heap.size + 1 + 1) ?_ (fun _ _ => trivial)
    iterate 4 (with_reducible refine Kd.R_far ?_ (fun k hk => hk.2) _)
    iterate 2 (with_reducible refine Kd.R_far ?_ (fun k hk => hk.1) _)
    exact h2
  · iterate 4 (with_reducible refine below_set ?_ (Nat.le_succ_of_le (Nat.le_succ _)))
    iterate 2 (with_reducible refine below_set ?_ (Nat.le_succ _))
    exact HB5.out
end Go.Proofs.Ytjbpljcfogekhaa.Q
namespace Go.Proofs.Ytjbpljcfogekhaa.Q
open Go.RowKit Go.Proofs.YtjbpljcfogekhaaW.PrintWords Go.Proofs.YtjbpljcfogekhaaW.PrintLast Go.Proofs.YtjbpljcfogekhaaW.PrintMore
attribute [local go_sem] max2_int min2_int max_two min_two max_three min_three max_four min_four
set_option linter.unusedVariables false
set_option linter.unusedSimpArgs false
def vm_flag.f (a0 : Bool) : Option (Int × Bool) := if a0 = true then (some (1, true)) else (some (0, true))
set_option maxHeartbeats 8000000 in
set_option maxRecDepth 100000 in
theorem vm_flag.calls (a0 : Bool) (r1 : Int) (r2 : Bool) (w : World) (h : vm_flag.f a0 = some (r1, r2)) :
  Calls Try.prog 51 #[.bool a0] w fun e w' => e = .returned (.tuple #[.int .u64 r1, .bool r2]) ∧ Drawn0 w w' := by
 have H : (if a0 = true then (some (1, true)) else (some (0, true))) = some (r1, r2) := h
 clear h
 by_cases c2 : a0 = true
 ·subst c2
  have H1 : (some (1, true)) = some (r1, r2) := by rw [if_pos rfl] at H; exact H
  clear H
  have H := H1
  clear H1
  simp only [Option.some.injEq, Prod.mk.injEq] at H
  obtain ⟨rfl, rfl⟩ := H
  go_enter Try.func51, Try.ntmps51
  go_wp2
  go_ret2
  exact ⟨by first | rfl | (simp; done) | (simp [*]; done) | (simp; unfold wrap64; omega), by repeat (first | exact Drawn0.refl _ | apply Drawn0.step)⟩
 ·replace c2 := Bool.eq_false_iff.mpr c2
  subst c2
  have H1 : (some (0, true)) = some (r1, r2) := by rw [if_neg (show ¬ (false = true) by decide)] at H; exact H
  clear H
  have H := H1
  clear H1
  simp only [Option.some.injEq, Prod.mk.injEq] at H
  obtain ⟨rfl, rfl⟩ := H
  go_enter Try.func51, Try.ntmps51
  go_wp2
  go_ret2
  exact ⟨by first | rfl | (simp; done) | (simp [*]; done) | (simp; unfold wrap64; omega), by repeat (first | exact Drawn0.refl _ | apply Drawn0.step)⟩
end Go.Proofs.Ytjbpljcfogekhaa.Q
namespace Go.Proofs.Ytjbpljcfogekhaa.Q
open Go.RowKit Go.Proofs.YtjbpljcfogekhaaW.PrintWords Go.Proofs.YtjbpljcfogekhaaW.PrintLast Go.Proofs.YtjbpljcfogekhaaW.PrintMore
set_option linter.unusedVariables false
set_option maxHeartbeats 1000000 in
set_option maxRecDepth 100000 in
/-- push(l...): the row in the captured machine grows by l; nothing else of what was there turns, but that row's own block. -/
theorem push_any (g base : Nat) (pc : Int) (v : Value) (xs ys : List Int) (A : Option Addr) (c : Nat) (w0 w : World)
    (hg : w.heap[g]? = some (.cells #[.int .i64 pc, v] 59 (0, 0))) (hv : Kd.R (Kd.int .u64) 34 w base (fun _ => True) v xs) (hy : Kd.C (Kd.int .u64) w A ys.length ys) (hB : Below base w0 w) (hbase : base ≤ w.heap.size) (hl : xs.length + ys.length < 1000000) :
    Calls Try.prog 50 #[.slice A ys.length c, .pointer (some ⟨g, 0, none⟩)] w fun e w' => e = .returned (.tuple #[]) ∧ ∃ v1, w'.heap[g]? = some (.cells #[.int .i64 pc, v1] 59 (0, 0)) ∧ Kd.R (Kd.int .u64) 34 w' base (fun _ => True) v1 (xs ++ ys) ∧
      w'.os = w.os ∧ w'.tape = w.tape ∧ w'.output = w.output ∧ w.heap.size ≤ w'.heap.size ∧ (∀ k, k < w.heap.size → k ≠ g → some k ≠ v.ownBlock → w'.heap[k]? = w.heap[k]?) := by
  have hu59 := Try.underlying59
  have hu57 := Try.underlying57
  obtain ⟨A0, c0, rfl⟩ := Kd.R_slice hv
  obtain ⟨⟨c00, c01⟩, f00, f01⟩ := cells2 hg
  have HG := Aside0.mk hg
  have HV := Aside0.mk hv
  have HY := Aside0.mk hy
  have HB := Aside0.mk hB
  have HBS := Aside0.mk hbase
  have HL := Aside0.mk hl
  clear hg hv hy hB hbase hl
  go_enter Try.func50, Try.ntmps50
  go_wp2_with (first
    | ((with_reducible refine gate_builtin (b := .append) (xs := #[.tmp 4, .tmp 5]) rfl ?_); at_builtin; refine Kd.R_append_row (Value.int .u64) 0 (h1 := fun _ => rfl) (w0 := w0) base rfl (.tmp 4) (.tmp 5) 57 34 (.int .u64 0) 8 rfl Try.underlying57 clone_info34 rfl (by omega) (.slice A0 xs.length c0) xs ys A ys.length c (fun _ => True) rfl rfl (fun _ _ => trivial) HV.out HY.out HB.out HBS.out (by have := HL.out; omega) ?_; intro v1 w1 hR hB2 hg2 hat2; obtain ⟨A1, c1, rfl⟩ := Kd.R_slice hR; have e1 := blk_grown HG.out hg2 (Kd.R_ne HV.out HG.out (by decide)); clear c00 c01 f00 f01; obtain ⟨⟨c00, c01⟩, f00, f01⟩ := cells2 e1; have HE := Aside0.mk e1; have HR := Aside0.mk hR; have HG2 := Aside0.mk hg2; have HB2 := Aside0.mk hB2; clear e1 hR hg2 hB2 hat2))
  go_end0
  have hne := Kd.R_ne HR.out HE.out (by decide)
  refine ⟨rfl, .slice A1 (xs ++ ys).length c1, ?_, ?_, ?_, ?_, ?_, ?_, ?_⟩
  · exact blk_put HE.out 1 _ (by simp)
  · refine Kd.R_mono (Kd.R_far (p := ⟨g, 1, none⟩) (Kd.R_mono (ok' := fun k => k ≠ g) (Kd.R_tight rfl HR.out) (fun k hk => ?_)) (fun _ hk => hk) _) (fun _ _ => trivial)
    rintro rfl
    exact hne hk
  · exact HG2.out.os
  · exact HG2.out.tape
  · exact HG2.out.output
  · have := HG2.out.size; simpa [World.setCell] using this
  · intro k hk h1 h2
    rw [Below.heap_setCell _ _ _ _ h1]
    exact HG2.out.block k hk h2
def fnOf (op : Int) : Nat := if op = 6 then 53 else if op = 7 then 54 else if op = 8 then 55 else if op = 9 then 56 else if op = 10 then 57 else if op = 11 then 58 else if op = 12 then 59 else if op = 13 then 60 else if op = 14 then 61 else if op = 15 then 62 else if op = 16 then 63 else 64
set_option maxHeartbeats 4000000 in
set_option maxRecDepth 100000 in
theorem find_any (op : Int) (h0 : 6 ≤ op) (h1 : op ≤ 17) (w : World) :
    Calls Try.prog 52 #[.int .i64 op] w fun e w' => e = .returned (.agg #[.func (Fn.func (fnOf op)) #[] #[]]) ∧ Below w.heap.size w w' := by
  have hu91 := Try.underlying91
  have h : op = 6 ∨ op = 7 ∨ op = 8 ∨ op = 9 ∨ op = 10 ∨ op = 11 ∨ op = 12 ∨ op = 13 ∨ op = 14 ∨ op = 15 ∨ op = 16 ∨ op = 17 := by omega
  clear h0 h1
  rcases h with rfl | rfl | rfl | rfl | rfl | rfl | rfl | rfl | rfl | rfl | rfl | rfl
  all_goals
    go_enter Try.func52, Try.ntmps52
    go_wp2
    exact bodyPost_ret (v := .agg #[.func (Fn.func (fnOf _)) #[] #[]]) (by simp [results, Try.results52, go_sem]; rfl) rfl ⟨rfl, below_alloc (Below.refl _ _) _⟩
def binY (op a b : Int) : Int :=
  if op = 6 then IntKind.u64.wrap (a + b) else if op = 7 then IntKind.u64.wrap (a - b) else if op = 8 then IntKind.u64.wrap (a * b)
  else if op = 9 then a / mx b 1 else if op = 10 then a % mx b 1 else if op = 11 then Go.bits .and .u64 a b else if op = 12 then Go.bits .or .u64 a b else if op = 13 then Go.bits .xor .u64 a b
  else if op = 14 then shl .u64 a b else if op = 15 then shr .u64 a b else if op = 16 then (if a < b then 1 else 0) else (if a = b then 1 else 0)
def binOk (op b : Int) : Bool := if op = 9 then decide (0 < b) else if op = 10 then decide (0 < b) else true
theorem mx_one {b : Int} (hb : 0 ≤ b) (h : ¬ 1 < b) : mx b 1 = 1 := by unfold mx; split <;> omega
theorem mx_self {b : Int} (h : 1 ≤ b) : mx b 1 = b := by unfold mx; split <;> omega
theorem ret2_int {a b : Int} {x y : Bool} (h : a = b) (g : x = y) : Ending.returned (.tuple #[.int .u64 a, .bool x]) = .returned (.tuple #[.int .u64 b, .bool y]) := by rw [h, g]
set_option maxHeartbeats 4000000 in
set_option maxRecDepth 100000 in
theorem bin_any (op : Int) (h0 : 6 ≤ op) (h1 : op ≤ 17) (a b : Int) (ha : 0 ≤ a) (ha' : a < 18446744073709551616) (hb : 0 ≤ b) (hb' : b < 18446744073709551616) (w : World) :
    Calls Try.prog (fnOf op) #[.int .u64 a, .int .u64 b] w fun e w' => e = .returned (.tuple #[.int .u64 (binY op a b), .bool (binOk op b)]) ∧ Below w.heap.size w w' := by
  have h : op = 6 ∨ op = 7 ∨ op = 8 ∨ op = 9 ∨ op = 10 ∨ op = 11 ∨ op = 12 ∨ op = 13 ∨ op = 14 ∨ op = 15 ∨ op = 16 ∨ op = 17 := by omega
  clear h0 h1
  rcases h with rfl | rfl | rfl | rfl | rfl | rfl | rfl | rfl | rfl | rfl | rfl | rfl
  · show Calls Try.prog 53 _ _ _
    go_enter Try.func53, Try.ntmps53
    go_wp2
    go_ret2
    exact ⟨rfl, Below.refl _ _⟩
  · show Calls Try.prog 54 _ _ _
    go_enter Try.func54, Try.ntmps54
    go_wp2
    go_ret2
    exact ⟨rfl, Below.refl _ _⟩
  · show Calls Try.prog 55 _ _ _
    go_enter Try.func55, Try.ntmps55
    go_wp2
    go_ret2
    exact ⟨rfl, Below.refl _ _⟩
  · show Calls Try.prog 56 _ _ _
    go_enter Try.func56, Try.ntmps56
    go_wp2
    · have e : mx b 1 = 1 := mx_one hb (by omega)
      go_ret2
      exact ⟨ret2_int (by show _ = a / mx b 1; rw [e]; rw [Int.ediv_one]) rfl, Below.refl _ _⟩
    · have e : mx b 1 = b := mx_self (by omega)
      go_ret2
      exact ⟨ret2_int (by show _ = a / mx b 1; rw [e]) rfl, Below.refl _ _⟩
  · show Calls Try.prog 57 _ _ _
    go_enter Try.func57, Try.ntmps57
    go_wp2
    · have e : mx b 1 = 1 := mx_one hb (by omega)
      go_ret2
      exact ⟨ret2_int (by show _ = a % mx b 1; rw [e]; rw [Int.emod_one]) rfl, Below.refl _ _⟩
    · have e : mx b 1 = b := mx_self (by omega)
      go_ret2
      exact ⟨ret2_int (by show _ = a % mx b 1; rw [e]) rfl, Below.refl _ _⟩
  · show Calls Try.prog 58 _ _ _
    go_enter Try.func58, Try.ntmps58
    go_wp2
    go_ret2
    exact ⟨rfl, Below.refl _ _⟩
  · show Calls Try.prog 59 _ _ _
    go_enter Try.func59, Try.ntmps59
    go_wp2
    go_ret2
    exact ⟨rfl, Below.refl _ _⟩
  · show Calls Try.prog 60 _ _ _
    go_enter Try.func60, Try.ntmps60
    go_wp2
    go_ret2
    exact ⟨rfl, Below.refl _ _⟩
  · show Calls Try.prog 61 _ _ _
    go_enter Try.func61, Try.ntmps61
    go_wp2
    go_ret2
    exact ⟨rfl, Below.refl _ _⟩
  · show Calls Try.prog 62 _ _ _
    go_enter Try.func62, Try.ntmps62
    go_wp2
    go_ret2
    exact ⟨rfl, Below.refl _ _⟩
  · show Calls Try.prog 63 _ _ _
    by_cases hh : a < b
    · have hq : decide (a < b) = true := decide_eq_true hh
      have e : binY 16 a b = 1 := if_pos hh
      rw [e]
      clear hh e
      go_enter Try.func63, Try.ntmps63
      go_wp2_with (go_at_call 51; refine (vm_flag.calls true 1 true _ rfl).mono ?_; rintro e w1 ⟨rfl, hd⟩)
      go_ret2
      exact ⟨rfl, hd.below⟩
    · have hq : decide (a < b) = false := decide_eq_false hh
      have e : binY 16 a b = 0 := if_neg hh
      rw [e]
      clear hh e
      go_enter Try.func63, Try.ntmps63
      go_wp2_with (go_at_call 51; refine (vm_flag.calls false 0 true _ rfl).mono ?_; rintro e w1 ⟨rfl, hd⟩)
      go_ret2
      exact ⟨rfl, hd.below⟩
  · show Calls Try.prog 64 _ _ _
    by_cases hh : a = b
    · have hq : (a == b) = true := beq_iff_eq.mpr hh
      have e : binY 17 a b = 1 := if_pos hh
      rw [e]
      clear hh e
      go_enter Try.func64, Try.ntmps64
      go_wp2_with (go_at_call 51; refine (vm_flag.calls true 1 true _ rfl).mono ?_; rintro e w1 ⟨rfl, hd⟩)
      go_ret2
      exact ⟨rfl, hd.below⟩
    · have hq : (a == b) = false := beq_eq_false_iff_ne.mpr hh
      have e : binY 17 a b = 0 := if_neg hh
      rw [e]
      clear hh e
      go_enter Try.func64, Try.ntmps64
      go_wp2_with (go_at_call 51; refine (vm_flag.calls false 0 true _ rfl).mono ?_; rintro e w1 ⟨rfl, hd⟩)
      go_ret2
      exact ⟨rfl, hd.below⟩
end Go.Proofs.Ytjbpljcfogekhaa.Q
namespace Go.Proofs.Ytjbpljcfogekhaa.Core
open Go.RowKit Go.Proofs.Ytjbpljcfogekhaa.Q Go.Proofs.YtjbpljcfogekhaaW.PrintWords Go.Proofs.YtjbpljcfogekhaaW.PrintLast Go.Proofs.YtjbpljcfogekhaaW.PrintMore
abbrev StepT := Int × List Int × Int × Int × Int × Int
def doS (op arg npc pc : Int) (st bs : List Int) : List Int → StepT
  | [] => if op = 21 then (wrap64 arg, bs, 0, 0, 0, 0) else (npc, bs ++ [arg], 0, 0, 0, 0)
  | [x0] =>
    if op = 2 then (npc, bs ++ [x0, x0], 0, 0, 0, 0) else if op = 3 then (npc, bs, 0, 0, 0, 0) else if op = 18 then (npc, bs ++ [if x0 = 0 then 1 else 0], 0, 0, 0, 0)
    else if op = 19 then (npc, bs, 1, x0, 0, 0) else (if x0 = 0 then wrap64 arg else npc, bs, 0, 0, 0, 0)
  | x0 :: x1 :: _ =>
    if op = 4 then (npc, bs ++ [x1, x0], 0, 0, 0, 0) else if op = 5 then (npc, bs ++ [x0, x1, x0], 0, 0, 0, 0) else if op = 20 then (npc, bs, 2, x1, x0, 0)
    else if binOk op x1 = true then (npc, bs ++ [binY op x0 x1], 0, 0, 0, 0) else (pc, st, 4, 0, 0, 0)
def stepS (s : ByteArray) (pc : Int) (st : List Int) : StepT :=
  if (oneS s pc).2.2.2.2 ≠ 0 then (pc, st, 4, 0, 0, 0)
  else if (oneS s pc).1 = 23 then (pc, st, 3, 0, 0, wrap64 (oneS s pc).2.1)
  else if (st.length : Int) - (movesS (oneS s pc).1 (oneS s pc).2.1).1 < 0 ∨ 32 < (st.length : Int) - (movesS (oneS s pc).1 (oneS s pc).2.1).1 + (movesS (oneS s pc).1 (oneS s pc).2.1).2 then (pc, st, 4, 0, 0, 0)
  else doS (oneS s pc).1 (oneS s pc).2.1 (wrap64 (pc + (oneS s pc).2.2.2.1)) pc st (st.take (st.length - (movesS (oneS s pc).1 (oneS s pc).2.1).1.toNat)) (st.drop (st.length - (movesS (oneS s pc).1 (oneS s pc).2.1).1.toNat))
theorem oneS_ok {s : ByteArray} {pc : Int} (h : (oneS s pc).2.2.2.2 = 0) : 0 ≤ pc ∧ pc < s.size ∧ 0 ≤ (oneS s pc).1 ∧ (oneS s pc).1 ≤ 23 ∧ 0 ≤ opw (oneS s pc).1 ∧ 0 ≤ (oneS s pc).2.1 ∧ (oneS s pc).2.1 < 256 ^ (opw (oneS s pc).1).toNat ∧ (oneS s pc).2.2.1 = pc ∧ (oneS s pc).2.2.2.1 = 1 + opw (oneS s pc).1 ∧ pc + (oneS s pc).2.2.2.1 ≤ s.size := by
  unfold oneS at h ⊢
  split at h
  · simp at h
  · rename_i h1
    split at h
    · simp at h
    · rename_i h2
      rw [if_neg h1, if_neg h2]
      have ho := opw_op (op := bt s pc) (by omega)
      have hr := leN_range _ (bytesAt_range s (opw (bt s pc)).toNat (pc + 1))
      rw [bytesAt_length] at hr
      refine ⟨by omega, by omega, ho.1, ho.2, (by show 0 ≤ opw (bt s pc); omega), hr.1, hr.2, rfl, rfl, ?_⟩
      show pc + (1 + opw (bt s pc)) ≤ (s.size : Int)
      omega
theorem moves_op {op arg : Int} (h0 : 0 ≤ op) (h1 : op ≤ 22) : (movesS op arg = (0, 1) ∧ (op = 0 ∨ op = 1)) ∨ (movesS op arg = (1, 2) ∧ op = 2) ∨ (movesS op arg = (1, 0) ∧ (op = 3 ∨ op = 22)) ∨ (movesS op arg = (2, 2) ∧ op = 4) ∨ (movesS op arg = (2, 3) ∧ op = 5) ∨
    (movesS op arg = (1, 1) ∧ (op = 18 ∨ op = 19)) ∨ (movesS op arg = (2, 0) ∧ op = 20) ∨ (movesS op arg = (0, 0) ∧ op = 21) ∨ (movesS op arg = (2, 1) ∧ 6 ≤ op ∧ op ≤ 17) := by
  have h : op = 0 ∨ op = 1 ∨ op = 2 ∨ op = 3 ∨ op = 4 ∨ op = 5 ∨ (6 ≤ op ∧ op ≤ 17) ∨ op = 18 ∨ op = 19 ∨ op = 20 ∨ op = 21 ∨ op = 22 := by omega
  rcases h with rfl | rfl | rfl | rfl | rfl | rfl | h | rfl | rfl | rfl | rfl | rfl
  · exact .inl ⟨rfl, .inl rfl⟩
  · exact .inl ⟨rfl, .inr rfl⟩
  · exact .inr (.inl ⟨rfl, rfl⟩)
  · exact .inr (.inr (.inl ⟨rfl, .inl rfl⟩))
  · exact .inr (.inr (.inr (.inl ⟨rfl, rfl⟩)))
  · exact .inr (.inr (.inr (.inr (.inl ⟨rfl, rfl⟩))))
  · refine .inr (.inr (.inr (.inr (.inr (.inr (.inr (.inr ⟨?_, h⟩)))))))
    unfold movesS
    rw [if_neg (by omega), if_neg (by omega), if_neg (by omega), if_neg (by omega), if_neg (by omega), if_neg (by omega), if_neg (by omega), if_neg (by omega), if_neg (by omega), if_neg (by omega), if_neg (by omega), if_neg (by omega), if_pos h.1, if_pos h.2]
  · exact .inr (.inr (.inr (.inr (.inr (.inl ⟨rfl, .inl rfl⟩)))))
  · exact .inr (.inr (.inr (.inr (.inr (.inl ⟨rfl, .inr rfl⟩)))))
  · exact .inr (.inr (.inr (.inr (.inr (.inr (.inl ⟨rfl, rfl⟩))))))
  · exact .inr (.inr (.inr (.inr (.inr (.inr (.inr (.inl ⟨rfl, rfl⟩)))))))
  · exact .inr (.inr (.inl ⟨rfl, .inr rfl⟩))
end Go.Proofs.Ytjbpljcfogekhaa.Core
namespace Go.Proofs.Ytjbpljcfogekhaa.Q
open Go.RowKit Go.Proofs.YtjbpljcfogekhaaW.PrintWords Go.Proofs.YtjbpljcfogekhaaW.PrintLast Go.Proofs.YtjbpljcfogekhaaW.PrintMore
set_option linter.unusedVariables false
set_option maxHeartbeats 2000000 in
set_option maxRecDepth 100000 in
theorem step_sys (k : Nat) (s : ByteArray) (pc : Int) (A : Option Addr) (c : Nat) (st : List Int) (t2 t3 t4 : Int) (w : World) (hr : Kd.C (Kd.int .u64) w A st.length st) (hc : st.length ≤ c) (hl : st.length < 17592186044416)
    (h : code_One.f k s pc = some (23, t2, t3, t4, 0)) :
    Calls Try.prog 45 #[.string s, .agg #[.int .i64 pc, .slice A st.length c]] w fun e w' => ∃ v1_ : Value, e = .returned (.tuple #[.agg #[.int .i64 pc, v1_], .agg #[.int .i64 3, .int .u64 0, .int .u64 0, .int .i64 (wrap64 t2)]]) ∧ Kd.R (Kd.int .u64) 34 w' w.heap.size (fun _ => True) v1_ st ∧ Below w.heap.size w w' := by
  have hu59 := Try.underlying59
  have hu61 := Try.underlying61
  have hu36 := Try.underlying36
  have HR := Aside0.mk hr
  have HC := Aside0.mk hc
  have HL := Aside0.mk hl
  have HO := Aside0.mk h
  clear hr hc hl h
  go_enter Try.func45, Try.ntmps45
  go_wp2_with (first
    | (go_at_call 20; refine (code_One.calls k s pc 23 t2 t3 t4 0 _ HO.out).mono ?_; rintro e w4 ⟨rfl, hb⟩; obtain ⟨b0, b1, b2, hB, hz4⟩ := three_blocks hb; have z0 : w.heap.size < w4.heap.size := (by omega); have z1 : w.heap.size + 1 < w4.heap.size := (by omega); have z2 : w.heap.size + 1 + 1 < w4.heap.size := (by omega); clear hz4; obtain ⟨⟨c00, c01⟩, f00, f01⟩ := cells2 b0; obtain ⟨⟨c10, c11⟩, f10, f11⟩ := cells2 b1; obtain ⟨⟨c20, c21, c22, c23⟩, f20, f21, f22, f23⟩ := cells4 b2; have B0 := Aside0.mk b0; have B1 := Aside0.mk b1; have B2 := Aside0.mk b2; have HB := Aside0.mk hB; clear b0 b1 b2 hB hb))
  go_region_with (go_at_call 46; refine (vm_own.calls pc A c st pc st _ (Kd.C_below HR.out (by repeat (first | (with_reducible exact HB.out) | (with_reducible apply below_alloc) | (with_reducible apply below_drew)))) HC.out (own_is _ _ HL.out)).mono ?_; rintro e w5 ⟨v1, rfl, hR, hb⟩; obtain ⟨A5, c5, rfl⟩ := Kd.R_slice hR; have b1 := blk_below (blk_drew (blk_alloc B1.out _)) hb; have b2 := blk_below (blk_drew (blk_alloc B2.out _)) hb; have b6 := blk_below (blk_drew (blk_new w4 _)) hb; have HB5 := Aside0.mk (below_step (below_drew (below_alloc HB.out _)) hb); clear c00 c01 f00 f01 c10 c11 f10 f11 c20 c21 c22 c23 f20 f21 f22 f23; obtain ⟨⟨c10, c11⟩, f10, f11⟩ := cells2 b1; obtain ⟨⟨c20, c21, c22, c23⟩, f20, f21, f22, f23⟩ := cells4 b2; obtain ⟨⟨c60, c61, c62, c63⟩, f60, f61, f62, f63⟩ := cells4 b6; have HR5 := Aside0.mk hR; clear b1 b2 b6 hR hb)
  all_goals
    go_wp2
    refine bodyPost_ret (v := .tuple #[.agg #[.int .i64 pc, .slice A5 st.length c5], .agg #[.int .i64 3, .int .u64 0, .int .u64 0, .int .i64 (wrap64 t2)]]) (by simp [results, Try.results45, go_sem, c10, c11, c20, c21, c22, c23, i64_w]) rfl ⟨_, rfl, ?_, ?_⟩
    · have h1 := Kd.R_mono (ok' := fun k => k ≠ w.heap.size + 1 ∧ k ≠ w.heap.size + 1 + 1) (Kd.R_bound HR5.out) (fun k hk => by have := hk.2.1; simp at this; omega)
      have h2 := Kd.R_lower h1 (base' := w.heap.size) (by simp; omega)
      refine Kd.R_mono (ok := fun k => k ≠ w.heap.size + 1 ∧ k ≠ w.heap.size + 1 + 1) ?_ (fun _ _ => trivial)
      iterate 4 (with_reducible refine Kd.R_far ?_ (fun k hk => hk.2) _)
      iterate 2 (with_reducible refine Kd.R_far ?_ (fun k hk => hk.1) _)
      exact h2
    · iterate 4 (with_reducible refine below_set ?_ (Nat.le_succ_of_le (Nat.le_succ _)))
      iterate 2 (with_reducible refine below_set ?_ (Nat.le_succ _))
      exact HB5.out
end Go.Proofs.Ytjbpljcfogekhaa.Q
namespace Go.Proofs.Ytjbpljcfogekhaa.Q
open Go.RowKit Go.Proofs.YtjbpljcfogekhaaW.PrintWords Go.Proofs.YtjbpljcfogekhaaW.PrintLast Go.Proofs.YtjbpljcfogekhaaW.PrintMore
set_option linter.unusedVariables false
set_option maxHeartbeats 2000000 in
set_option maxRecDepth 100000 in
theorem step_fault (k : Nat) (s : ByteArray) (pc : Int) (A : Option Addr) (c : Nat) (st : List Int) (op t2 t3 t4 p q : Int) (w : World) (hr : Kd.C (Kd.int .u64) w A st.length st) (hc : st.length ≤ c) (hl : st.length < 1000000)
    (h : code_One.f k s pc = some (op, t2, t3, t4, 0)) (hop : (op == 23) = false) (h2 : code_Moves.f k op t2 t3 t4 = some (p, q)) (hp0 : 0 ≤ p) (hp1 : p ≤ 10) (hq0 : 0 ≤ q) (hq1 : q ≤ 10) (hbad : (st.length : Int) - p < 0 ∨ 0 ≤ (st.length : Int) - p ∧ 32 < (st.length : Int) - p + q) :
    Calls Try.prog 45 #[.string s, .agg #[.int .i64 pc, .slice A st.length c]] w fun e w' => ∃ v1_ : Value, e = .returned (.tuple #[.agg #[.int .i64 pc, v1_], .agg #[.int .i64 4, .int .u64 0, .int .u64 0, .int .i64 0]]) ∧ Kd.R (Kd.int .u64) 34 w' w.heap.size (fun _ => True) v1_ st ∧ Below w.heap.size w w' := by
  have hu59 := Try.underlying59
  have hu61 := Try.underlying61
  have hu36 := Try.underlying36
  have HR := Aside0.mk hr
  have HC := Aside0.mk hc
  have HL := Aside0.mk (show st.length < 17592186044416 by omega)
  have HO := Aside0.mk h
  have HM := Aside0.mk h2
  clear hr hc h h2
  rcases hbad with hbad | ⟨hbad0, hbad⟩
  all_goals
    go_enter Try.func45, Try.ntmps45
    go_wp2_with (first
      | (go_at_call 20; refine (code_One.calls k s pc op t2 t3 t4 0 _ HO.out).mono ?_; rintro e w4 ⟨rfl, hb⟩; obtain ⟨b0, b1, b2, hB, hz4⟩ := three_blocks hb; have z0 : w.heap.size < w4.heap.size := (by omega); have z1 : w.heap.size + 1 < w4.heap.size := (by omega); have z2 : w.heap.size + 1 + 1 < w4.heap.size := (by omega); clear hz4; obtain ⟨⟨c00, c01⟩, f00, f01⟩ := cells2 b0; obtain ⟨⟨c10, c11⟩, f10, f11⟩ := cells2 b1; obtain ⟨⟨c20, c21, c22, c23⟩, f20, f21, f22, f23⟩ := cells4 b2; have B0 := Aside0.mk b0; have B1 := Aside0.mk b1; have B2 := Aside0.mk b2; have HB := Aside0.mk hB; clear b0 b1 b2 hB hb)
      | (go_at_call 23; refine (code_Moves.calls k op t2 t3 t4 p q _ HM.out).mono ?_; rintro e w5 ⟨rfl, hb⟩; have b0 := blk_below (blk_alloc B0.out _) hb; have b1 := blk_below (blk_alloc B1.out _) hb; have b2 := blk_below (blk_alloc B2.out _) hb; have b6 := blk_below (blk_new w4 _) hb; have HB5 := Aside0.mk (below_step (below_alloc HB.out _) hb); have y6 : w4.heap.size < w5.heap.size := (blk_lt b6); have y0 : w.heap.size < w5.heap.size := (blk_lt b0); have y1 : w.heap.size + 1 < w5.heap.size := (blk_lt b1); have y2 : w.heap.size + 1 + 1 < w5.heap.size := (blk_lt b2); clear c00 c01 f00 f01 c10 c11 f10 f11 c20 c21 c22 c23 f20 f21 f22 f23; obtain ⟨⟨c00, c01⟩, f00, f01⟩ := cells2 b0; obtain ⟨⟨c10, c11⟩, f10, f11⟩ := cells2 b1; obtain ⟨⟨c20, c21, c22, c23⟩, f20, f21, f22, f23⟩ := cells4 b2; obtain ⟨⟨c60, c61, c62, c63⟩, f60, f61, f62, f63⟩ := cells4 b6; have B0' := Aside0.mk b0; have B1' := Aside0.mk b1; have B2' := Aside0.mk b2; have B6' := Aside0.mk b6; clear b0 b1 b2 b6 hb)
      | (go_at_call 46; refine (vm_own.calls pc A c st pc st _ (Kd.C_below HR.out HB5.out) HC.out (own_is _ _ HL.out)).mono ?_; rintro e w6 ⟨v1, rfl, hR, hb⟩; obtain ⟨A5, c5, rfl⟩ := Kd.R_slice hR; have b1 := blk_below B1'.out hb; have b2 := blk_below B2'.out hb; have HB6 := Aside0.mk (below_step HB5.out hb); clear c00 c01 f00 f01 c10 c11 f10 f11 c20 c21 c22 c23 f20 f21 f22 f23 c60 c61 c62 c63 f60 f61 f62 f63; obtain ⟨⟨c10, c11⟩, f10, f11⟩ := cells2 b1; obtain ⟨⟨c20, c21, c22, c23⟩, f20, f21, f22, f23⟩ := cells4 b2; have HR5 := Aside0.mk hR; clear b1 b2 hR hb))
    refine bodyPost_ret (v := .tuple #[.agg #[.int .i64 pc, .slice A5 st.length c5], .agg #[.int .i64 4, .int .u64 0, .int .u64 0, .int .i64 0]]) (by simp [results, Try.results45, go_sem, c10, c11, c20, c21, c22, c23]) rfl ⟨_, rfl, ?_, ?_⟩
    · have h1 := Kd.R_mono (ok' := fun k => k ≠ w.heap.size + 1 ∧ k ≠ w.heap.size + 1 + 1) (Kd.R_bound HR5.out) (fun k hk => by have := hk.2.1; omega)
      have h2 := Kd.R_lower h1 (base' := w.heap.size) (by omega)
      refine Kd.R_mono (ok := fun k => k ≠ w.heap.size + 1 ∧ k ≠ w.heap.size + 1 + 1) ?_ (fun _ _ => trivial)
      iterate 4 (with_reducible refine Kd.R_far ?_ (fun k hk => hk.2) _)
      iterate 2 (with_reducible refine Kd.R_far ?_ (fun k hk => hk.1) _)
      exact h2
    · iterate 4 (with_reducible refine below_set ?_ (Nat.le_succ_of_le (Nat.le_succ _)))
      iterate 2 (with_reducible refine below_set ?_ (Nat.le_succ _))
      exact HB6.out
end Go.Proofs.Ytjbpljcfogekhaa.Q
namespace Go.Proofs.Ytjbpljcfogekhaa.Q
open Go.RowKit Go.Proofs.YtjbpljcfogekhaaW.PrintWords Go.Proofs.YtjbpljcfogekhaaW.PrintLast Go.Proofs.YtjbpljcfogekhaaW.PrintMore
set_option linter.unusedVariables false
/-- Behind the making of the new machine. -/
structure StepMid (w wc : World) (g6 g : Nat) (pc : Int) (A : Option Addr) (len c : Nat) (op t2 t3 t4 npc : Int) (vv : Value) (bs : List Int) : Prop where
  b0 : wc.heap[w.heap.size]? = some (.cells #[.int .i64 pc, .slice A len c] 59 (0, 0))
  b1 : wc.heap[w.heap.size + 1]? = some (.cells #[.int .i64 0, .slice none 0 0] 59 (0, 0))
  b2 : wc.heap[w.heap.size + 1 + 1]? = some (.cells #[.int .i64 0, .int .u64 0, .int .u64 0, .int .i64 0] 61 (0, 0))
  b6 : wc.heap[g6]? = some (.cells #[.int .i64 op, .int .u64 t2, .int .i64 t3, .int .i64 t4] 36 (0, 0))
  bg : wc.heap[g]? = some (.cells #[.int .i64 npc, vv] 59 (0, 0))
  row : Kd.R (Kd.int .u64) 34 wc w.heap.size (fun _ => True) vv bs
  bel : Below w.heap.size w wc
  n6 : w.heap.size + 1 + 1 < g6
  ng : g6 < g
theorem mid_new {w w5 w6 : World} {g6 b' : Nat} {pc op t2 t3 t4 npc : Int} {A : Option Addr} {len c : Nat} {vv : Value} {bs : List Int}
    (e0 : w6.heap[w.heap.size]? = some (.cells #[.int .i64 pc, .slice A len c] 59 (0, 0))) (e1 : w6.heap[w.heap.size + 1]? = some (.cells #[.int .i64 0, .slice none 0 0] 59 (0, 0)))
    (e2 : w6.heap[w.heap.size + 1 + 1]? = some (.cells #[.int .i64 0, .int .u64 0, .int .u64 0, .int .i64 0] 61 (0, 0))) (e6 : w6.heap[g6]? = some (.cells #[.int .i64 op, .int .u64 t2, .int .i64 t3, .int .i64 t4] 36 (0, 0)))
    (er : Kd.R (Kd.int .u64) 34 w6 b' (fun _ => True) vv bs) (hb' : w.heap.size ≤ b') (b5 : Below w.heap.size w w5) (b6 : Below w5.heap.size w5 w6) (n6 : w.heap.size + 1 + 1 < g6) :
    StepMid w (w6.alloc (.cells #[.int .i64 npc, vv] 59)) g6 w6.heap.size pc A len c op t2 t3 t4 npc vv bs :=
  ⟨blk_alloc e0 _, blk_alloc e1 _, blk_alloc e2 _, blk_alloc e6 _, blk_new w6 _, Kd.R_alloc (Kd.R_lower er hb') _, below_alloc (below_step b5 b6) _, n6, blk_lt e6⟩
theorem mid_old {w w5 w6 : World} {g6 b' : Nat} {pc op t2 t3 t4 npc : Int} {A : Option Addr} {len c : Nat} {vv : Value} {bs : List Int}
    (e0 : w6.heap[w.heap.size]? = some (.cells #[.int .i64 pc, .slice A len c] 59 (0, 0))) (e1 : w6.heap[w.heap.size + 1]? = some (.cells #[.int .i64 0, .slice none 0 0] 59 (0, 0)))
    (e2 : w6.heap[w.heap.size + 1 + 1]? = some (.cells #[.int .i64 0, .int .u64 0, .int .u64 0, .int .i64 0] 61 (0, 0))) (e6 : w6.heap[g6]? = some (.cells #[.int .i64 op, .int .u64 t2, .int .i64 t3, .int .i64 t4] 36 (0, 0)))
    (e11 : w6.heap[w5.heap.size]? = some (.cells #[.int .i64 0, .slice none 0 0] 59 (0, 0)))
    (er : Kd.R (Kd.int .u64) 34 w6 b' (fun _ => True) vv bs) (hb' : w5.heap.size < b') (b5 : Below w.heap.size w w5) (b6 : Below w5.heap.size w5 w6) (n6 : w.heap.size + 1 + 1 < g6) (y6 : g6 < w5.heap.size) :
    StepMid w ((w6.setCell ⟨w5.heap.size, 0, none⟩ (.int .i64 npc)).setCell ⟨w5.heap.size, 1, none⟩ vv) g6 w5.heap.size pc A len c op t2 t3 t4 npc vv bs := by
  have far : ∀ (k : Nat) (o : Obj), k ≠ w5.heap.size → w6.heap[k]? = some o → ((w6.setCell ⟨w5.heap.size, 0, none⟩ (.int .i64 npc)).setCell ⟨w5.heap.size, 1, none⟩ vv).heap[k]? = some o := by
    intro k o hk h
    rw [Below.heap_setCell _ _ _ _ hk, Below.heap_setCell _ _ _ _ hk]
    exact h
  have hs := b5.size
  refine ⟨far _ _ (by omega) e0, far _ _ (by omega) e1, far _ _ (by omega) e2, far _ _ (by omega) e6, blk_put (blk_put e11 0 _ rfl) 1 _ rfl, ?_, ?_, n6, y6⟩
  · have h1 := Kd.R_mono (ok' := fun k => k ≠ w5.heap.size) (Kd.R_bound er) (fun k hk => by have := hk.2.1; omega)
    exact Kd.R_mono (Kd.R_far (p := ⟨w5.heap.size, 1, none⟩) (Kd.R_far (p := ⟨w5.heap.size, 0, none⟩) (Kd.R_lower h1 (by omega)) (fun _ hk => hk) _) (fun _ hk => hk) _) (fun _ _ => trivial)
  · exact below_set (below_set (below_step b5 b6) hs) hs
theorem row_front {w : World} {a : Option Addr} {n : Nat} {bs xs : List Int} (h : Kd.C (Kd.int .u64) w a n (bs ++ xs)) : Kd.C (Kd.int .u64) w a bs.length bs := by
  have e := h.1
  rw [← e] at h
  have := Kd.C_take h (m := bs.length) (by simp)
  simpa using this
theorem row_at0 {w : World} {a : Addr} {n : Nat} {bs xs : List Int} {x0 : Int} (h : Kd.C (Kd.int .u64) w (some a) n (bs ++ x0 :: xs)) : w.cell? (a.add bs.length) = some (.int .u64 x0) := by
  have e := h.1
  obtain ⟨ad, e1, hc⟩ := h.2.2 (by rw [← e]; simp; omega)
  cases e1
  obtain ⟨c, hl, hk, hu⟩ := hc bs.length x0 (by simp)
  obtain rfl : c = [.int .u64 x0] := hk
  have := hu 0 _ rfl
  simpa [Kd.int, Kd.scalar] using this
theorem row_at1 {w : World} {a : Addr} {n : Nat} {bs xs : List Int} {x0 x1 : Int} (h : Kd.C (Kd.int .u64) w (some a) n (bs ++ x0 :: x1 :: xs)) : w.cell? (a.add (bs.length + 1)) = some (.int .u64 x1) := by
  have e : bs ++ x0 :: x1 :: xs = (bs ++ [x0]) ++ x1 :: xs := by simp
  rw [e] at h
  have := row_at0 h
  simpa using this
theorem end_row {w wc : World} {vv : Value} {xs : List Int} {c1 c2 : Array Value} (hr : Kd.R (Kd.int .u64) 34 wc w.heap.size (fun _ => True) vv xs) (b1 : wc.heap[w.heap.size + 1]? = some (.cells c1 59 (0, 0))) (b2 : wc.heap[w.heap.size + 1 + 1]? = some (.cells c2 61 (0, 0))) (u0 u1 u2 u3 u4 u5 : Value) :
    Kd.R (Kd.int .u64) 34 ((((((wc.setCell ⟨w.heap.size + 1, 0, none⟩ u0).setCell ⟨w.heap.size + 1, 1, none⟩ u1).setCell ⟨w.heap.size + 1 + 1, 0, none⟩ u2).setCell ⟨w.heap.size + 1 + 1, 1, none⟩ u3).setCell ⟨w.heap.size + 1 + 1, 2, none⟩ u4).setCell ⟨w.heap.size + 1 + 1, 3, none⟩ u5) w.heap.size (fun _ => True) vv xs := by
  have h2 := Kd.R_mono (ok' := fun k => k ≠ w.heap.size + 1 ∧ k ≠ w.heap.size + 1 + 1) (Kd.R_tight rfl hr) (fun k hk => ⟨fun e => Kd.R_ne hr b1 (by decide) (e ▸ hk), fun e => Kd.R_ne hr b2 (by decide) (e ▸ hk)⟩)
  refine Kd.R_mono (ok := fun k => k ≠ w.heap.size + 1 ∧ k ≠ w.heap.size + 1 + 1) ?_ (fun _ _ => trivial)
  iterate 4 (with_reducible refine Kd.R_far ?_ (fun k hk => hk.2) _)
  iterate 2 (with_reducible refine Kd.R_far ?_ (fun k hk => hk.1) _)
  exact h2
theorem end_below {w wc : World} (hb : Below w.heap.size w wc) (u0 u1 u2 u3 u4 u5 : Value) :
    Below w.heap.size w ((((((wc.setCell ⟨w.heap.size + 1, 0, none⟩ u0).setCell ⟨w.heap.size + 1, 1, none⟩ u1).setCell ⟨w.heap.size + 1 + 1, 0, none⟩ u2).setCell ⟨w.heap.size + 1 + 1, 1, none⟩ u3).setCell ⟨w.heap.size + 1 + 1, 2, none⟩ u4).setCell ⟨w.heap.size + 1 + 1, 3, none⟩ u5) := by
  iterate 4 (with_reducible refine below_set ?_ (Nat.le_succ_of_le (Nat.le_succ _)))
  iterate 2 (with_reducible refine below_set ?_ (Nat.le_succ _))
  exact hb
theorem clone_row (A0 : Option Addr) (c0 : Nat) (l0 : List Int) (w : World) (hr0 : Kd.C (Kd.int .u64) w A0 l0.length l0) (hc0 : l0.length ≤ c0) (hl : l0.length < 17592186044416) :
    Calls Try.prog 47 #[.slice A0 l0.length c0] w fun e w' => ∃ v0_ : Value, e = .returned v0_ ∧ Kd.R (Kd.int .u64) 34 w' w.heap.size (fun _ => True) v0_ l0 ∧ Below w.heap.size w w' :=
  slices_Clone_uint64_uint64.calls A0 c0 l0 l0 w hr0 hc0 (by unfold slices_Clone_uint64_uint64.f; rw [if_pos hl])
end Go.Proofs.Ytjbpljcfogekhaa.Q
namespace Go.Proofs.Ytjbpljcfogekhaa.Q
open Go.RowKit Go.Proofs.YtjbpljcfogekhaaW.PrintWords Go.Proofs.YtjbpljcfogekhaaW.PrintLast Go.Proofs.YtjbpljcfogekhaaW.PrintMore
set_option linter.unusedVariables false
set_option maxHeartbeats 4000000 in
set_option maxRecDepth 100000 in
theorem step_drop (k : Nat) (s : ByteArray) (pc : Int) (a : Addr) (c : Nat) (bs : List Int) (x0 t2 t3 t4 q : Int) (w : World) (hr : Kd.C (Kd.int .u64) w (some a) (bs.length + 1) (bs ++ [x0])) (hc : bs.length + 1 ≤ c) (hl : bs.length < 1000000)
    (h : code_One.f k s pc = some (3, t2, t3, t4, 0)) (h2 : code_Moves.f k 3 t2 t3 t4 = some (1, q)) (hq0 : 0 ≤ q) (hq1 : q ≤ 10) (hfit : (bs.length : Int) + q ≤ 32) :
    Calls Try.prog 45 #[.string s, .agg #[.int .i64 pc, .slice (some a) (bs.length + 1) c]] w fun e w' => ∃ v1_ : Value, e = .returned (.tuple #[.agg #[.int .i64 (wrap64 (t3 + t4)), v1_], .agg #[.int .i64 0, .int .u64 0, .int .u64 0, .int .i64 0]]) ∧ Kd.R (Kd.int .u64) 34 w' w.heap.size (fun _ => True) v1_ (bs) ∧ Below w.heap.size w w' := by
  have hu59 := Try.underlying59
  have hu61 := Try.underlying61
  have hu36 := Try.underlying36
  have HO := Aside0.mk h
  have HM := Aside0.mk h2
  have HR := Aside0.mk hr
  have HRb := Aside0.mk (row_front hr)
  have HL := Aside0.mk (show bs.length < 17592186044416 by omega)
  have hcb : (bs.length : Int) ≤ (c : Int) := by omega
  have hcb0 : (0 : Int) ≤ (bs.length : Int) := by omega
  clear h h2 hr
  go_enter Try.func45, Try.ntmps45
  go_wp2_with (first
    | (go_at_call 20; refine (code_One.calls k s pc 3 t2 t3 t4 0 _ HO.out).mono ?_; rintro e w4 ⟨rfl, hb⟩; obtain ⟨b0, b1, b2, hB, hz4⟩ := three_blocks hb; have z0 : w.heap.size < w4.heap.size := (by omega); have z1 : w.heap.size + 1 < w4.heap.size := (by omega); have z2 : w.heap.size + 1 + 1 < w4.heap.size := (by omega); clear hz4; obtain ⟨⟨c00, c01⟩, f00, f01⟩ := cells2 b0; obtain ⟨⟨c10, c11⟩, f10, f11⟩ := cells2 b1; obtain ⟨⟨c20, c21, c22, c23⟩, f20, f21, f22, f23⟩ := cells4 b2; have B0 := Aside0.mk b0; have B1 := Aside0.mk b1; have B2 := Aside0.mk b2; have HB := Aside0.mk hB; clear b0 b1 b2 hB hb)
    | (go_at_call 23; refine (code_Moves.calls k 3 t2 t3 t4 1 q _ HM.out).mono ?_; rintro e w5 ⟨rfl, hb⟩; have b0 := blk_below (blk_alloc B0.out _) hb; have b1 := blk_below (blk_alloc B1.out _) hb; have b2 := blk_below (blk_alloc B2.out _) hb; have b6 := blk_below (blk_new w4 _) hb; have HB5 := Aside0.mk (below_step (below_alloc HB.out _) hb); have y6 : w4.heap.size < w5.heap.size := (blk_lt b6); have y0 : w.heap.size < w5.heap.size := (blk_lt b0); have y1 : w.heap.size + 1 < w5.heap.size := (blk_lt b1); have y2 : w.heap.size + 1 + 1 < w5.heap.size := (blk_lt b2); have n6 : ¬ w4.heap.size = w5.heap.size := (Nat.ne_of_lt y6); have n0 : ¬ w.heap.size = w5.heap.size := (Nat.ne_of_lt y0); have n1 : ¬ w.heap.size + 1 = w5.heap.size := (Nat.ne_of_lt y1); have n2 : ¬ w.heap.size + 1 + 1 = w5.heap.size := (Nat.ne_of_lt y2); have m6 : ¬ w5.heap.size = w4.heap.size := (Nat.ne_of_gt y6); have m0 : ¬ w5.heap.size = w.heap.size := (Nat.ne_of_gt y0); have m1 : ¬ w5.heap.size = w.heap.size + 1 := (Nat.ne_of_gt y1); have m2 : ¬ w5.heap.size = w.heap.size + 1 + 1 := (Nat.ne_of_gt y2); clear c00 c01 f00 f01 c10 c11 f10 f11 c20 c21 c22 c23 f20 f21 f22 f23; obtain ⟨⟨c00, c01⟩, f00, f01⟩ := cells2 b0; obtain ⟨⟨c10, c11⟩, f10, f11⟩ := cells2 b1; obtain ⟨⟨c20, c21, c22, c23⟩, f20, f21, f22, f23⟩ := cells4 b2; obtain ⟨⟨c60, c61, c62, c63⟩, f60, f61, f62, f63⟩ := cells4 b6; have B0' := Aside0.mk b0; have B1' := Aside0.mk b1; have B2' := Aside0.mk b2; have B6' := Aside0.mk b6; clear b0 b1 b2 b6 hb))
  go_cut [11] (fun v11 wc => ∃ (g : Nat) (vv : Value), v11 = .pointer (some ⟨g, 0, none⟩) ∧ Aside0 (StepMid w wc w4.heap.size g pc (some a) (bs.length + 1) c 3 t2 t3 t4 (wrap64 (t3 + t4)) vv bs))
  case first =>
    go_region_held3 (fun w' => w'.cell? ⟨w4.heap.size, 2, none⟩ = some (.int .i64 t3) ∧ w'.cell? ⟨w4.heap.size, 3, none⟩ = some (.int .i64 t4) ∧ w'.cell? ⟨w.heap.size, 1, none⟩ = some (.slice (some a) (bs.length + 1) c))
      (first | go_keep | ((try dsimp only); (repeat' apply And.intro); all_goals go_keep))
      ((go_at_call 47; go_must (refine (clone_row (some a) c bs _ (Kd.C_below HRb.out (by repeat (first | (with_reducible exact HB5.out) | (with_reducible apply below_alloc) | (with_reducible apply below_drew)))) (by omega) HL.out).mono ?_; rintro e w6 ⟨vv, rfl, hR, hb⟩; obtain ⟨A5, c5, rfl⟩ := Kd.R_slice hR; have hB56 : Below w5.heap.size w5 w6 := (by refine below_step ?_ hb; repeat (first | (with_reducible exact Below.refl _ _) | (with_reducible apply below_alloc) | (with_reducible apply below_drew))); have b0 := blk_below B0'.out hB56; have b1 := blk_below B1'.out hB56; have b2 := blk_below B2'.out hB56; have b6 := blk_below B6'.out hB56; have v0 := blk_lt b0; have v1 := blk_lt b1; have v2 := blk_lt b2; have v6 := blk_lt b6; clear c00 c01 f00 f01 c10 c11 f10 f11 c20 c21 c22 c23 f20 f21 f22 f23 c60 c61 c62 c63 f60 f61 f62 f63; obtain ⟨⟨c00, c01⟩, f00, f01⟩ := cells2 b0; obtain ⟨⟨c10, c11⟩, f10, f11⟩ := cells2 b1; obtain ⟨⟨c20, c21, c22, c23⟩, f20, f21, f22, f23⟩ := cells4 b2; obtain ⟨⟨c60, c61, c62, c63⟩, f60, f61, f62, f63⟩ := cells4 b6; have E0 := Aside0.mk b0; have E1 := Aside0.mk b1; have E2 := Aside0.mk b2; have E6 := Aside0.mk b6; clear b0 b1 b2 b6; have ER := Aside0.mk hR; have EB := Aside0.mk hB56; (try (have b11 : w6.heap[w5.heap.size]? = some (.cells #[.int .i64 0, .slice none 0 0] 59 (0, 0)) := (by with_reducible exact blk_below (blk_drew (blk_new w5 _)) hb); obtain ⟨⟨d0, d1⟩, e0, e1⟩ := cells2 b11; have y11 := blk_lt b11; have E11 := Aside0.mk b11; clear b11)); clear hR)))
    all_goals go_wp2
    all_goals go_meet
    all_goals simp only [i64_w]
    case rel => exact ⟨_, _, rfl, ⟨mid_new E0.out E1.out E2.out E6.out ER.out (by simp; omega) HB5.out EB.out (by omega)⟩⟩
    case rel => exact ⟨_, _, rfl, ⟨mid_old E0.out E1.out E2.out E6.out E11.out ER.out (by simp) HB5.out EB.out (by omega) (by omega)⟩⟩
  case rest =>
    obtain ⟨g, vv, rfl, HC⟩ := hcut
    have m := HC.out
    obtain ⟨A5, c5, rfl⟩ := Kd.R_slice m.row
    clear c00 c01 f00 f01 c10 c11 f10 f11 c20 c21 c22 c23 f20 f21 f22 f23 c60 c61 c62 c63 f60 f61 f62 f63 y6 y0 y1 y2 n6 n0 n1 n2 m6 m0 m1 m2 z0 z1 z2 HB HB5 B0 B1 B2 B0' B1' B2' B6'
    obtain ⟨⟨c00, c01⟩, f00, f01⟩ := cells2 m.b0
    obtain ⟨⟨c10, c11⟩, f10, f11⟩ := cells2 m.b1
    obtain ⟨⟨c20, c21, c22, c23⟩, f20, f21, f22, f23⟩ := cells4 m.b2
    obtain ⟨⟨c60, c61, c62, c63⟩, f60, f61, f62, f63⟩ := cells4 m.b6
    obtain ⟨⟨cg0, cg1⟩, fg0, fg1⟩ := cells2 m.bg
    have hx0 : wc.cell? (a.add bs.length) = some (.int .u64 x0) := row_at0 (Kd.C_below HR.out m.bel)
    have LB := m.bel.size
    have L6 := m.n6
    have LG := m.ng
    clear m
    go_wp2
    refine bodyPost_ret (v := .tuple #[.agg #[.int .i64 (wrap64 (t3 + t4)), .slice A5 bs.length c5], .agg #[.int .i64 0, .int .u64 0, .int .u64 0, .int .i64 0]]) (by simp [results, Try.results45, go_sem, c10, c11, c20, c21, c22, c23]) rfl ⟨_, rfl, end_row HC.out.row HC.out.b1 HC.out.b2 _ _ _ _ _ _, end_below HC.out.bel _ _ _ _ _ _⟩
end Go.Proofs.Ytjbpljcfogekhaa.Q
namespace Go.Proofs.Ytjbpljcfogekhaa.Q
open Go.RowKit Go.Proofs.YtjbpljcfogekhaaW.PrintWords Go.Proofs.YtjbpljcfogekhaaW.PrintLast Go.Proofs.YtjbpljcfogekhaaW.PrintMore
set_option linter.unusedVariables false
set_option linter.unusedSimpArgs false
structure StepOut (w w' : World) (g : Nat) (npc : Int) (v1 : Value) (xs : List Int) : Prop where
  b1 : w'.heap[w.heap.size + 1]? = some (.cells #[.int .i64 0, .slice none 0 0] 59 (0, 0))
  b2 : w'.heap[w.heap.size + 1 + 1]? = some (.cells #[.int .i64 0, .int .u64 0, .int .u64 0, .int .i64 0] 61 (0, 0))
  bg : w'.heap[g]? = some (.cells #[.int .i64 npc, v1] 59 (0, 0))
  row : Kd.R (Kd.int .u64) 34 w' w.heap.size (fun _ => True) v1 xs
  bel : Below w.heap.size w w'
  ng : w.heap.size + 1 + 1 < g
theorem push_mid {w wc : World} {g6 g : Nat} {pc op t2 t3 t4 npc : Int} {A : Option Addr} {len c : Nat} {vv : Value} {bs : List Int} (m : StepMid w wc g6 g pc A len c op t2 t3 t4 npc vv bs) (W : World) (hW : Below wc.heap.size wc W)
    (ys : List Int) (A' : Option Addr) (c' : Nat) (hy : Kd.C (Kd.int .u64) W A' ys.length ys) (hl : bs.length + ys.length < 1000000) :
    Calls Try.prog 50 #[.slice A' ys.length c', .pointer (some ⟨g, 0, none⟩)] W fun e w' => e = .returned (.tuple #[]) ∧ ∃ v1, StepOut w w' g npc v1 (bs ++ ys) := by
  have hg := blk_below m.bg hW
  have h1 := blk_below m.b1 hW
  have h2 := blk_below m.b2 hW
  have hr := Kd.R_below m.row hW
  have hb := below_step m.bel hW
  refine (push_any g w.heap.size npc vv bs ys A' c' w W hg hr hy hb hb.size hl).mono ?_
  rintro e w' ⟨rfl, v1, hg', hR', ho, ht, hu, hs, hk⟩
  have n6 := m.n6
  have ng := m.ng
  refine ⟨rfl, v1, ?_, ?_, hg', hR', ?_, by omega⟩
  · rw [hk _ (blk_lt h1) (by omega) (Kd.R_ne hr h1 (by decide))]; exact h1
  · rw [hk _ (blk_lt h2) (by omega) (Kd.R_ne hr h2 (by decide))]; exact h2
  · refine ⟨ho.trans hb.os, ht.trans hb.tape, hu.trans hb.output, Nat.le_trans hb.size hs, fun i hi => ?_⟩
    rw [hk i (Nat.lt_of_lt_of_le hi hb.size) (by omega) ?_]
    · exact hb.block i hi
    · intro he
      have := (Kd.R_bound hr).1 i he.symm
      omega
theorem row_at1f {w : World} {a : Addr} {n : Nat} {bs xs : List Int} {x0 x1 : Int} (h : Kd.C (Kd.int .u64) w (some a) n (bs ++ x0 :: x1 :: xs)) : w.cell? ⟨(a.add bs.length).block, (a.add bs.length).off + 1, none⟩ = some (.int .u64 x1) := by
  rw [← add_field _ _ 1 (by omega)]
  exact row_at1 h
theorem set_far {a p : Addr} (h : a.block ≠ p.block) : ∀ (W : World) (v : Value), (W.setCell p v).cell? a = W.cell? a := fun W v => World.cell?_of_block (w := W) (Below.heap_setCell W p v a.block h)
theorem mid_row {w wc : World} {g6 g : Nat} {pc op t2 t3 t4 npc : Int} {A : Option Addr} {len c : Nat} {vv : Value} {bs : List Int} (m : StepMid w wc g6 g pc A len c op t2 t3 t4 npc vv bs) (u : Value) : Kd.R (Kd.int .u64) 34 (wc.setCell ⟨g, 0, none⟩ u) w.heap.size (fun _ => True) vv bs :=
  Kd.R_mono (Kd.R_far (p := ⟨g, 0, none⟩) (Kd.R_mono (ok' := fun k => k ≠ g) (Kd.R_tight rfl m.row) (fun k hk e => Kd.R_ne m.row m.bg (by decide) (e ▸ hk))) (fun _ hk => hk) u) (fun _ _ => trivial)
theorem mid_b1 {w wc : World} {g6 g : Nat} {pc op t2 t3 t4 npc : Int} {A : Option Addr} {len c : Nat} {vv : Value} {bs : List Int} (m : StepMid w wc g6 g pc A len c op t2 t3 t4 npc vv bs) (u : Value) : (wc.setCell ⟨g, 0, none⟩ u).heap[w.heap.size + 1]? = some (.cells #[.int .i64 0, .slice none 0 0] 59 (0, 0)) := by
  have := m.n6; have := m.ng
  rw [Below.heap_setCell _ _ _ _ (by show w.heap.size + 1 ≠ g; omega)]; exact m.b1
theorem mid_b2 {w wc : World} {g6 g : Nat} {pc op t2 t3 t4 npc : Int} {A : Option Addr} {len c : Nat} {vv : Value} {bs : List Int} (m : StepMid w wc g6 g pc A len c op t2 t3 t4 npc vv bs) (u : Value) : (wc.setCell ⟨g, 0, none⟩ u).heap[w.heap.size + 1 + 1]? = some (.cells #[.int .i64 0, .int .u64 0, .int .u64 0, .int .i64 0] 61 (0, 0)) := by
  have := m.n6; have := m.ng
  rw [Below.heap_setCell _ _ _ _ (by show w.heap.size + 1 + 1 ≠ g; omega)]; exact m.b2
theorem mid_bel {w wc : World} {g6 g : Nat} {pc op t2 t3 t4 npc : Int} {A : Option Addr} {len c : Nat} {vv : Value} {bs : List Int} (m : StepMid w wc g6 g pc A len c op t2 t3 t4 npc vv bs) (u : Value) : Below w.heap.size w (wc.setCell ⟨g, 0, none⟩ u) := by
  have := m.n6; have := m.ng
  exact below_set m.bel (by omega)
theorem own_n (n : Nat) (l : List Int) (hn : l.length = n) (pc : Int) (A : Option Addr) (c : Nat) (w : World) (hr : Kd.C (Kd.int .u64) w A n l) (hc : n ≤ c) (hl : n < 17592186044416) :
    Calls Try.prog 46 #[.agg #[.int .i64 pc, .slice A n c]] w fun e w' => ∃ v1_ : Value, e = .returned (.agg #[.int .i64 pc, v1_]) ∧ Kd.R (Kd.int .u64) 34 w' w.heap.size (fun _ => True) v1_ l ∧ Below w.heap.size w w' := by
  subst hn
  exact vm_own.calls pc A c l pc l w hr hc (own_is _ _ hl)
theorem lit_row {W : World} {gb : Nat} (l : List Int) (hl : l.length < 1000) (h : W.heap[gb]? = some (.cells (l.map (Value.int .u64)).toArray 34 (0, 0))) : Kd.C (Kd.int .u64) W (some ⟨gb, 0, none⟩) l.length l := by
  refine ⟨rfl, by omega, fun _ => ⟨_, rfl, fun j p hj => ⟨[.int .u64 p], rfl, rfl, fun i u hu => ?_⟩⟩⟩
  have hi : i = 0 := by have := (List.getElem?_eq_some_iff.1 hu).1; simpa using this
  subst hi
  simp only [List.getElem?_cons_zero, Option.some.injEq] at hu
  subst hu
  have e : (⟨gb, 0, none⟩ : Addr).add (j * (Kd.int .u64).sz + 0) = ⟨gb, j, none⟩ := by
    rw [add_plain]
    simp [Kd.int, Kd.scalar]
  rw [e, blk_cell h j]
  simp [hj]
end Go.Proofs.Ytjbpljcfogekhaa.Q
namespace Go.Proofs.Ytjbpljcfogekhaa.Q
open Go.RowKit Go.Proofs.YtjbpljcfogekhaaW.PrintWords Go.Proofs.YtjbpljcfogekhaaW.PrintLast Go.Proofs.YtjbpljcfogekhaaW.PrintMore
set_option linter.unusedVariables false
set_option linter.unusedSimpArgs false
set_option maxHeartbeats 4000000 in
set_option maxRecDepth 100000 in
theorem step_not1 (k : Nat) (s : ByteArray) (pc : Int) (a : Addr) (c : Nat) (bs : List Int) (x0 t2 t3 t4 q : Int) (w : World) (hr : Kd.C (Kd.int .u64) w (some a) (bs.length + 1) (bs ++ [x0])) (hc : bs.length + 1 ≤ c) (hl : bs.length < 1000000)
    (h : code_One.f k s pc = some (18, t2, t3, t4, 0)) (h2 : code_Moves.f k 18 t2 t3 t4 = some (1, q)) (hq0 : 0 ≤ q) (hq1 : q ≤ 10) (hfit : (bs.length : Int) + q ≤ 32)
    (hx : (x0 == 0) = true) :
    Calls Try.prog 45 #[.string s, .agg #[.int .i64 pc, .slice (some a) (bs.length + 1) c]] w fun e w' => ∃ v1_ : Value, e = .returned (.tuple #[.agg #[.int .i64 (wrap64 (t3 + t4)), v1_], .agg #[.int .i64 0, .int .u64 0, .int .u64 0, .int .i64 0]]) ∧ Kd.R (Kd.int .u64) 34 w' w.heap.size (fun _ => True) v1_ (bs ++ [1]) ∧ Below w.heap.size w w' := by
  have hu59 := Try.underlying59
  have hu61 := Try.underlying61
  have hu36 := Try.underlying36
  have HO := Aside0.mk h
  have HM := Aside0.mk h2
  have HR := Aside0.mk hr
  have HRb := Aside0.mk (row_front hr)
  have HL := Aside0.mk (show bs.length < 17592186044416 by omega)
  have hcb : (bs.length : Int) ≤ (c : Int) := by omega
  have hcb0 : (0 : Int) ≤ (bs.length : Int) := by omega
  clear h h2 hr
  go_enter Try.func45, Try.ntmps45
  go_wp2_with (first
    | (go_at_call 20; refine (code_One.calls k s pc 18 t2 t3 t4 0 _ HO.out).mono ?_; rintro e w4 ⟨rfl, hb⟩; obtain ⟨b0, b1, b2, hB, hz4⟩ := three_blocks hb; have z0 : w.heap.size < w4.heap.size := (by omega); have z1 : w.heap.size + 1 < w4.heap.size := (by omega); have z2 : w.heap.size + 1 + 1 < w4.heap.size := (by omega); clear hz4; obtain ⟨⟨c00, c01⟩, f00, f01⟩ := cells2 b0; obtain ⟨⟨c10, c11⟩, f10, f11⟩ := cells2 b1; obtain ⟨⟨c20, c21, c22, c23⟩, f20, f21, f22, f23⟩ := cells4 b2; have B0 := Aside0.mk b0; have B1 := Aside0.mk b1; have B2 := Aside0.mk b2; have HB := Aside0.mk hB; clear b0 b1 b2 hB hb)
    | (go_at_call 23; refine (code_Moves.calls k 18 t2 t3 t4 1 q _ HM.out).mono ?_; rintro e w5 ⟨rfl, hb⟩; have b0 := blk_below (blk_alloc B0.out _) hb; have b1 := blk_below (blk_alloc B1.out _) hb; have b2 := blk_below (blk_alloc B2.out _) hb; have b6 := blk_below (blk_new w4 _) hb; have HB5 := Aside0.mk (below_step (below_alloc HB.out _) hb); have y6 : w4.heap.size < w5.heap.size := (blk_lt b6); have y0 : w.heap.size < w5.heap.size := (blk_lt b0); have y1 : w.heap.size + 1 < w5.heap.size := (blk_lt b1); have y2 : w.heap.size + 1 + 1 < w5.heap.size := (blk_lt b2); have n6 : ¬ w4.heap.size = w5.heap.size := (Nat.ne_of_lt y6); have n0 : ¬ w.heap.size = w5.heap.size := (Nat.ne_of_lt y0); have n1 : ¬ w.heap.size + 1 = w5.heap.size := (Nat.ne_of_lt y1); have n2 : ¬ w.heap.size + 1 + 1 = w5.heap.size := (Nat.ne_of_lt y2); have m6 : ¬ w5.heap.size = w4.heap.size := (Nat.ne_of_gt y6); have m0 : ¬ w5.heap.size = w.heap.size := (Nat.ne_of_gt y0); have m1 : ¬ w5.heap.size = w.heap.size + 1 := (Nat.ne_of_gt y1); have m2 : ¬ w5.heap.size = w.heap.size + 1 + 1 := (Nat.ne_of_gt y2); clear c00 c01 f00 f01 c10 c11 f10 f11 c20 c21 c22 c23 f20 f21 f22 f23; obtain ⟨⟨c00, c01⟩, f00, f01⟩ := cells2 b0; obtain ⟨⟨c10, c11⟩, f10, f11⟩ := cells2 b1; obtain ⟨⟨c20, c21, c22, c23⟩, f20, f21, f22, f23⟩ := cells4 b2; obtain ⟨⟨c60, c61, c62, c63⟩, f60, f61, f62, f63⟩ := cells4 b6; have B0' := Aside0.mk b0; have B1' := Aside0.mk b1; have B2' := Aside0.mk b2; have B6' := Aside0.mk b6; clear b0 b1 b2 b6 hb))
  go_cut [11] (fun v11 wc => ∃ (g : Nat) (vv : Value), v11 = .pointer (some ⟨g, 0, none⟩) ∧ Aside0 (StepMid w wc w4.heap.size g pc (some a) (bs.length + 1) c 18 t2 t3 t4 (wrap64 (t3 + t4)) vv bs))
  case first =>
    go_region_held3 (fun w' => w'.cell? ⟨w4.heap.size, 2, none⟩ = some (.int .i64 t3) ∧ w'.cell? ⟨w4.heap.size, 3, none⟩ = some (.int .i64 t4) ∧ w'.cell? ⟨w.heap.size, 1, none⟩ = some (.slice (some a) (bs.length + 1) c))
      (first | go_keep | ((try dsimp only); (repeat' apply And.intro); all_goals go_keep))
      ((go_at_call 47; go_must (refine (clone_row (some a) c bs _ (Kd.C_below HRb.out (by repeat (first | (with_reducible exact HB5.out) | (with_reducible apply below_alloc) | (with_reducible apply below_drew)))) (by omega) HL.out).mono ?_; rintro e w6 ⟨vv, rfl, hR, hb⟩; obtain ⟨A5, c5, rfl⟩ := Kd.R_slice hR; have hB56 : Below w5.heap.size w5 w6 := (by refine below_step ?_ hb; repeat (first | (with_reducible exact Below.refl _ _) | (with_reducible apply below_alloc) | (with_reducible apply below_drew))); have b0 := blk_below B0'.out hB56; have b1 := blk_below B1'.out hB56; have b2 := blk_below B2'.out hB56; have b6 := blk_below B6'.out hB56; have v0 := blk_lt b0; have v1 := blk_lt b1; have v2 := blk_lt b2; have v6 := blk_lt b6; clear c00 c01 f00 f01 c10 c11 f10 f11 c20 c21 c22 c23 f20 f21 f22 f23 c60 c61 c62 c63 f60 f61 f62 f63; obtain ⟨⟨c00, c01⟩, f00, f01⟩ := cells2 b0; obtain ⟨⟨c10, c11⟩, f10, f11⟩ := cells2 b1; obtain ⟨⟨c20, c21, c22, c23⟩, f20, f21, f22, f23⟩ := cells4 b2; obtain ⟨⟨c60, c61, c62, c63⟩, f60, f61, f62, f63⟩ := cells4 b6; have E0 := Aside0.mk b0; have E1 := Aside0.mk b1; have E2 := Aside0.mk b2; have E6 := Aside0.mk b6; clear b0 b1 b2 b6; have ER := Aside0.mk hR; have EB := Aside0.mk hB56; (try (have b11 : w6.heap[w5.heap.size]? = some (.cells #[.int .i64 0, .slice none 0 0] 59 (0, 0)) := (by with_reducible exact blk_below (blk_drew (blk_new w5 _)) hb); obtain ⟨⟨d0, d1⟩, e0, e1⟩ := cells2 b11; have y11 := blk_lt b11; have E11 := Aside0.mk b11; clear b11)); clear hR)))
    all_goals go_wp2
    all_goals go_meet
    all_goals simp only [i64_w]
    case rel => exact ⟨_, _, rfl, ⟨mid_new E0.out E1.out E2.out E6.out ER.out (by simp; omega) HB5.out EB.out (by omega)⟩⟩
    case rel => exact ⟨_, _, rfl, ⟨mid_old E0.out E1.out E2.out E6.out E11.out ER.out (by simp) HB5.out EB.out (by omega) (by omega)⟩⟩
  case rest =>
    obtain ⟨g, vv, rfl, HC⟩ := hcut
    have m := HC.out
    obtain ⟨A5, c5, rfl⟩ := Kd.R_slice m.row
    clear c00 c01 f00 f01 c10 c11 f10 f11 c20 c21 c22 c23 f20 f21 f22 f23 c60 c61 c62 c63 f60 f61 f62 f63 y6 y0 y1 y2 n6 n0 n1 n2 m6 m0 m1 m2 z0 z1 z2 HB HB5 B0 B1 B2 B0' B1' B2' B6'
    obtain ⟨⟨c00, c01⟩, f00, f01⟩ := cells2 m.b0
    obtain ⟨⟨c10, c11⟩, f10, f11⟩ := cells2 m.b1
    obtain ⟨⟨c20, c21, c22, c23⟩, f20, f21, f22, f23⟩ := cells4 m.b2
    obtain ⟨⟨c60, c61, c62, c63⟩, f60, f61, f62, f63⟩ := cells4 m.b6
    obtain ⟨⟨cg0, cg1⟩, fg0, fg1⟩ := cells2 m.bg
    have hx0 : wc.cell? (a.add bs.length) = some (.int .u64 x0) := row_at0 (Kd.C_below HR.out m.bel)
    have LB := m.bel.size
    have L6 := m.n6
    have LG := m.ng
    clear m
    go_wp2_with (first | (go_at_call 51; refine (vm_flag.calls true 1 true _ rfl).mono ?_; rintro e w8 ⟨rfl, ⟨⟨n8, rfl⟩⟩⟩) | (go_at_call 50; go_must (refine (push_mid HC.out _ (by repeat (first | (with_reducible exact Below.refl _ _) | (with_reducible apply below_alloc) | (with_reducible apply below_drew) | (with_reducible refine pw_below_drewN ?_ _))) [1] _ _ (lit_row [1] (by simp) (by repeat (first | (with_reducible exact blk_new _ _) | (with_reducible refine blk_drew ?_) | (with_reducible refine blk_drewN ?_ _) | exact blk_new _ _))) (by simp; omega)).mono ?_; rintro e w7 ⟨rfl, v7, hm⟩; obtain ⟨A7, c7, rfl⟩ := Kd.R_slice hm.row; clear c00 c01 f00 f01 c10 c11 f10 f11 c20 c21 c22 c23 f20 f21 f22 f23 c60 c61 c62 c63 f60 f61 f62 f63 cg0 cg1 fg0 fg1; obtain ⟨⟨c10, c11⟩, f10, f11⟩ := cells2 hm.b1; obtain ⟨⟨c20, c21, c22, c23⟩, f20, f21, f22, f23⟩ := cells4 hm.b2; obtain ⟨⟨cg0, cg1⟩, fg0, fg1⟩ := cells2 hm.bg; have HM7 := Aside0.mk hm; clear hm)))
    refine bodyPost_ret (v := .tuple #[.agg #[.int .i64 (wrap64 (t3 + t4)), .slice A7 (bs ++ [1]).length c7], .agg #[.int .i64 0, .int .u64 0, .int .u64 0, .int .i64 0]]) (by simp [results, Try.results45, go_sem, c10, c11, c20, c21, c22, c23, i64_w, List.length_append]) rfl ⟨_, rfl, end_row HM7.out.row HM7.out.b1 HM7.out.b2 _ _ _ _ _ _, end_below HM7.out.bel _ _ _ _ _ _⟩
set_option maxHeartbeats 4000000 in
set_option maxRecDepth 100000 in
theorem step_not0 (k : Nat) (s : ByteArray) (pc : Int) (a : Addr) (c : Nat) (bs : List Int) (x0 t2 t3 t4 q : Int) (w : World) (hr : Kd.C (Kd.int .u64) w (some a) (bs.length + 1) (bs ++ [x0])) (hc : bs.length + 1 ≤ c) (hl : bs.length < 1000000)
    (h : code_One.f k s pc = some (18, t2, t3, t4, 0)) (h2 : code_Moves.f k 18 t2 t3 t4 = some (1, q)) (hq0 : 0 ≤ q) (hq1 : q ≤ 10) (hfit : (bs.length : Int) + q ≤ 32)
    (hx : (x0 == 0) = false) :
    Calls Try.prog 45 #[.string s, .agg #[.int .i64 pc, .slice (some a) (bs.length + 1) c]] w fun e w' => ∃ v1_ : Value, e = .returned (.tuple #[.agg #[.int .i64 (wrap64 (t3 + t4)), v1_], .agg #[.int .i64 0, .int .u64 0, .int .u64 0, .int .i64 0]]) ∧ Kd.R (Kd.int .u64) 34 w' w.heap.size (fun _ => True) v1_ (bs ++ [0]) ∧ Below w.heap.size w w' := by
  have hu59 := Try.underlying59
  have hu61 := Try.underlying61
  have hu36 := Try.underlying36
  have HO := Aside0.mk h
  have HM := Aside0.mk h2
  have HR := Aside0.mk hr
  have HRb := Aside0.mk (row_front hr)
  have HL := Aside0.mk (show bs.length < 17592186044416 by omega)
  have hcb : (bs.length : Int) ≤ (c : Int) := by omega
  have hcb0 : (0 : Int) ≤ (bs.length : Int) := by omega
  clear h h2 hr
  go_enter Try.func45, Try.ntmps45
  go_wp2_with (first
    | (go_at_call 20; refine (code_One.calls k s pc 18 t2 t3 t4 0 _ HO.out).mono ?_; rintro e w4 ⟨rfl, hb⟩; obtain ⟨b0, b1, b2, hB, hz4⟩ := three_blocks hb; have z0 : w.heap.size < w4.heap.size := (by omega); have z1 : w.heap.size + 1 < w4.heap.size := (by omega); have z2 : w.heap.size + 1 + 1 < w4.heap.size := (by omega); clear hz4; obtain ⟨⟨c00, c01⟩, f00, f01⟩ := cells2 b0; obtain ⟨⟨c10, c11⟩, f10, f11⟩ := cells2 b1; obtain ⟨⟨c20, c21, c22, c23⟩, f20, f21, f22, f23⟩ := cells4 b2; have B0 := Aside0.mk b0; have B1 := Aside0.mk b1; have B2 := Aside0.mk b2; have HB := Aside0.mk hB; clear b0 b1 b2 hB hb)
    | (go_at_call 23; refine (code_Moves.calls k 18 t2 t3 t4 1 q _ HM.out).mono ?_; rintro e w5 ⟨rfl, hb⟩; have b0 := blk_below (blk_alloc B0.out _) hb; have b1 := blk_below (blk_alloc B1.out _) hb; have b2 := blk_below (blk_alloc B2.out _) hb; have b6 := blk_below (blk_new w4 _) hb; have HB5 := Aside0.mk (below_step (below_alloc HB.out _) hb); have y6 : w4.heap.size < w5.heap.size := (blk_lt b6); have y0 : w.heap.size < w5.heap.size := (blk_lt b0); have y1 : w.heap.size + 1 < w5.heap.size := (blk_lt b1); have y2 : w.heap.size + 1 + 1 < w5.heap.size := (blk_lt b2); have n6 : ¬ w4.heap.size = w5.heap.size := (Nat.ne_of_lt y6); have n0 : ¬ w.heap.size = w5.heap.size := (Nat.ne_of_lt y0); have n1 : ¬ w.heap.size + 1 = w5.heap.size := (Nat.ne_of_lt y1); have n2 : ¬ w.heap.size + 1 + 1 = w5.heap.size := (Nat.ne_of_lt y2); have m6 : ¬ w5.heap.size = w4.heap.size := (Nat.ne_of_gt y6); have m0 : ¬ w5.heap.size = w.heap.size := (Nat.ne_of_gt y0); have m1 : ¬ w5.heap.size = w.heap.size + 1 := (Nat.ne_of_gt y1); have m2 : ¬ w5.heap.size = w.heap.size + 1 + 1 := (Nat.ne_of_gt y2); clear c00 c01 f00 f01 c10 c11 f10 f11 c20 c21 c22 c23 f20 f21 f22 f23; obtain ⟨⟨c00, c01⟩, f00, f01⟩ := cells2 b0; obtain ⟨⟨c10, c11⟩, f10, f11⟩ := cells2 b1; obtain ⟨⟨c20, c21, c22, c23⟩, f20, f21, f22, f23⟩ := cells4 b2; obtain ⟨⟨c60, c61, c62, c63⟩, f60, f61, f62, f63⟩ := cells4 b6; have B0' := Aside0.mk b0; have B1' := Aside0.mk b1; have B2' := Aside0.mk b2; have B6' := Aside0.mk b6; clear b0 b1 b2 b6 hb))
  go_cut [11] (fun v11 wc => ∃ (g : Nat) (vv : Value), v11 = .pointer (some ⟨g, 0, none⟩) ∧ Aside0 (StepMid w wc w4.heap.size g pc (some a) (bs.length + 1) c 18 t2 t3 t4 (wrap64 (t3 + t4)) vv bs))
  case first =>
    go_region_held3 (fun w' => w'.cell? ⟨w4.heap.size, 2, none⟩ = some (.int .i64 t3) ∧ w'.cell? ⟨w4.heap.size, 3, none⟩ = some (.int .i64 t4) ∧ w'.cell? ⟨w.heap.size, 1, none⟩ = some (.slice (some a) (bs.length + 1) c))
      (first | go_keep | ((try dsimp only); (repeat' apply And.intro); all_goals go_keep))
      ((go_at_call 47; go_must (refine (clone_row (some a) c bs _ (Kd.C_below HRb.out (by repeat (first | (with_reducible exact HB5.out) | (with_reducible apply below_alloc) | (with_reducible apply below_drew)))) (by omega) HL.out).mono ?_; rintro e w6 ⟨vv, rfl, hR, hb⟩; obtain ⟨A5, c5, rfl⟩ := Kd.R_slice hR; have hB56 : Below w5.heap.size w5 w6 := (by refine below_step ?_ hb; repeat (first | (with_reducible exact Below.refl _ _) | (with_reducible apply below_alloc) | (with_reducible apply below_drew))); have b0 := blk_below B0'.out hB56; have b1 := blk_below B1'.out hB56; have b2 := blk_below B2'.out hB56; have b6 := blk_below B6'.out hB56; have v0 := blk_lt b0; have v1 := blk_lt b1; have v2 := blk_lt b2; have v6 := blk_lt b6; clear c00 c01 f00 f01 c10 c11 f10 f11 c20 c21 c22 c23 f20 f21 f22 f23 c60 c61 c62 c63 f60 f61 f62 f63; obtain ⟨⟨c00, c01⟩, f00, f01⟩ := cells2 b0; obtain ⟨⟨c10, c11⟩, f10, f11⟩ := cells2 b1; obtain ⟨⟨c20, c21, c22, c23⟩, f20, f21, f22, f23⟩ := cells4 b2; obtain ⟨⟨c60, c61, c62, c63⟩, f60, f61, f62, f63⟩ := cells4 b6; have E0 := Aside0.mk b0; have E1 := Aside0.mk b1; have E2 := Aside0.mk b2; have E6 := Aside0.mk b6; clear b0 b1 b2 b6; have ER := Aside0.mk hR; have EB := Aside0.mk hB56; (try (have b11 : w6.heap[w5.heap.size]? = some (.cells #[.int .i64 0, .slice none 0 0] 59 (0, 0)) := (by with_reducible exact blk_below (blk_drew (blk_new w5 _)) hb); obtain ⟨⟨d0, d1⟩, e0, e1⟩ := cells2 b11; have y11 := blk_lt b11; have E11 := Aside0.mk b11; clear b11)); clear hR)))
    all_goals go_wp2
    all_goals go_meet
    all_goals simp only [i64_w]
    case rel => exact ⟨_, _, rfl, ⟨mid_new E0.out E1.out E2.out E6.out ER.out (by simp; omega) HB5.out EB.out (by omega)⟩⟩
    case rel => exact ⟨_, _, rfl, ⟨mid_old E0.out E1.out E2.out E6.out E11.out ER.out (by simp) HB5.out EB.out (by omega) (by omega)⟩⟩
  case rest =>
    obtain ⟨g, vv, rfl, HC⟩ := hcut
    have m := HC.out
    obtain ⟨A5, c5, rfl⟩ := Kd.R_slice m.row
    clear c00 c01 f00 f01 c10 c11 f10 f11 c20 c21 c22 c23 f20 f21 f22 f23 c60 c61 c62 c63 f60 f61 f62 f63 y6 y0 y1 y2 n6 n0 n1 n2 m6 m0 m1 m2 z0 z1 z2 HB HB5 B0 B1 B2 B0' B1' B2' B6'
    obtain ⟨⟨c00, c01⟩, f00, f01⟩ := cells2 m.b0
    obtain ⟨⟨c10, c11⟩, f10, f11⟩ := cells2 m.b1
    obtain ⟨⟨c20, c21, c22, c23⟩, f20, f21, f22, f23⟩ := cells4 m.b2
    obtain ⟨⟨c60, c61, c62, c63⟩, f60, f61, f62, f63⟩ := cells4 m.b6
    obtain ⟨⟨cg0, cg1⟩, fg0, fg1⟩ := cells2 m.bg
    have hx0 : wc.cell? (a.add bs.length) = some (.int .u64 x0) := row_at0 (Kd.C_below HR.out m.bel)
    have LB := m.bel.size
    have L6 := m.n6
    have LG := m.ng
    clear m
    go_wp2_with (first | (go_at_call 51; refine (vm_flag.calls false 0 true _ rfl).mono ?_; rintro e w8 ⟨rfl, ⟨⟨n8, rfl⟩⟩⟩) | (go_at_call 50; go_must (refine (push_mid HC.out _ (by repeat (first | (with_reducible exact Below.refl _ _) | (with_reducible apply below_alloc) | (with_reducible apply below_drew) | (with_reducible refine pw_below_drewN ?_ _))) [0] _ _ (lit_row [0] (by simp) (by repeat (first | (with_reducible exact blk_new _ _) | (with_reducible refine blk_drew ?_) | (with_reducible refine blk_drewN ?_ _) | exact blk_new _ _))) (by simp; omega)).mono ?_; rintro e w7 ⟨rfl, v7, hm⟩; obtain ⟨A7, c7, rfl⟩ := Kd.R_slice hm.row; clear c00 c01 f00 f01 c10 c11 f10 f11 c20 c21 c22 c23 f20 f21 f22 f23 c60 c61 c62 c63 f60 f61 f62 f63 cg0 cg1 fg0 fg1; obtain ⟨⟨c10, c11⟩, f10, f11⟩ := cells2 hm.b1; obtain ⟨⟨c20, c21, c22, c23⟩, f20, f21, f22, f23⟩ := cells4 hm.b2; obtain ⟨⟨cg0, cg1⟩, fg0, fg1⟩ := cells2 hm.bg; have HM7 := Aside0.mk hm; clear hm)))
    refine bodyPost_ret (v := .tuple #[.agg #[.int .i64 (wrap64 (t3 + t4)), .slice A7 (bs ++ [0]).length c7], .agg #[.int .i64 0, .int .u64 0, .int .u64 0, .int .i64 0]]) (by simp [results, Try.results45, go_sem, c10, c11, c20, c21, c22, c23, i64_w, List.length_append]) rfl ⟨_, rfl, end_row HM7.out.row HM7.out.b1 HM7.out.b2 _ _ _ _ _ _, end_below HM7.out.bel _ _ _ _ _ _⟩
end Go.Proofs.Ytjbpljcfogekhaa.Q
namespace Go.Proofs.Ytjbpljcfogekhaa.Q
open Go.RowKit Go.Proofs.YtjbpljcfogekhaaW.PrintWords Go.Proofs.YtjbpljcfogekhaaW.PrintLast Go.Proofs.YtjbpljcfogekhaaW.PrintMore
set_option linter.unusedVariables false
set_option linter.unusedSimpArgs false
set_option maxHeartbeats 4000000 in
set_option maxRecDepth 100000 in
theorem step_dup (k : Nat) (s : ByteArray) (pc : Int) (a : Addr) (c : Nat) (bs : List Int) (x0 t2 t3 t4 q : Int) (w : World) (hr : Kd.C (Kd.int .u64) w (some a) (bs.length + 1) (bs ++ [x0])) (hc : bs.length + 1 ≤ c) (hl : bs.length < 1000000)
    (h : code_One.f k s pc = some (2, t2, t3, t4, 0)) (h2 : code_Moves.f k 2 t2 t3 t4 = some (1, q)) (hq0 : 0 ≤ q) (hq1 : q ≤ 10) (hfit : (bs.length : Int) + q ≤ 32) :
    Calls Try.prog 45 #[.string s, .agg #[.int .i64 pc, .slice (some a) (bs.length + 1) c]] w fun e w' => ∃ v1_ : Value, e = .returned (.tuple #[.agg #[.int .i64 (wrap64 (t3 + t4)), v1_], .agg #[.int .i64 0, .int .u64 0, .int .u64 0, .int .i64 0]]) ∧ Kd.R (Kd.int .u64) 34 w' w.heap.size (fun _ => True) v1_ (bs ++ [x0, x0]) ∧ Below w.heap.size w w' := by
  have hu59 := Try.underlying59
  have hu61 := Try.underlying61
  have hu36 := Try.underlying36
  have HO := Aside0.mk h
  have HM := Aside0.mk h2
  have HR := Aside0.mk hr
  have HRb := Aside0.mk (row_front hr)
  have HL := Aside0.mk (show bs.length < 17592186044416 by omega)
  have hcb : (bs.length : Int) ≤ (c : Int) := by omega
  have hcb0 : (0 : Int) ≤ (bs.length : Int) := by omega
  clear h h2 hr
  go_enter Try.func45, Try.ntmps45
  go_wp2_with (first
    | (go_at_call 20; refine (code_One.calls k s pc 2 t2 t3 t4 0 _ HO.out).mono ?_; rintro e w4 ⟨rfl, hb⟩; obtain ⟨b0, b1, b2, hB, hz4⟩ := three_blocks hb; have z0 : w.heap.size < w4.heap.size := (by omega); have z1 : w.heap.size + 1 < w4.heap.size := (by omega); have z2 : w.heap.size + 1 + 1 < w4.heap.size := (by omega); clear hz4; obtain ⟨⟨c00, c01⟩, f00, f01⟩ := cells2 b0; obtain ⟨⟨c10, c11⟩, f10, f11⟩ := cells2 b1; obtain ⟨⟨c20, c21, c22, c23⟩, f20, f21, f22, f23⟩ := cells4 b2; have B0 := Aside0.mk b0; have B1 := Aside0.mk b1; have B2 := Aside0.mk b2; have HB := Aside0.mk hB; clear b0 b1 b2 hB hb)
    | (go_at_call 23; refine (code_Moves.calls k 2 t2 t3 t4 1 q _ HM.out).mono ?_; rintro e w5 ⟨rfl, hb⟩; have b0 := blk_below (blk_alloc B0.out _) hb; have b1 := blk_below (blk_alloc B1.out _) hb; have b2 := blk_below (blk_alloc B2.out _) hb; have b6 := blk_below (blk_new w4 _) hb; have HB5 := Aside0.mk (below_step (below_alloc HB.out _) hb); have y6 : w4.heap.size < w5.heap.size := (blk_lt b6); have y0 : w.heap.size < w5.heap.size := (blk_lt b0); have y1 : w.heap.size + 1 < w5.heap.size := (blk_lt b1); have y2 : w.heap.size + 1 + 1 < w5.heap.size := (blk_lt b2); have n6 : ¬ w4.heap.size = w5.heap.size := (Nat.ne_of_lt y6); have n0 : ¬ w.heap.size = w5.heap.size := (Nat.ne_of_lt y0); have n1 : ¬ w.heap.size + 1 = w5.heap.size := (Nat.ne_of_lt y1); have n2 : ¬ w.heap.size + 1 + 1 = w5.heap.size := (Nat.ne_of_lt y2); have m6 : ¬ w5.heap.size = w4.heap.size := (Nat.ne_of_gt y6); have m0 : ¬ w5.heap.size = w.heap.size := (Nat.ne_of_gt y0); have m1 : ¬ w5.heap.size = w.heap.size + 1 := (Nat.ne_of_gt y1); have m2 : ¬ w5.heap.size = w.heap.size + 1 + 1 := (Nat.ne_of_gt y2); clear c00 c01 f00 f01 c10 c11 f10 f11 c20 c21 c22 c23 f20 f21 f22 f23; obtain ⟨⟨c00, c01⟩, f00, f01⟩ := cells2 b0; obtain ⟨⟨c10, c11⟩, f10, f11⟩ := cells2 b1; obtain ⟨⟨c20, c21, c22, c23⟩, f20, f21, f22, f23⟩ := cells4 b2; obtain ⟨⟨c60, c61, c62, c63⟩, f60, f61, f62, f63⟩ := cells4 b6; have B0' := Aside0.mk b0; have B1' := Aside0.mk b1; have B2' := Aside0.mk b2; have B6' := Aside0.mk b6; clear b0 b1 b2 b6 hb))
  go_cut [11] (fun v11 wc => ∃ (g : Nat) (vv : Value), v11 = .pointer (some ⟨g, 0, none⟩) ∧ Aside0 (StepMid w wc w4.heap.size g pc (some a) (bs.length + 1) c 2 t2 t3 t4 (wrap64 (t3 + t4)) vv bs))
  case first =>
    go_region_held3 (fun w' => w'.cell? ⟨w4.heap.size, 2, none⟩ = some (.int .i64 t3) ∧ w'.cell? ⟨w4.heap.size, 3, none⟩ = some (.int .i64 t4) ∧ w'.cell? ⟨w.heap.size, 1, none⟩ = some (.slice (some a) (bs.length + 1) c))
      (first | go_keep | ((try dsimp only); (repeat' apply And.intro); all_goals go_keep))
      ((go_at_call 47; go_must (refine (clone_row (some a) c bs _ (Kd.C_below HRb.out (by repeat (first | (with_reducible exact HB5.out) | (with_reducible apply below_alloc) | (with_reducible apply below_drew)))) (by omega) HL.out).mono ?_; rintro e w6 ⟨vv, rfl, hR, hb⟩; obtain ⟨A5, c5, rfl⟩ := Kd.R_slice hR; have hB56 : Below w5.heap.size w5 w6 := (by refine below_step ?_ hb; repeat (first | (with_reducible exact Below.refl _ _) | (with_reducible apply below_alloc) | (with_reducible apply below_drew))); have b0 := blk_below B0'.out hB56; have b1 := blk_below B1'.out hB56; have b2 := blk_below B2'.out hB56; have b6 := blk_below B6'.out hB56; have v0 := blk_lt b0; have v1 := blk_lt b1; have v2 := blk_lt b2; have v6 := blk_lt b6; clear c00 c01 f00 f01 c10 c11 f10 f11 c20 c21 c22 c23 f20 f21 f22 f23 c60 c61 c62 c63 f60 f61 f62 f63; obtain ⟨⟨c00, c01⟩, f00, f01⟩ := cells2 b0; obtain ⟨⟨c10, c11⟩, f10, f11⟩ := cells2 b1; obtain ⟨⟨c20, c21, c22, c23⟩, f20, f21, f22, f23⟩ := cells4 b2; obtain ⟨⟨c60, c61, c62, c63⟩, f60, f61, f62, f63⟩ := cells4 b6; have E0 := Aside0.mk b0; have E1 := Aside0.mk b1; have E2 := Aside0.mk b2; have E6 := Aside0.mk b6; clear b0 b1 b2 b6; have ER := Aside0.mk hR; have EB := Aside0.mk hB56; (try (have b11 : w6.heap[w5.heap.size]? = some (.cells #[.int .i64 0, .slice none 0 0] 59 (0, 0)) := (by with_reducible exact blk_below (blk_drew (blk_new w5 _)) hb); obtain ⟨⟨d0, d1⟩, e0, e1⟩ := cells2 b11; have y11 := blk_lt b11; have E11 := Aside0.mk b11; clear b11)); clear hR)))
    all_goals go_wp2
    all_goals go_meet
    all_goals simp only [i64_w]
    case rel => exact ⟨_, _, rfl, ⟨mid_new E0.out E1.out E2.out E6.out ER.out (by simp; omega) HB5.out EB.out (by omega)⟩⟩
    case rel => exact ⟨_, _, rfl, ⟨mid_old E0.out E1.out E2.out E6.out E11.out ER.out (by simp) HB5.out EB.out (by omega) (by omega)⟩⟩
  case rest =>
    obtain ⟨g, vv, rfl, HC⟩ := hcut
    have m := HC.out
    obtain ⟨A5, c5, rfl⟩ := Kd.R_slice m.row
    clear c00 c01 f00 f01 c10 c11 f10 f11 c20 c21 c22 c23 f20 f21 f22 f23 c60 c61 c62 c63 f60 f61 f62 f63 y6 y0 y1 y2 n6 n0 n1 n2 m6 m0 m1 m2 z0 z1 z2 HB HB5 B0 B1 B2 B0' B1' B2' B6'
    obtain ⟨⟨c00, c01⟩, f00, f01⟩ := cells2 m.b0
    obtain ⟨⟨c10, c11⟩, f10, f11⟩ := cells2 m.b1
    obtain ⟨⟨c20, c21, c22, c23⟩, f20, f21, f22, f23⟩ := cells4 m.b2
    obtain ⟨⟨c60, c61, c62, c63⟩, f60, f61, f62, f63⟩ := cells4 m.b6
    obtain ⟨⟨cg0, cg1⟩, fg0, fg1⟩ := cells2 m.bg
    have hx0 : wc.cell? (a.add bs.length) = some (.int .u64 x0) := row_at0 (Kd.C_below HR.out m.bel)
    have LB := m.bel.size
    have L6 := m.n6
    have LG := m.ng
    clear m
    go_wp2_with fail
    go_region_held3 (fun w' => w'.cell? (a.add bs.length) = some (.int .u64 x0))
      (first | go_keep | ((try dsimp only); (repeat' apply And.intro); all_goals go_keep))
      ((go_at_call 50; go_must (refine (push_mid HC.out _ (by repeat (first | (with_reducible exact Below.refl _ _) | (with_reducible apply below_alloc) | (with_reducible apply below_drew) | (with_reducible refine pw_below_drewN ?_ _))) [x0, x0] _ _ (lit_row [x0, x0] (by simp) (by repeat (first | (with_reducible exact blk_new _ _) | (with_reducible refine blk_drew ?_) | (with_reducible refine blk_drewN ?_ _) | exact blk_new _ _))) (by simp; omega)).mono ?_; rintro e w7 ⟨rfl, v7, hm⟩; obtain ⟨A7, c7, rfl⟩ := Kd.R_slice hm.row; clear c00 c01 f00 f01 c10 c11 f10 f11 c20 c21 c22 c23 f20 f21 f22 f23 c60 c61 c62 c63 f60 f61 f62 f63 cg0 cg1 fg0 fg1; obtain ⟨⟨c10, c11⟩, f10, f11⟩ := cells2 hm.b1; obtain ⟨⟨c20, c21, c22, c23⟩, f20, f21, f22, f23⟩ := cells4 hm.b2; obtain ⟨⟨cg0, cg1⟩, fg0, fg1⟩ := cells2 hm.bg; have hx0' : w7.cell? (a.add bs.length) = some (.int .u64 x0) := row_at0 (Kd.C_below HR.out hm.bel); have HM7 := Aside0.mk hm; clear hm)))
    go_wp2
    refine bodyPost_ret (v := .tuple #[.agg #[.int .i64 (wrap64 (t3 + t4)), .slice A7 (bs ++ [x0, x0]).length c7], .agg #[.int .i64 0, .int .u64 0, .int .u64 0, .int .i64 0]]) (by simp [results, Try.results45, go_sem, c10, c11, c20, c21, c22, c23, i64_w, List.length_append]) rfl ⟨_, rfl, end_row HM7.out.row HM7.out.b1 HM7.out.b2 _ _ _ _ _ _, end_below HM7.out.bel _ _ _ _ _ _⟩
end Go.Proofs.Ytjbpljcfogekhaa.Q
namespace Go.Proofs.Ytjbpljcfogekhaa.Q
open Go.RowKit Go.Proofs.YtjbpljcfogekhaaW.PrintWords Go.Proofs.YtjbpljcfogekhaaW.PrintLast Go.Proofs.YtjbpljcfogekhaaW.PrintMore
set_option linter.unusedVariables false
set_option linter.unusedSimpArgs false
set_option maxHeartbeats 4000000 in
set_option maxRecDepth 100000 in
theorem step_swap (k : Nat) (s : ByteArray) (pc : Int) (a : Addr) (c : Nat) (bs : List Int) (x0 x1 t2 t3 t4 q : Int) (w : World) (hr : Kd.C (Kd.int .u64) w (some a) (bs.length + 2) (bs ++ [x0, x1])) (hc : bs.length + 2 ≤ c) (hl : bs.length < 1000000)
    (h : code_One.f k s pc = some (4, t2, t3, t4, 0)) (h2 : code_Moves.f k 4 t2 t3 t4 = some (2, q)) (hq0 : 0 ≤ q) (hq1 : q ≤ 10) (hfit : (bs.length : Int) + q ≤ 32) :
    Calls Try.prog 45 #[.string s, .agg #[.int .i64 pc, .slice (some a) (bs.length + 2) c]] w fun e w' => ∃ v1_ : Value, e = .returned (.tuple #[.agg #[.int .i64 (wrap64 (t3 + t4)), v1_], .agg #[.int .i64 0, .int .u64 0, .int .u64 0, .int .i64 0]]) ∧ Kd.R (Kd.int .u64) 34 w' w.heap.size (fun _ => True) v1_ (bs ++ [x1, x0]) ∧ Below w.heap.size w w' := by
  have hu59 := Try.underlying59
  have hu61 := Try.underlying61
  have hu36 := Try.underlying36
  have HO := Aside0.mk h
  have HM := Aside0.mk h2
  have HR := Aside0.mk hr
  have HRb := Aside0.mk (row_front hr)
  have HL := Aside0.mk (show bs.length < 17592186044416 by omega)
  have hcb : (bs.length : Int) ≤ (c : Int) := by omega
  have hcb0 : (0 : Int) ≤ (bs.length : Int) := by omega
  clear h h2 hr
  go_enter Try.func45, Try.ntmps45
  go_wp2_with (first
    | (go_at_call 20; refine (code_One.calls k s pc 4 t2 t3 t4 0 _ HO.out).mono ?_; rintro e w4 ⟨rfl, hb⟩; obtain ⟨b0, b1, b2, hB, hz4⟩ := three_blocks hb; have z0 : w.heap.size < w4.heap.size := (by omega); have z1 : w.heap.size + 1 < w4.heap.size := (by omega); have z2 : w.heap.size + 1 + 1 < w4.heap.size := (by omega); clear hz4; obtain ⟨⟨c00, c01⟩, f00, f01⟩ := cells2 b0; obtain ⟨⟨c10, c11⟩, f10, f11⟩ := cells2 b1; obtain ⟨⟨c20, c21, c22, c23⟩, f20, f21, f22, f23⟩ := cells4 b2; have B0 := Aside0.mk b0; have B1 := Aside0.mk b1; have B2 := Aside0.mk b2; have HB := Aside0.mk hB; clear b0 b1 b2 hB hb)
    | (go_at_call 23; refine (code_Moves.calls k 4 t2 t3 t4 2 q _ HM.out).mono ?_; rintro e w5 ⟨rfl, hb⟩; have b0 := blk_below (blk_alloc B0.out _) hb; have b1 := blk_below (blk_alloc B1.out _) hb; have b2 := blk_below (blk_alloc B2.out _) hb; have b6 := blk_below (blk_new w4 _) hb; have HB5 := Aside0.mk (below_step (below_alloc HB.out _) hb); have y6 : w4.heap.size < w5.heap.size := (blk_lt b6); have y0 : w.heap.size < w5.heap.size := (blk_lt b0); have y1 : w.heap.size + 1 < w5.heap.size := (blk_lt b1); have y2 : w.heap.size + 1 + 1 < w5.heap.size := (blk_lt b2); have n6 : ¬ w4.heap.size = w5.heap.size := (Nat.ne_of_lt y6); have n0 : ¬ w.heap.size = w5.heap.size := (Nat.ne_of_lt y0); have n1 : ¬ w.heap.size + 1 = w5.heap.size := (Nat.ne_of_lt y1); have n2 : ¬ w.heap.size + 1 + 1 = w5.heap.size := (Nat.ne_of_lt y2); have m6 : ¬ w5.heap.size = w4.heap.size := (Nat.ne_of_gt y6); have m0 : ¬ w5.heap.size = w.heap.size := (Nat.ne_of_gt y0); have m1 : ¬ w5.heap.size = w.heap.size + 1 := (Nat.ne_of_gt y1); have m2 : ¬ w5.heap.size = w.heap.size + 1 + 1 := (Nat.ne_of_gt y2); clear c00 c01 f00 f01 c10 c11 f10 f11 c20 c21 c22 c23 f20 f21 f22 f23; obtain ⟨⟨c00, c01⟩, f00, f01⟩ := cells2 b0; obtain ⟨⟨c10, c11⟩, f10, f11⟩ := cells2 b1; obtain ⟨⟨c20, c21, c22, c23⟩, f20, f21, f22, f23⟩ := cells4 b2; obtain ⟨⟨c60, c61, c62, c63⟩, f60, f61, f62, f63⟩ := cells4 b6; have B0' := Aside0.mk b0; have B1' := Aside0.mk b1; have B2' := Aside0.mk b2; have B6' := Aside0.mk b6; clear b0 b1 b2 b6 hb))
  go_cut [11] (fun v11 wc => ∃ (g : Nat) (vv : Value), v11 = .pointer (some ⟨g, 0, none⟩) ∧ Aside0 (StepMid w wc w4.heap.size g pc (some a) (bs.length + 2) c 4 t2 t3 t4 (wrap64 (t3 + t4)) vv bs))
  case first =>
    go_region_held3 (fun w' => w'.cell? ⟨w4.heap.size, 2, none⟩ = some (.int .i64 t3) ∧ w'.cell? ⟨w4.heap.size, 3, none⟩ = some (.int .i64 t4) ∧ w'.cell? ⟨w.heap.size, 1, none⟩ = some (.slice (some a) (bs.length + 2) c))
      (first | go_keep | ((try dsimp only); (repeat' apply And.intro); all_goals go_keep))
      ((go_at_call 47; go_must (refine (clone_row (some a) c bs _ (Kd.C_below HRb.out (by repeat (first | (with_reducible exact HB5.out) | (with_reducible apply below_alloc) | (with_reducible apply below_drew)))) (by omega) HL.out).mono ?_; rintro e w6 ⟨vv, rfl, hR, hb⟩; obtain ⟨A5, c5, rfl⟩ := Kd.R_slice hR; have hB56 : Below w5.heap.size w5 w6 := (by refine below_step ?_ hb; repeat (first | (with_reducible exact Below.refl _ _) | (with_reducible apply below_alloc) | (with_reducible apply below_drew))); have b0 := blk_below B0'.out hB56; have b1 := blk_below B1'.out hB56; have b2 := blk_below B2'.out hB56; have b6 := blk_below B6'.out hB56; have v0 := blk_lt b0; have v1 := blk_lt b1; have v2 := blk_lt b2; have v6 := blk_lt b6; clear c00 c01 f00 f01 c10 c11 f10 f11 c20 c21 c22 c23 f20 f21 f22 f23 c60 c61 c62 c63 f60 f61 f62 f63; obtain ⟨⟨c00, c01⟩, f00, f01⟩ := cells2 b0; obtain ⟨⟨c10, c11⟩, f10, f11⟩ := cells2 b1; obtain ⟨⟨c20, c21, c22, c23⟩, f20, f21, f22, f23⟩ := cells4 b2; obtain ⟨⟨c60, c61, c62, c63⟩, f60, f61, f62, f63⟩ := cells4 b6; have E0 := Aside0.mk b0; have E1 := Aside0.mk b1; have E2 := Aside0.mk b2; have E6 := Aside0.mk b6; clear b0 b1 b2 b6; have ER := Aside0.mk hR; have EB := Aside0.mk hB56; (try (have b11 : w6.heap[w5.heap.size]? = some (.cells #[.int .i64 0, .slice none 0 0] 59 (0, 0)) := (by with_reducible exact blk_below (blk_drew (blk_new w5 _)) hb); obtain ⟨⟨d0, d1⟩, e0, e1⟩ := cells2 b11; have y11 := blk_lt b11; have E11 := Aside0.mk b11; clear b11)); clear hR)))
    all_goals go_wp2
    all_goals go_meet
    all_goals simp only [i64_w]
    case rel => exact ⟨_, _, rfl, ⟨mid_new E0.out E1.out E2.out E6.out ER.out (by simp; omega) HB5.out EB.out (by omega)⟩⟩
    case rel => exact ⟨_, _, rfl, ⟨mid_old E0.out E1.out E2.out E6.out E11.out ER.out (by simp) HB5.out EB.out (by omega) (by omega)⟩⟩
  case rest =>
    obtain ⟨g, vv, rfl, HC⟩ := hcut
    have m := HC.out
    obtain ⟨A5, c5, rfl⟩ := Kd.R_slice m.row
    clear c00 c01 f00 f01 c10 c11 f10 f11 c20 c21 c22 c23 f20 f21 f22 f23 c60 c61 c62 c63 f60 f61 f62 f63 y6 y0 y1 y2 n6 n0 n1 n2 m6 m0 m1 m2 z0 z1 z2 HB HB5 B0 B1 B2 B0' B1' B2' B6'
    obtain ⟨⟨c00, c01⟩, f00, f01⟩ := cells2 m.b0
    obtain ⟨⟨c10, c11⟩, f10, f11⟩ := cells2 m.b1
    obtain ⟨⟨c20, c21, c22, c23⟩, f20, f21, f22, f23⟩ := cells4 m.b2
    obtain ⟨⟨c60, c61, c62, c63⟩, f60, f61, f62, f63⟩ := cells4 m.b6
    obtain ⟨⟨cg0, cg1⟩, fg0, fg1⟩ := cells2 m.bg
    have hx0 : wc.cell? (a.add bs.length) = some (.int .u64 x0) := row_at0 (Kd.C_below HR.out m.bel)
    have hx1 : wc.cell? ⟨(a.add bs.length).block, (a.add bs.length).off + 1, none⟩ = some (.int .u64 x1) := row_at1f (Kd.C_below HR.out m.bel)
    have LB := m.bel.size
    have L6 := m.n6
    have LG := m.ng
    clear m
    go_wp2_with fail
    go_region_held3 (fun w' => w'.cell? (a.add bs.length) = some (.int .u64 x0) ∧ w'.cell? ⟨(a.add bs.length).block, (a.add bs.length).off + 1, none⟩ = some (.int .u64 x1))
      (first | go_keep | ((try dsimp only); (repeat' apply And.intro); all_goals go_keep))
      ((go_at_call 50; go_must (refine (push_mid HC.out _ (by repeat (first | (with_reducible exact Below.refl _ _) | (with_reducible apply below_alloc) | (with_reducible apply below_drew) | (with_reducible refine pw_below_drewN ?_ _))) [x1, x0] _ _ (lit_row [x1, x0] (by simp) (by repeat (first | (with_reducible exact blk_new _ _) | (with_reducible refine blk_drew ?_) | (with_reducible refine blk_drewN ?_ _) | exact blk_new _ _))) (by simp; omega)).mono ?_; rintro e w7 ⟨rfl, v7, hm⟩; obtain ⟨A7, c7, rfl⟩ := Kd.R_slice hm.row; clear c00 c01 f00 f01 c10 c11 f10 f11 c20 c21 c22 c23 f20 f21 f22 f23 c60 c61 c62 c63 f60 f61 f62 f63 cg0 cg1 fg0 fg1; obtain ⟨⟨c10, c11⟩, f10, f11⟩ := cells2 hm.b1; obtain ⟨⟨c20, c21, c22, c23⟩, f20, f21, f22, f23⟩ := cells4 hm.b2; obtain ⟨⟨cg0, cg1⟩, fg0, fg1⟩ := cells2 hm.bg; have hx0' : w7.cell? (a.add bs.length) = some (.int .u64 x0) := row_at0 (Kd.C_below HR.out hm.bel); have hx1' : w7.cell? ⟨(a.add bs.length).block, (a.add bs.length).off + 1, none⟩ = some (.int .u64 x1) := row_at1f (Kd.C_below HR.out hm.bel); have HM7 := Aside0.mk hm; clear hm)))
    go_wp2
    refine bodyPost_ret (v := .tuple #[.agg #[.int .i64 (wrap64 (t3 + t4)), .slice A7 (bs ++ [x1, x0]).length c7], .agg #[.int .i64 0, .int .u64 0, .int .u64 0, .int .i64 0]]) (by simp [results, Try.results45, go_sem, c10, c11, c20, c21, c22, c23, i64_w, List.length_append]) rfl ⟨_, rfl, end_row HM7.out.row HM7.out.b1 HM7.out.b2 _ _ _ _ _ _, end_below HM7.out.bel _ _ _ _ _ _⟩
end Go.Proofs.Ytjbpljcfogekhaa.Q
namespace Go.Proofs.Ytjbpljcfogekhaa.Q
open Go.RowKit Go.Proofs.YtjbpljcfogekhaaW.PrintWords Go.Proofs.YtjbpljcfogekhaaW.PrintLast Go.Proofs.YtjbpljcfogekhaaW.PrintMore
set_option linter.unusedVariables false
set_option linter.unusedSimpArgs false
set_option maxHeartbeats 4000000 in
set_option maxRecDepth 100000 in
theorem step_over (k : Nat) (s : ByteArray) (pc : Int) (a : Addr) (c : Nat) (bs : List Int) (x0 x1 t2 t3 t4 q : Int) (w : World) (hr : Kd.C (Kd.int .u64) w (some a) (bs.length + 2) (bs ++ [x0, x1])) (hc : bs.length + 2 ≤ c) (hl : bs.length < 1000000)
    (h : code_One.f k s pc = some (5, t2, t3, t4, 0)) (h2 : code_Moves.f k 5 t2 t3 t4 = some (2, q)) (hq0 : 0 ≤ q) (hq1 : q ≤ 10) (hfit : (bs.length : Int) + q ≤ 32) :
    Calls Try.prog 45 #[.string s, .agg #[.int .i64 pc, .slice (some a) (bs.length + 2) c]] w fun e w' => ∃ v1_ : Value, e = .returned (.tuple #[.agg #[.int .i64 (wrap64 (t3 + t4)), v1_], .agg #[.int .i64 0, .int .u64 0, .int .u64 0, .int .i64 0]]) ∧ Kd.R (Kd.int .u64) 34 w' w.heap.size (fun _ => True) v1_ (bs ++ [x0, x1, x0]) ∧ Below w.heap.size w w' := by
  have hu59 := Try.underlying59
  have hu61 := Try.underlying61
  have hu36 := Try.underlying36
  have HO := Aside0.mk h
  have HM := Aside0.mk h2
  have HR := Aside0.mk hr
  have HRb := Aside0.mk (row_front hr)
  have HL := Aside0.mk (show bs.length < 17592186044416 by omega)
  have hcb : (bs.length : Int) ≤ (c : Int) := by omega
  have hcb0 : (0 : Int) ≤ (bs.length : Int) := by omega
  clear h h2 hr
  go_enter Try.func45, Try.ntmps45
  go_wp2_with (first
    | (go_at_call 20; refine (code_One.calls k s pc 5 t2 t3 t4 0 _ HO.out).mono ?_; rintro e w4 ⟨rfl, hb⟩; obtain ⟨b0, b1, b2, hB, hz4⟩ := three_blocks hb; have z0 : w.heap.size < w4.heap.size := (by omega); have z1 : w.heap.size + 1 < w4.heap.size := (by omega); have z2 : w.heap.size + 1 + 1 < w4.heap.size := (by omega); clear hz4; obtain ⟨⟨c00, c01⟩, f00, f01⟩ := cells2 b0; obtain ⟨⟨c10, c11⟩, f10, f11⟩ := cells2 b1; obtain ⟨⟨c20, c21, c22, c23⟩, f20, f21, f22, f23⟩ := cells4 b2; have B0 := Aside0.mk b0; have B1 := Aside0.mk b1; have B2 := Aside0.mk b2; have HB := Aside0.mk hB; clear b0 b1 b2 hB hb)
    | (go_at_call 23; refine (code_Moves.calls k 5 t2 t3 t4 2 q _ HM.out).mono ?_; rintro e w5 ⟨rfl, hb⟩; have b0 := blk_below (blk_alloc B0.out _) hb; have b1 := blk_below (blk_alloc B1.out _) hb; have b2 := blk_below (blk_alloc B2.out _) hb; have b6 := blk_below (blk_new w4 _) hb; have HB5 := Aside0.mk (below_step (below_alloc HB.out _) hb); have y6 : w4.heap.size < w5.heap.size := (blk_lt b6); have y0 : w.heap.size < w5.heap.size := (blk_lt b0); have y1 : w.heap.size + 1 < w5.heap.size := (blk_lt b1); have y2 : w.heap.size + 1 + 1 < w5.heap.size := (blk_lt b2); have n6 : ¬ w4.heap.size = w5.heap.size := (Nat.ne_of_lt y6); have n0 : ¬ w.heap.size = w5.heap.size := (Nat.ne_of_lt y0); have n1 : ¬ w.heap.size + 1 = w5.heap.size := (Nat.ne_of_lt y1); have n2 : ¬ w.heap.size + 1 + 1 = w5.heap.size := (Nat.ne_of_lt y2); have m6 : ¬ w5.heap.size = w4.heap.size := (Nat.ne_of_gt y6); have m0 : ¬ w5.heap.size = w.heap.size := (Nat.ne_of_gt y0); have m1 : ¬ w5.heap.size = w.heap.size + 1 := (Nat.ne_of_gt y1); have m2 : ¬ w5.heap.size = w.heap.size + 1 + 1 := (Nat.ne_of_gt y2); clear c00 c01 f00 f01 c10 c11 f10 f11 c20 c21 c22 c23 f20 f21 f22 f23; obtain ⟨⟨c00, c01⟩, f00, f01⟩ := cells2 b0; obtain ⟨⟨c10, c11⟩, f10, f11⟩ := cells2 b1; obtain ⟨⟨c20, c21, c22, c23⟩, f20, f21, f22, f23⟩ := cells4 b2; obtain ⟨⟨c60, c61, c62, c63⟩, f60, f61, f62, f63⟩ := cells4 b6; have B0' := Aside0.mk b0; have B1' := Aside0.mk b1; have B2' := Aside0.mk b2; have B6' := Aside0.mk b6; clear b0 b1 b2 b6 hb))
  go_cut [11] (fun v11 wc => ∃ (g : Nat) (vv : Value), v11 = .pointer (some ⟨g, 0, none⟩) ∧ Aside0 (StepMid w wc w4.heap.size g pc (some a) (bs.length + 2) c 5 t2 t3 t4 (wrap64 (t3 + t4)) vv bs))
  case first =>
    go_region_held3 (fun w' => w'.cell? ⟨w4.heap.size, 2, none⟩ = some (.int .i64 t3) ∧ w'.cell? ⟨w4.heap.size, 3, none⟩ = some (.int .i64 t4) ∧ w'.cell? ⟨w.heap.size, 1, none⟩ = some (.slice (some a) (bs.length + 2) c))
      (first | go_keep | ((try dsimp only); (repeat' apply And.intro); all_goals go_keep))
      ((go_at_call 47; go_must (refine (clone_row (some a) c bs _ (Kd.C_below HRb.out (by repeat (first | (with_reducible exact HB5.out) | (with_reducible apply below_alloc) | (with_reducible apply below_drew)))) (by omega) HL.out).mono ?_; rintro e w6 ⟨vv, rfl, hR, hb⟩; obtain ⟨A5, c5, rfl⟩ := Kd.R_slice hR; have hB56 : Below w5.heap.size w5 w6 := (by refine below_step ?_ hb; repeat (first | (with_reducible exact Below.refl _ _) | (with_reducible apply below_alloc) | (with_reducible apply below_drew))); have b0 := blk_below B0'.out hB56; have b1 := blk_below B1'.out hB56; have b2 := blk_below B2'.out hB56; have b6 := blk_below B6'.out hB56; have v0 := blk_lt b0; have v1 := blk_lt b1; have v2 := blk_lt b2; have v6 := blk_lt b6; clear c00 c01 f00 f01 c10 c11 f10 f11 c20 c21 c22 c23 f20 f21 f22 f23 c60 c61 c62 c63 f60 f61 f62 f63; obtain ⟨⟨c00, c01⟩, f00, f01⟩ := cells2 b0; obtain ⟨⟨c10, c11⟩, f10, f11⟩ := cells2 b1; obtain ⟨⟨c20, c21, c22, c23⟩, f20, f21, f22, f23⟩ := cells4 b2; obtain ⟨⟨c60, c61, c62, c63⟩, f60, f61, f62, f63⟩ := cells4 b6; have E0 := Aside0.mk b0; have E1 := Aside0.mk b1; have E2 := Aside0.mk b2; have E6 := Aside0.mk b6; clear b0 b1 b2 b6; have ER := Aside0.mk hR; have EB := Aside0.mk hB56; (try (have b11 : w6.heap[w5.heap.size]? = some (.cells #[.int .i64 0, .slice none 0 0] 59 (0, 0)) := (by with_reducible exact blk_below (blk_drew (blk_new w5 _)) hb); obtain ⟨⟨d0, d1⟩, e0, e1⟩ := cells2 b11; have y11 := blk_lt b11; have E11 := Aside0.mk b11; clear b11)); clear hR)))
    all_goals go_wp2
    all_goals go_meet
    all_goals simp only [i64_w]
    case rel => exact ⟨_, _, rfl, ⟨mid_new E0.out E1.out E2.out E6.out ER.out (by simp; omega) HB5.out EB.out (by omega)⟩⟩
    case rel => exact ⟨_, _, rfl, ⟨mid_old E0.out E1.out E2.out E6.out E11.out ER.out (by simp) HB5.out EB.out (by omega) (by omega)⟩⟩
  case rest =>
    obtain ⟨g, vv, rfl, HC⟩ := hcut
    have m := HC.out
    obtain ⟨A5, c5, rfl⟩ := Kd.R_slice m.row
    clear c00 c01 f00 f01 c10 c11 f10 f11 c20 c21 c22 c23 f20 f21 f22 f23 c60 c61 c62 c63 f60 f61 f62 f63 y6 y0 y1 y2 n6 n0 n1 n2 m6 m0 m1 m2 z0 z1 z2 HB HB5 B0 B1 B2 B0' B1' B2' B6'
    obtain ⟨⟨c00, c01⟩, f00, f01⟩ := cells2 m.b0
    obtain ⟨⟨c10, c11⟩, f10, f11⟩ := cells2 m.b1
    obtain ⟨⟨c20, c21, c22, c23⟩, f20, f21, f22, f23⟩ := cells4 m.b2
    obtain ⟨⟨c60, c61, c62, c63⟩, f60, f61, f62, f63⟩ := cells4 m.b6
    obtain ⟨⟨cg0, cg1⟩, fg0, fg1⟩ := cells2 m.bg
    have hx0 : wc.cell? (a.add bs.length) = some (.int .u64 x0) := row_at0 (Kd.C_below HR.out m.bel)
    have hx1 : wc.cell? ⟨(a.add bs.length).block, (a.add bs.length).off + 1, none⟩ = some (.int .u64 x1) := row_at1f (Kd.C_below HR.out m.bel)
    have LB := m.bel.size
    have L6 := m.n6
    have LG := m.ng
    clear m
    go_wp2_with fail
    go_region_held3 (fun w' => w'.cell? (a.add bs.length) = some (.int .u64 x0) ∧ w'.cell? ⟨(a.add bs.length).block, (a.add bs.length).off + 1, none⟩ = some (.int .u64 x1))
      (first | go_keep | ((try dsimp only); (repeat' apply And.intro); all_goals go_keep))
      ((go_at_call 50; go_must (refine (push_mid HC.out _ (by repeat (first | (with_reducible exact Below.refl _ _) | (with_reducible apply below_alloc) | (with_reducible apply below_drew) | (with_reducible refine pw_below_drewN ?_ _))) [x0, x1, x0] _ _ (lit_row [x0, x1, x0] (by simp) (by repeat (first | (with_reducible exact blk_new _ _) | (with_reducible refine blk_drew ?_) | (with_reducible refine blk_drewN ?_ _) | exact blk_new _ _))) (by simp; omega)).mono ?_; rintro e w7 ⟨rfl, v7, hm⟩; obtain ⟨A7, c7, rfl⟩ := Kd.R_slice hm.row; clear c00 c01 f00 f01 c10 c11 f10 f11 c20 c21 c22 c23 f20 f21 f22 f23 c60 c61 c62 c63 f60 f61 f62 f63 cg0 cg1 fg0 fg1; obtain ⟨⟨c10, c11⟩, f10, f11⟩ := cells2 hm.b1; obtain ⟨⟨c20, c21, c22, c23⟩, f20, f21, f22, f23⟩ := cells4 hm.b2; obtain ⟨⟨cg0, cg1⟩, fg0, fg1⟩ := cells2 hm.bg; have hx0' : w7.cell? (a.add bs.length) = some (.int .u64 x0) := row_at0 (Kd.C_below HR.out hm.bel); have hx1' : w7.cell? ⟨(a.add bs.length).block, (a.add bs.length).off + 1, none⟩ = some (.int .u64 x1) := row_at1f (Kd.C_below HR.out hm.bel); have HM7 := Aside0.mk hm; clear hm)))
    go_wp2
    refine bodyPost_ret (v := .tuple #[.agg #[.int .i64 (wrap64 (t3 + t4)), .slice A7 (bs ++ [x0, x1, x0]).length c7], .agg #[.int .i64 0, .int .u64 0, .int .u64 0, .int .i64 0]]) (by simp [results, Try.results45, go_sem, c10, c11, c20, c21, c22, c23, i64_w, List.length_append]) rfl ⟨_, rfl, end_row HM7.out.row HM7.out.b1 HM7.out.b2 _ _ _ _ _ _, end_below HM7.out.bel _ _ _ _ _ _⟩
end Go.Proofs.Ytjbpljcfogekhaa.Q
namespace Go.Proofs.Ytjbpljcfogekhaa.Q
open Go.RowKit Go.Proofs.YtjbpljcfogekhaaW.PrintWords Go.Proofs.YtjbpljcfogekhaaW.PrintLast Go.Proofs.YtjbpljcfogekhaaW.PrintMore
set_option linter.unusedVariables false
set_option linter.unusedSimpArgs false
set_option maxHeartbeats 4000000 in
set_option maxRecDepth 100000 in
theorem step_load (k : Nat) (s : ByteArray) (pc : Int) (a : Addr) (c : Nat) (bs : List Int) (x0 t2 t3 t4 q : Int) (w : World) (hr : Kd.C (Kd.int .u64) w (some a) (bs.length + 1) (bs ++ [x0])) (hc : bs.length + 1 ≤ c) (hl : bs.length < 1000000)
    (h : code_One.f k s pc = some (19, t2, t3, t4, 0)) (h2 : code_Moves.f k 19 t2 t3 t4 = some (1, q)) (hq0 : 0 ≤ q) (hq1 : q ≤ 10) (hfit : (bs.length : Int) + q ≤ 32) :
    Calls Try.prog 45 #[.string s, .agg #[.int .i64 pc, .slice (some a) (bs.length + 1) c]] w fun e w' => ∃ v1_ : Value, e = .returned (.tuple #[.agg #[.int .i64 (wrap64 (t3 + t4)), v1_], .agg #[.int .i64 1, .int .u64 x0, .int .u64 0, .int .i64 0]]) ∧ Kd.R (Kd.int .u64) 34 w' w.heap.size (fun _ => True) v1_ (bs) ∧ Below w.heap.size w w' := by
  have hu59 := Try.underlying59
  have hu61 := Try.underlying61
  have hu36 := Try.underlying36
  have HO := Aside0.mk h
  have HM := Aside0.mk h2
  have HR := Aside0.mk hr
  have HRb := Aside0.mk (row_front hr)
  have HL := Aside0.mk (show bs.length < 17592186044416 by omega)
  have hcb : (bs.length : Int) ≤ (c : Int) := by omega
  have hcb0 : (0 : Int) ≤ (bs.length : Int) := by omega
  clear h h2 hr
  go_enter Try.func45, Try.ntmps45
  go_wp2_with (first
    | (go_at_call 20; refine (code_One.calls k s pc 19 t2 t3 t4 0 _ HO.out).mono ?_; rintro e w4 ⟨rfl, hb⟩; obtain ⟨b0, b1, b2, hB, hz4⟩ := three_blocks hb; have z0 : w.heap.size < w4.heap.size := (by omega); have z1 : w.heap.size + 1 < w4.heap.size := (by omega); have z2 : w.heap.size + 1 + 1 < w4.heap.size := (by omega); clear hz4; obtain ⟨⟨c00, c01⟩, f00, f01⟩ := cells2 b0; obtain ⟨⟨c10, c11⟩, f10, f11⟩ := cells2 b1; obtain ⟨⟨c20, c21, c22, c23⟩, f20, f21, f22, f23⟩ := cells4 b2; have B0 := Aside0.mk b0; have B1 := Aside0.mk b1; have B2 := Aside0.mk b2; have HB := Aside0.mk hB; clear b0 b1 b2 hB hb)
    | (go_at_call 23; refine (code_Moves.calls k 19 t2 t3 t4 1 q _ HM.out).mono ?_; rintro e w5 ⟨rfl, hb⟩; have b0 := blk_below (blk_alloc B0.out _) hb; have b1 := blk_below (blk_alloc B1.out _) hb; have b2 := blk_below (blk_alloc B2.out _) hb; have b6 := blk_below (blk_new w4 _) hb; have HB5 := Aside0.mk (below_step (below_alloc HB.out _) hb); have y6 : w4.heap.size < w5.heap.size := (blk_lt b6); have y0 : w.heap.size < w5.heap.size := (blk_lt b0); have y1 : w.heap.size + 1 < w5.heap.size := (blk_lt b1); have y2 : w.heap.size + 1 + 1 < w5.heap.size := (blk_lt b2); have n6 : ¬ w4.heap.size = w5.heap.size := (Nat.ne_of_lt y6); have n0 : ¬ w.heap.size = w5.heap.size := (Nat.ne_of_lt y0); have n1 : ¬ w.heap.size + 1 = w5.heap.size := (Nat.ne_of_lt y1); have n2 : ¬ w.heap.size + 1 + 1 = w5.heap.size := (Nat.ne_of_lt y2); have m6 : ¬ w5.heap.size = w4.heap.size := (Nat.ne_of_gt y6); have m0 : ¬ w5.heap.size = w.heap.size := (Nat.ne_of_gt y0); have m1 : ¬ w5.heap.size = w.heap.size + 1 := (Nat.ne_of_gt y1); have m2 : ¬ w5.heap.size = w.heap.size + 1 + 1 := (Nat.ne_of_gt y2); clear c00 c01 f00 f01 c10 c11 f10 f11 c20 c21 c22 c23 f20 f21 f22 f23; obtain ⟨⟨c00, c01⟩, f00, f01⟩ := cells2 b0; obtain ⟨⟨c10, c11⟩, f10, f11⟩ := cells2 b1; obtain ⟨⟨c20, c21, c22, c23⟩, f20, f21, f22, f23⟩ := cells4 b2; obtain ⟨⟨c60, c61, c62, c63⟩, f60, f61, f62, f63⟩ := cells4 b6; have B0' := Aside0.mk b0; have B1' := Aside0.mk b1; have B2' := Aside0.mk b2; have B6' := Aside0.mk b6; clear b0 b1 b2 b6 hb))
  go_cut [11] (fun v11 wc => ∃ (g : Nat) (vv : Value), v11 = .pointer (some ⟨g, 0, none⟩) ∧ Aside0 (StepMid w wc w4.heap.size g pc (some a) (bs.length + 1) c 19 t2 t3 t4 (wrap64 (t3 + t4)) vv bs))
  case first =>
    go_region_held3 (fun w' => w'.cell? ⟨w4.heap.size, 2, none⟩ = some (.int .i64 t3) ∧ w'.cell? ⟨w4.heap.size, 3, none⟩ = some (.int .i64 t4) ∧ w'.cell? ⟨w.heap.size, 1, none⟩ = some (.slice (some a) (bs.length + 1) c))
      (first | go_keep | ((try dsimp only); (repeat' apply And.intro); all_goals go_keep))
      ((go_at_call 47; go_must (refine (clone_row (some a) c bs _ (Kd.C_below HRb.out (by repeat (first | (with_reducible exact HB5.out) | (with_reducible apply below_alloc) | (with_reducible apply below_drew)))) (by omega) HL.out).mono ?_; rintro e w6 ⟨vv, rfl, hR, hb⟩; obtain ⟨A5, c5, rfl⟩ := Kd.R_slice hR; have hB56 : Below w5.heap.size w5 w6 := (by refine below_step ?_ hb; repeat (first | (with_reducible exact Below.refl _ _) | (with_reducible apply below_alloc) | (with_reducible apply below_drew))); have b0 := blk_below B0'.out hB56; have b1 := blk_below B1'.out hB56; have b2 := blk_below B2'.out hB56; have b6 := blk_below B6'.out hB56; have v0 := blk_lt b0; have v1 := blk_lt b1; have v2 := blk_lt b2; have v6 := blk_lt b6; clear c00 c01 f00 f01 c10 c11 f10 f11 c20 c21 c22 c23 f20 f21 f22 f23 c60 c61 c62 c63 f60 f61 f62 f63; obtain ⟨⟨c00, c01⟩, f00, f01⟩ := cells2 b0; obtain ⟨⟨c10, c11⟩, f10, f11⟩ := cells2 b1; obtain ⟨⟨c20, c21, c22, c23⟩, f20, f21, f22, f23⟩ := cells4 b2; obtain ⟨⟨c60, c61, c62, c63⟩, f60, f61, f62, f63⟩ := cells4 b6; have E0 := Aside0.mk b0; have E1 := Aside0.mk b1; have E2 := Aside0.mk b2; have E6 := Aside0.mk b6; clear b0 b1 b2 b6; have ER := Aside0.mk hR; have EB := Aside0.mk hB56; (try (have b11 : w6.heap[w5.heap.size]? = some (.cells #[.int .i64 0, .slice none 0 0] 59 (0, 0)) := (by with_reducible exact blk_below (blk_drew (blk_new w5 _)) hb); obtain ⟨⟨d0, d1⟩, e0, e1⟩ := cells2 b11; have y11 := blk_lt b11; have E11 := Aside0.mk b11; clear b11)); clear hR)))
    all_goals go_wp2
    all_goals go_meet
    all_goals simp only [i64_w]
    case rel => exact ⟨_, _, rfl, ⟨mid_new E0.out E1.out E2.out E6.out ER.out (by simp; omega) HB5.out EB.out (by omega)⟩⟩
    case rel => exact ⟨_, _, rfl, ⟨mid_old E0.out E1.out E2.out E6.out E11.out ER.out (by simp) HB5.out EB.out (by omega) (by omega)⟩⟩
  case rest =>
    obtain ⟨g, vv, rfl, HC⟩ := hcut
    have m := HC.out
    obtain ⟨A5, c5, rfl⟩ := Kd.R_slice m.row
    clear c00 c01 f00 f01 c10 c11 f10 f11 c20 c21 c22 c23 f20 f21 f22 f23 c60 c61 c62 c63 f60 f61 f62 f63 y6 y0 y1 y2 n6 n0 n1 n2 m6 m0 m1 m2 z0 z1 z2 HB HB5 B0 B1 B2 B0' B1' B2' B6'
    obtain ⟨⟨c00, c01⟩, f00, f01⟩ := cells2 m.b0
    obtain ⟨⟨c10, c11⟩, f10, f11⟩ := cells2 m.b1
    obtain ⟨⟨c20, c21, c22, c23⟩, f20, f21, f22, f23⟩ := cells4 m.b2
    obtain ⟨⟨c60, c61, c62, c63⟩, f60, f61, f62, f63⟩ := cells4 m.b6
    obtain ⟨⟨cg0, cg1⟩, fg0, fg1⟩ := cells2 m.bg
    have hx0 : wc.cell? (a.add bs.length) = some (.int .u64 x0) := row_at0 (Kd.C_below HR.out m.bel)
    have LB := m.bel.size
    have L6 := m.n6
    have LG := m.ng
    clear m
    have ha := World.block_lt_of_cell? w _ (row_at0 HR.out)
    have s10 : ∀ (W : World) (v : Value), (W.setCell ⟨w.heap.size + 1, 0, none⟩ v).cell? (a.add bs.length) = W.cell? (a.add bs.length) := set_far (by show _ ≠ w.heap.size + 1; omega)
    have s11 : ∀ (W : World) (v : Value), (W.setCell ⟨w.heap.size + 1, 1, none⟩ v).cell? (a.add bs.length) = W.cell? (a.add bs.length) := set_far (by show _ ≠ w.heap.size + 1; omega)
    have s12 : ∀ (W : World) (v : Value), (W.setCell ⟨w.heap.size + 1, 2, none⟩ v).cell? (a.add bs.length) = W.cell? (a.add bs.length) := set_far (by show _ ≠ w.heap.size + 1; omega)
    have s13 : ∀ (W : World) (v : Value), (W.setCell ⟨w.heap.size + 1, 3, none⟩ v).cell? (a.add bs.length) = W.cell? (a.add bs.length) := set_far (by show _ ≠ w.heap.size + 1; omega)
    have s20 : ∀ (W : World) (v : Value), (W.setCell ⟨w.heap.size + 1 + 1, 0, none⟩ v).cell? (a.add bs.length) = W.cell? (a.add bs.length) := set_far (by show _ ≠ w.heap.size + 1 + 1; omega)
    have s21 : ∀ (W : World) (v : Value), (W.setCell ⟨w.heap.size + 1 + 1, 1, none⟩ v).cell? (a.add bs.length) = W.cell? (a.add bs.length) := set_far (by show _ ≠ w.heap.size + 1 + 1; omega)
    have s22 : ∀ (W : World) (v : Value), (W.setCell ⟨w.heap.size + 1 + 1, 2, none⟩ v).cell? (a.add bs.length) = W.cell? (a.add bs.length) := set_far (by show _ ≠ w.heap.size + 1 + 1; omega)
    have s23 : ∀ (W : World) (v : Value), (W.setCell ⟨w.heap.size + 1 + 1, 3, none⟩ v).cell? (a.add bs.length) = W.cell? (a.add bs.length) := set_far (by show _ ≠ w.heap.size + 1 + 1; omega)
    have ng1 : ¬ g = w.heap.size + 1 := by omega
    have ng2 : ¬ g = w.heap.size + 1 + 1 := by omega
    have ng1' : ¬ w.heap.size + 1 = g := by omega
    have ng2' : ¬ w.heap.size + 1 + 1 = g := by omega
    go_wp2
    go_region
    go_wp2
    refine bodyPost_ret (v := .tuple #[.agg #[.int .i64 (wrap64 (t3 + t4)), .slice A5 bs.length c5], .agg #[.int .i64 1, .int .u64 x0, .int .u64 0, .int .i64 0]]) (by simp [results, Try.results45, go_sem, c10, c11, c20, c21, c22, c23, i64_w]) rfl ⟨_, rfl, Kd.R_drew (end_row HC.out.row HC.out.b1 HC.out.b2 _ _ _ _ _ _), below_drew (end_below HC.out.bel _ _ _ _ _ _)⟩
end Go.Proofs.Ytjbpljcfogekhaa.Q
