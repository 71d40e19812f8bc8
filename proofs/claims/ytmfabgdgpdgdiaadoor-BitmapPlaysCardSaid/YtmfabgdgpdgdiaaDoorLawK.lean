/- What the four laws of chapter 14 share: the table in its variable, a world for the witness, deeds and words that came in. -/
import Derived.Test.YtmfabgdgpdgdiaaDoorCards
import Derived.Test.YtmfabgdgpdgdiaaDoorTie
import Derived.Test.YtmfabgdgpdgdiaaDoorBitI
import Derived.WalkKit
import Derived.ProofKit
import Derived.OpenShut
import Derived.Deep.DeepHandedRow
import Derived.Deep.Slices
import Derived.Lib.LaidTab
import Derived.Lib.SmallJoins
import Derived.Deep.Strs
namespace Go.Proofs.YtmfabgdgpdgdiaaDoor.K
open Go.ChangeShapes Go.WideShapes Go.ChangeAt Go.RowKit Go.Proofs.YtmfabgdgpdgdiaaDoor.Q Go.Proofs.YtmfabgdgpdgdiaaDoorW.PrintWords
set_option linter.unusedVariables false
theorem own : ownKnob Tryd.prog.godebug = none := by kernel_rfl
theorem laidOut : laidOutB Tryd.prog = true := by kernel_rfl
theorem gTab : Tryd.prog.globalNamed "math/bits.deBruijn64tab" = some 0 := by kernel_rfl
theorem gTabType : (Tryd.prog.globals[0]?).map (·.type) = some 61 := by kernel_rfl
theorem cells61 : Tryd.prog.cellsOf 61 = 64 := by kernel_rfl
theorem cells5 : Tryd.prog.cellsOf 5 = 1 := by kernel_rfl
def tabI : List Int := Lib.deBruijn64tab.map fun n : Nat => (n : Int)
theorem laid_is : (Rows.bitmapNoneRow.laid : List (String × DataW Unit)) = ("math/bits.deBruijn64tab", Lib.tabData .u8 tabI) :: [] := rfl
theorem table {W : World} (h : laidMetH Tryd.prog Rows.bitmapNoneRow.laid W) : Lib.TabIs Tryd.prog W "math/bits.deBruijn64tab" .u8 tabI :=
  Lib.tabIs_of_head (rest := []) gTab gTabType Tryd.underlying61 Tryd.underlying5 cells5 cells61 h
/-- what the condition gives the walks -/
theorem ok0 {W : World} (h : laidMetH Tryd.prog Rows.bitmapNoneRow.laid W) : Ok0 W := by
  have ht := table h
  have hT : TabAt 0 Lib.deBruijn64tab W := fun j hj => by
    have hl : Lib.deBruijn64tab.length = 64 := rfl
    have hc := World.var?_cell gTab ht j
    rw [hc]
    simp only [List.getElem?_toArray, List.getElem?_map, tabI, List.getElem?_eq_getElem hj, List.getD_eq_getElem?_getD]
    rfl
  exact ⟨hT, World.block_lt_of_cell? W ⟨0, 0, none⟩ (hT 0 (by decide))⟩
/-- a world for the witness: the settled one, the table holding what its initialiser lays -/
noncomputable def laidWorld (os : Os) : World :=
  { World.holding Tryd.prog os ⟨#[], #[], []⟩ with heap := (World.holding Tryd.prog os ⟨#[], #[], []⟩).heap.modify 0 fun
      | .cells _ t frozen => .cells (tabI.map fun z => Value.int .u8 z).toArray t frozen
      | o => o }
section
variable {H : Type} {enc : TypeId × Value → H} {w : World} {base : Nat} {spare : Nat → Bool} {held : Bool}
theorem i64_bounds {n : Int} (h : (Lit.int .i64 n).wf = true) : -9223372036854775808 ≤ n ∧ n < 9223372036854775808 := by
  simp only [Lit.wf, Bool.and_eq_true, decide_eq_true_eq] at h
  have h0 : IntKind.i64.min = -9223372036854775808 := rfl
  have h1 : IntKind.i64.max = 9223372036854775807 := rfl
  rw [h0, h1] at h
  omega
theorem u64_bounds {n : Int} (h : (Lit.int .u64 n).wf = true) : 0 ≤ n ∧ n < 18446744073709551616 := by
  simp only [Lit.wf, Bool.and_eq_true, decide_eq_true_eq] at h
  have h0 : IntKind.u64.min = 0 := rfl
  have h1 : IntKind.u64.max = 18446744073709551615 := rfl
  rw [h0, h1] at h
  omega
theorem cells3 : Tryd.prog.cellsOf 3 = 1 := by kernel_rfl
theorem cells4 : Tryd.prog.cellsOf 4 = 1 := by kernel_rfl
theorem cells35 : Tryd.prog.cellsOf 35 = 3 := by kernel_rfl
theorem cells53 : Tryd.prog.cellsOf 53 = 1 := by kernel_rfl
theorem deed_cells {fuel : Nat} {cs : List Value} {x : DataW H × List MemPlace} (h : DataW.trod enc Tryd.prog w base spare held fuel 35 cs = some x) :
    ∃ (k i : Int) (on : Bool), cs = [.int .i64 k, .int .i64 i, .bool on] ∧ (-9223372036854775808 ≤ i ∧ i < 9223372036854775808) := by
  obtain ⟨y0, y1, y2, n, rfl, hl, h0, h1, h2⟩ := Go.Deep.trod_struct3 Tryd.underlying35 h
  rw [cells35] at hl
  match cs, hl with
  | [c0, c1, c2], _ =>
    obtain ⟨n0, e0, _, w0⟩ := DataW.trod_int Tryd.underlying3 h0
    obtain ⟨n1, e1, _, w1⟩ := DataW.trod_int Tryd.underlying3 h1
    obtain ⟨n2, e2, _⟩ := DataW.trod_bool Tryd.underlying4 h2
    simp only [cells3, cells4, List.drop, List.take, List.cons.injEq, and_true] at e0 e1 e2
    subst e0 e1 e2
    exact ⟨n0, n1, n2, rfl, i64_bounds w1⟩
end
end Go.Proofs.YtmfabgdgpdgdiaaDoor.K
