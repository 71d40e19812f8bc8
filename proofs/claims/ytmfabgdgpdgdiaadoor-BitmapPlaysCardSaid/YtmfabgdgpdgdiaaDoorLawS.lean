/- A slice of deeds that came in. -/
import Derived.Test.YtmfabgdgpdgdiaaDoorLawR
import Derived.Test.YtmfabgdgpdgdiaaDoorBitK
namespace Go.Proofs.YtmfabgdgpdgdiaaDoor.K
open Go.ChangeShapes Go.WideShapes Go.ChangeAt Go.RowKit Go.Proofs.YtmfabgdgpdgdiaaDoor.Q Go.Proofs.YtmfabgdgpdgdiaaDoorW.PrintWords
set_option linter.unusedVariables false
section
variable {H : Type} {enc : TypeId × Value → H} {w : World} {base : Nat} {spare : Nat → Bool} {held : Bool}
instance : Inhabited D35 := ⟨d35⟩
theorem deeds_row {fuel : Nat} {A : Option Addr} {len cap : Nat} {x : DataW H × List MemPlace} (h : DataW.trod enc Tryd.prog w base spare held fuel 31 [.slice A len cap] = some x) :
    ∃ l : List D35, len = l.length ∧ l.length ≤ cap ∧ RD w A l := by
  rcases Go.Deep.open_slice Tryd.underlying31 h with ⟨hcs, _⟩ | ⟨a, len', cap', m, n, D, Pl, hcs, _, hl, hm, hmm, _, hx⟩
  · simp only [List.cons.injEq, Value.slice.injEq, and_true] at hcs
    obtain ⟨rfl, rfl, rfl⟩ := hcs
    exact ⟨[], rfl, by simp, fun j hj => absurd hj (by simp)⟩
  · simp only [List.cons.injEq, Value.slice.injEq, and_true] at hcs
    obtain ⟨rfl, rfl, rfl⟩ := hcs
    have hle : len ≤ m := by rw [hmm]; split <;> omega
    obtain ⟨f, hf⟩ := Go.Deep.choose_lt (α := D35) (n := len) (p := fun i y => w.cells? base (a.add (i * 3)) 3 = some [.int .i64 y.k, .int .i64 y.i, .bool y.on]) (fun i hi => by
      obtain ⟨cs', hc, hd⟩ := hx i (by omega)
      obtain ⟨k, j, on, rfl, _⟩ := deed_cells hd
      rw [cells35] at hc
      exact ⟨⟨k, j, on⟩, hc⟩)
    have hlen : ((List.range len).map f).length = len := by simp
    refine ⟨(List.range len).map f, hlen.symm, by rw [hlen]; exact hl, fun j hj => ?_⟩
    rw [hlen] at hj
    obtain ⟨_, _, hcell⟩ := World.cells?_some (hf j hj)
    have e : ((List.range len).map f).getD j d35 = f j := by
      rw [List.getD_eq_getElem?_getD, List.getElem?_map, List.getElem?_range hj]
      rfl
    rw [e]
    refine ⟨a, rfl, ?_, ?_, ?_⟩
    · have := hcell 0 (by decide)
      rw [add0] at this
      exact this
    · have := hcell 1 (by decide)
      rw [Go.Deep.add_add, add_field _ _ 1 (by omega)] at this
      exact this
    · have := hcell 2 (by decide)
      rw [Go.Deep.add_add, add_field _ _ 2 (by omega)] at this
      exact this
end
end Go.Proofs.YtmfabgdgpdgdiaaDoor.K
