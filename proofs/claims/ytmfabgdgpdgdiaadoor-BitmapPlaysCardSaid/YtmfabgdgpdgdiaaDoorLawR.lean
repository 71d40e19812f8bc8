/- Slices that came in: words, numbers, deeds. -/
import Derived.Test.YtmfabgdgpdgdiaaDoorLawK
namespace Go.Proofs.YtmfabgdgpdgdiaaDoor.K
open Go.ChangeShapes Go.WideShapes Go.ChangeAt Go.RowKit Go.Proofs.YtmfabgdgpdgdiaaDoor.Q Go.Proofs.YtmfabgdgpdgdiaaDoorW.PrintWords
set_option linter.unusedVariables false
section
variable {H : Type} {enc : TypeId × Value → H} {w : World} {base : Nat} {spare : Nat → Bool} {held : Bool}
theorem add0 (a : Addr) : a.add 0 = a := by unfold Addr.add; simp
theorem cells41 : Tryd.prog.cellsOf 41 = 1 := by kernel_rfl
theorem words_row {fuel : Nat} {A : Option Addr} {len cap : Nat} {x : DataW H × List MemPlace} (h : DataW.trod enc Tryd.prog w base spare held fuel 41 [.slice A len cap] = some x) :
    ∃ ws : List Nat, len = ws.length ∧ ws.length ≤ cap ∧ (Kd.int .u64).C w A ws.length (nw ws) ∧ ∀ y ∈ ws, y < 18446744073709551616 := by
  rcases Go.Deep.open_slice Tryd.underlying41 h with ⟨hcs, _⟩ | ⟨a, len', cap', m, n, D, Pl, hcs, _, hl, hm, hmm, _, hx⟩
  · simp only [List.cons.injEq, Value.slice.injEq, and_true] at hcs
    obtain ⟨rfl, rfl, rfl⟩ := hcs
    exact ⟨[], rfl, by simp, ⟨rfl, by simp, fun hp => absurd hp (by simp)⟩, fun y hy => by cases hy⟩
  · simp only [List.cons.injEq, Value.slice.injEq, and_true] at hcs
    obtain ⟨rfl, rfl, rfl⟩ := hcs
    have hle : len ≤ m := by rw [hmm]; split <;> omega
    obtain ⟨f, hf⟩ := Go.Deep.choose_lt (α := Nat) (n := len) (p := fun i y => w.cell? (a.add i) = some (.int .u64 (y : Int)) ∧ y < 18446744073709551616) (fun i hi => by
      obtain ⟨cs', hc, hd⟩ := hx i (by omega)
      obtain ⟨y, rfl, _, hw⟩ := DataW.trod_int Tryd.underlying53 hd
      rw [cells53] at hc
      obtain ⟨_, _, hcell⟩ := World.cells?_some hc
      have h0 := hcell 0 (by decide)
      obtain ⟨b1, b2⟩ := u64_bounds hw
      refine ⟨y.toNat, ?_, by omega⟩
      rw [Int.toNat_of_nonneg b1]
      rw [add0] at h0
      simpa using h0)
    have hlen : ((List.range len).map f).length = len := by simp
    refine ⟨(List.range len).map f, hlen.symm, by rw [hlen]; exact hl, ?_, fun y hy => ?_⟩
    · rw [hlen]
      unfold maxLen at hm
      refine Kd.C_of_reads (d := 0) ⟨by rw [nw_length, hlen], by omega, fun _ => ⟨a, rfl, fun j hj => ?_⟩⟩
      rw [(hf j hj).1]
      unfold nw
      rw [List.getD_eq_getElem?_getD, List.getElem?_map, List.getElem?_map, List.getElem?_range hj]
      rfl
    · obtain ⟨i, hi, rfl⟩ := List.mem_map.1 hy
      exact (hf i (List.mem_range.1 hi)).2
theorem ints_row {fuel : Nat} {A : Option Addr} {len cap : Nat} {x : DataW H × List MemPlace} (h : DataW.trod enc Tryd.prog w base spare held fuel 22 [.slice A len cap] = some x) :
    ∃ us : List Int, len = us.length ∧ us.length ≤ cap ∧ (Kd.int .i64).C w A us.length us ∧ ∀ y ∈ us, -9223372036854775808 ≤ y ∧ y < 9223372036854775808 := by
  rcases Go.Deep.open_slice Tryd.underlying22 h with ⟨hcs, _⟩ | ⟨a, len', cap', m, n, D, Pl, hcs, _, hl, hm, hmm, _, hx⟩
  · simp only [List.cons.injEq, Value.slice.injEq, and_true] at hcs
    obtain ⟨rfl, rfl, rfl⟩ := hcs
    exact ⟨[], rfl, by simp, ⟨rfl, by simp, fun hp => absurd hp (by simp)⟩, fun y hy => by cases hy⟩
  · simp only [List.cons.injEq, Value.slice.injEq, and_true] at hcs
    obtain ⟨rfl, rfl, rfl⟩ := hcs
    have hle : len ≤ m := by rw [hmm]; split <;> omega
    obtain ⟨f, hf⟩ := Go.Deep.choose_lt (α := Int) (n := len) (p := fun i y => w.cell? (a.add i) = some (.int .i64 y) ∧ (-9223372036854775808 ≤ y ∧ y < 9223372036854775808)) (fun i hi => by
      obtain ⟨cs', hc, hd⟩ := hx i (by omega)
      obtain ⟨y, rfl, _, hw⟩ := DataW.trod_int Tryd.underlying3 hd
      rw [cells3] at hc
      obtain ⟨_, _, hcell⟩ := World.cells?_some hc
      have h0 := hcell 0 (by decide)
      rw [add0] at h0
      exact ⟨y, by simpa using h0, i64_bounds hw⟩)
    have hlen : ((List.range len).map f).length = len := by simp
    refine ⟨(List.range len).map f, hlen.symm, by rw [hlen]; exact hl, ?_, fun y hy => ?_⟩
    · rw [hlen]
      unfold maxLen at hm
      refine Kd.C_of_reads (d := 0) ⟨hlen, by omega, fun _ => ⟨a, rfl, fun j hj => ?_⟩⟩
      rw [(hf j hj).1, List.getD_eq_getElem?_getD, List.getElem?_map, List.getElem?_range hj]
      rfl
    · obtain ⟨i, hi, rfl⟩ := List.mem_map.1 hy
      exact (hf i (List.mem_range.1 hi)).2
end
end Go.Proofs.YtmfabgdgpdgdiaaDoor.K
