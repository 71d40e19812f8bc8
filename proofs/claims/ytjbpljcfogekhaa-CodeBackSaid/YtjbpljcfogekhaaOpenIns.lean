/- An argument that is a slice of instructions, or one instruction, opened: what its cells hold. -/
import Derived.Test.YtjbpljcfogekhaaQx0
import Derived.ProofKit
import Derived.Deep.Slices
import Derived.Lib.SmallJoins
namespace Go.Proofs.Ytjbpljcfogekhaa.Opened
open Go.RowKit Go.Proofs.Ytjbpljcfogekhaa.Q Go.Proofs.YtjbpljcfogekhaaW.PrintWords Go.Proofs.YtjbpljcfogekhaaW.PrintLast Go.Proofs.YtjbpljcfogekhaaW.PrintMore

/-- The numbers of an instruction are of their kinds. -/
def InsWf (x : S36) : Prop := (Lit.int .i64 x.f0).wf = true ∧ (Lit.int .u64 x.f1).wf = true ∧ (Lit.int .i64 x.f2).wf = true ∧ (Lit.int .i64 x.f3).wf = true
theorem u64_bounds {n : Int} (h : (Lit.int .u64 n).wf = true) : 0 ≤ n ∧ n < 18446744073709551616 := by
  simp only [Lit.wf, Bool.and_eq_true, decide_eq_true_eq] at h
  have h0 : IntKind.u64.min = 0 := rfl
  have h1 : IntKind.u64.max = 18446744073709551615 := rfl
  rw [h0, h1] at h
  omega
theorem i64_bounds {n : Int} (h : (Lit.int .i64 n).wf = true) : -9223372036854775808 ≤ n ∧ n < 9223372036854775808 := by
  simp only [Lit.wf, Bool.and_eq_true, decide_eq_true_eq] at h
  have h0 : IntKind.i64.min = -9223372036854775808 := rfl
  have h1 : IntKind.i64.max = 9223372036854775807 := rfl
  rw [h0, h1] at h
  omega

instance : Inhabited S36 := ⟨z36⟩
theorem cells36 : Try.prog.cellsOf 36 = 4 := by kernel_rfl
theorem cells24 : Try.prog.cellsOf 24 = 1 := by kernel_rfl
theorem cells34 : Try.prog.cellsOf 34 = 1 := by kernel_rfl
theorem cells3 : Try.prog.cellsOf 3 = 1 := by kernel_rfl

section
variable {H : Type} {enc : TypeId × Value → H} {w : World} {base : Nat} {spare : Nat → Bool} {held : Bool}
theorem ins_cells {fuel : Nat} {cs : List Value} {x : DataW H × List MemPlace} (h : DataW.trod enc Try.prog w base spare held fuel 36 cs = some x) :
    ∃ y : S36, cs = [.int .i64 y.f0, .int .u64 y.f1, .int .i64 y.f2, .int .i64 y.f3] ∧ InsWf y ∧ x = (.agg [.lit (.int .i64 y.f0), .lit (.int .u64 y.f1), .lit (.int .i64 y.f2), .lit (.int .i64 y.f3)], []) := by
  obtain ⟨y0, y1, y2, y3, n, rfl, hl, h0, h1, h2, h3⟩ := Go.Joins.trod_struct4 Try.underlying36 h
  rw [cells36] at hl
  match cs, hl with
  | [c0, c1, c2, c3], _ =>
    obtain ⟨n0, e0, rfl, w0⟩ := DataW.trod_int Try.underlying3 h0
    obtain ⟨n1, e1, rfl, w1⟩ := DataW.trod_int Try.underlying34 h1
    obtain ⟨n2, e2, rfl, w2⟩ := DataW.trod_int Try.underlying3 h2
    obtain ⟨n3, e3, rfl, w3⟩ := DataW.trod_int Try.underlying3 h3
    simp only [cells3, cells34, List.drop, List.take, List.cons.injEq, and_true] at e0 e1 e2 e3
    subst e0 e1 e2 e3
    exact ⟨⟨n0, n1, n2, n3⟩, rfl, ⟨w0, w1, w2, w3⟩, rfl⟩

theorem ins_row {fuel : Nat} {A : Option Addr} {len cap : Nat} {x : DataW H × List MemPlace} (h : DataW.trod enc Try.prog w base spare held fuel 22 [.slice A len cap] = some x) :
    ∃ l : List S36, len = l.length ∧ l.length ≤ cap ∧ Kd.C k36 w A l.length l ∧ ∀ y ∈ l, InsWf y := by
  rcases Go.Deep.open_slice Try.underlying22 h with ⟨hcs, _⟩ | ⟨a, len', cap', m, n, D, Pl, hcs, _, hl, hm, hmm, _, hx⟩
  · simp only [List.cons.injEq, Value.slice.injEq, and_true] at hcs
    obtain ⟨rfl, rfl, rfl⟩ := hcs
    exact ⟨[], rfl, by simp, ⟨rfl, by simp, fun hp => absurd hp (by simp)⟩, fun y hy => by cases hy⟩
  · simp only [List.cons.injEq, Value.slice.injEq, and_true] at hcs
    obtain ⟨rfl, rfl, rfl⟩ := hcs
    have hle : len ≤ m := by rw [hmm]; split <;> omega
    obtain ⟨f, hf⟩ := Go.Deep.choose_lt (α := S36) (n := len) (p := fun i y => w.cells? base (a.add (i * 4)) 4 = some [.int .i64 y.f0, .int .u64 y.f1, .int .i64 y.f2, .int .i64 y.f3] ∧ InsWf y) (fun i hi => by
      obtain ⟨cs', hc, hd⟩ := hx i (by omega)
      obtain ⟨y, rfl, hw, _⟩ := ins_cells hd
      rw [cells36] at hc
      exact ⟨y, hc, hw⟩)
    have hlen : ((List.range len).map f).length = len := by simp
    refine ⟨(List.range len).map f, hlen.symm, by rw [hlen]; exact hl, ?_, fun y hy => ?_⟩
    · rw [hlen]
      unfold maxLen at hm
      refine ⟨hlen, by omega, fun _ => ⟨a, rfl, fun j p hj => ?_⟩⟩
      have hjl : j < len := by have := (List.getElem?_eq_some_iff.1 hj).1; omega
      rw [List.getElem?_map, List.getElem?_range hjl] at hj
      simp only [Option.map_some, Option.some.injEq] at hj
      subst hj
      obtain ⟨hc, _⟩ := hf j hjl
      obtain ⟨_, hcl, hcell⟩ := World.cells?_some hc
      refine ⟨_, rfl, k36_mk w (f j), fun i u hu => ?_⟩
      have hi : i < 4 := by have := (List.getElem?_eq_some_iff.1 hu).1; simpa using this
      rw [← Go.Deep.add_add]
      exact (hcell i hi).trans hu
    · obtain ⟨i, hi, rfl⟩ := List.mem_map.1 hy
      exact (hf i (List.mem_range.1 hi)).2
end
end Go.Proofs.Ytjbpljcfogekhaa.Opened
