/- CodeMoves: for any instruction Moves of the program, and Args of any call between -511 and 511, answer as the reference's, and the examples hold. -/
import Derived.Test.YtjbpljcfogekhaaRows
import Derived.Test.YtjbpljcfogekhaaQxF6
import Derived.Test.YtjbpljcfogekhaaCoreD
import Derived.Test.YtjbpljcfogekhaaCoreM
import Derived.Test.YtjbpljcfogekhaaOpenIns
import Derived.WalkKit
import Derived.ProofKit
import Derived.OpenShut
import Derived.ShutString
import Derived.ChangeOld
import Derived.Below
import Derived.SizedLaws
namespace Go.Proofs.Ytjbpljcfogekhaa.Pure
open Go.RowKit Go.Proofs.Ytjbpljcfogekhaa.Q Go.Proofs.Ytjbpljcfogekhaa.Core Go.Proofs.YtjbpljcfogekhaaW.PrintWords Go.Proofs.YtjbpljcfogekhaaW.PrintLast Go.Proofs.YtjbpljcfogekhaaW.PrintMore
theorem CodeMoves (op arg a b : Int) (h0 : 0 ≤ arg) : ∃ k, januslaw05_CodeMoves.f k op arg a b = some true := by
  have aw : Ev (fun k => (januslaw05_awake.f k).bind fun t => some t) true := Ev.bind awake05 (Ev.now _)
  refine Ev.rounds ?_
  simp only [januslaw05_CodeMoves.f]
  refine Ev.bind (Moves_ev op arg a b h0) (Ev.bind (RMoves_ev op arg a b h0) (Ev.pos rfl (Ev.pos rfl ?_)))
  exact Ev.bind (Args_ev _) (Ev.bind (RArgs_ev _) (Ev.pos rfl (Ev.bind (Args_ev _) (Ev.bind (RArgs_ev _) (Ev.pos rfl aw)))))
end Go.Proofs.Ytjbpljcfogekhaa.Pure
namespace Go.Proofs.Ytjbpljcfogekhaa.codeMoves
open Go.ChangeShapes Go.WideShapes Go.ChangeAt Go.RowKit
open Go.ChangeMaps (open_string shut_string)
set_option linter.unusedVariables false
theorem own : ownKnob Try.prog.godebug = none := by kernel_rfl
theorem laidOut : laidOutB Try.prog = true := by kernel_rfl
set_option maxRecDepth 100000 in
theorem lifted (os : Os) (started : os.Started) (H : Type) (enc : TypeId × Value → H) :
    ReturnsInHanded {} Try.checked os 6 .any (Rows.codeMovesSpec.pre6 enc Try.prog Try.f6 Rows.codeMovesRow.domain false) (Rows.codeMovesSpec.post enc Try.prog Try.f6 false true false false) := by
  refine returnsInHanded_of_change_sized (C := Try.checked) own started (by kernel_rfl) Try.func6
    (ChangeSpec.witness6 (enc := enc) (C := Try.checked) false ⟨#[], #[.agg #[.int .i64 0, .int .u64 0, .int .i64 0, .int .i64 0]], []⟩ 8 (by kernel_rfl) (by kernel_rfl) (by kernel_rfl) (by kernel_rfl)) ?_
  intro W base args ds gs before hval0 hW hcnd hsz0 _
  have hval : ∀ (j : Nat) t v, Try.f6.params[j]? = some t → args[j]? = some v → Value.okWide Try.prog W .any base t v := hval0
  have hW' := hW
  obtain ⟨p, q, hA0, hV, rfl, hfz, hnd⟩ := hW
  have hA : DataW.TrodAll enc Try.prog W 0 (fun _ => true) true Try.f6.params.toList args.toList ds p := hA0
  rw [Try.params6] at hA hval
  obtain ⟨v0, vs0, d0, ds0, p0, q0, hargs, rfl, rfl, h0, r0⟩ := trodAll_cons hA
  obtain ⟨rfl, rfl, rfl⟩ := trodAll_nil r0
  obtain rfl : args = #[v0] := by cases args; simp_all
  obtain ⟨rfl, rfl⟩ := trodVars_none hV
  obtain ⟨cs, rfl, hsz⟩ := okWide_struct Try.underlying36 (hval 0 36 v0 rfl rfl)
  have k0 := h0
  have lt0 : ∀ x ∈ p0, x.block < W.heap.size := by obtain ⟨m, hm⟩ := k0; exact DataW.trod_lt m _ _ _ hm
  obtain ⟨y, rfl, hw⟩ : ∃ y : Q.S36, cs = #[.int .i64 y.f0, .int .u64 y.f1, .int .i64 y.f2, .int .i64 y.f3] ∧ Opened.InsWf y := by
    obtain ⟨fuel, hf⟩ := h0
    obtain ⟨y, hcs, hw, _⟩ := Opened.ins_cells hf
    refine ⟨y, ?_, hw⟩
    have e : cs.toList = [.int .i64 y.f0, .int .u64 y.f1, .int .i64 y.f2, .int .i64 y.f3] := by simpa [Value.cells] using hcs
    exact Array.ext' e
  clear hA0 hval0 hsz0
  obtain ⟨k, hk⟩ := Pure.CodeMoves y.f0 y.f1 y.f2 y.f3 (Opened.u64_bounds hw.2.1).1
  refine (Q.januslaw05_CodeMoves.calls k y.f0 y.f1 y.f2 y.f3 true W hk).mono fun e W' ⟨he, bel⟩ => ?_
  subst he
  exact ⟨_, rfl, _, _, _, [], _, [], hW', trodAll_mk1 (shut_bool Try.underlying4 _), (trodAll_cons_mk (Below.trod laidOut (by kernel_rfl) (of_decide_eq_true (by kernel_rfl)) k0 bel lt0) trodAll_mk0), rfl, bel.frame _, fun h => by cases h⟩
theorem over : Rows.codeMovesRow.holds Try.pinned (OpenSpec.ofChange Rows.codeMovesSpec) :=
  OpenClaim.holds_of_wide 6 Try.f6 rfl rfl rfl rfl rfl rfl rfl ⟨rfl, rfl, rfl, rfl, rfl⟩ rfl rfl rfl rfl rfl (by kernel_rfl) Try.func6 (by kernel_rfl)
    (of_decide_eq_true (by kernel_rfl)) (by unfold Func.isWrapper; first | (rw [if_pos (by decide +kernel)]; kernel_rfl) | (rw [if_neg (by decide +kernel)]; exact ⟨rfl, rfl⟩))
    (fun os started H enc _ => lifted os started H enc)
theorem proved : Rows.CodeMovesSaid := over
#print axioms proved
end Go.Proofs.Ytjbpljcfogekhaa.codeMoves
namespace Go.Proofs.Ytjbpljcfogekhaa
/-- The row, under a short name, for the claim. -/
theorem codeMoves_holds : Rows.CodeMovesSaid := codeMoves.proved
end Go.Proofs.Ytjbpljcfogekhaa
