/- CodeEncodes: for any instructions Encode of the program answers as the reference's, the text or the error, and the examples hold. -/
import Derived.Test.YtjbpljcfogekhaaRows
import Derived.Test.YtjbpljcfogekhaaQxF3
import Derived.Test.YtjbpljcfogekhaaCoreD
import Derived.Test.YtjbpljcfogekhaaOpenIns
import Derived.WalkKit
import Derived.ProofKit
import Derived.OpenShut
import Derived.ShutString
import Derived.ChangeOld
import Derived.Below
import Derived.SizedLaws
namespace Go.Proofs.Ytjbpljcfogekhaa.Pure
open Go.RowKit Go.Proofs.Ytjbpljcfogekhaa.Q Go.Proofs.Ytjbpljcfogekhaa.Core Go.Proofs.YtjbpljcfogekhaaW.PrintWords Go.Proofs.YtjbpljcfogekhaaW.PrintLast Go.Proofs.YtjbpljcfogekhaaW.PrintMore
open Go.Proofs.Ytjbpljcfogekhaa.Opened
theorem args_of {l : List S36} (h : ∀ y ∈ l, InsWf y) : Args l := fun x hx => u64_bounds (h x hx).2.1
theorem CodeEncodes (l : List S36) (hw : ∀ y ∈ l, InsWf y) : ∃ k, januslaw05_CodeEncodes.f k l = some true := by
  have aw : Ev (fun k => (januslaw05_awake.f k).bind fun t => some t) true := Ev.bind awake05 (Ev.now _)
  refine Ev.rounds ?_
  simp only [januslaw05_CodeEncodes.f]
  by_cases h : (l.length : Int) > 2000
  · exact Ev.pos h aw
  · refine Ev.neg h ?_
    refine Ev.bind (Encode_ev l (by omega)) (Ev.bind (REncode_ev l (by omega) (args_of hw)) (Ev.pos rfl (Ev.pos rfl aw)))
end Go.Proofs.Ytjbpljcfogekhaa.Pure
namespace Go.Proofs.Ytjbpljcfogekhaa.codeEncodes
open Go.ChangeShapes Go.WideShapes Go.ChangeAt Go.RowKit
open Go.ChangeMaps (open_string shut_string)
set_option linter.unusedVariables false
theorem own : ownKnob Try.prog.godebug = none := by kernel_rfl
theorem laidOut : laidOutB Try.prog = true := by kernel_rfl
set_option maxRecDepth 100000 in
theorem lifted (os : Os) (started : os.Started) (H : Type) (enc : TypeId × Value → H) :
    ReturnsInHanded {} Try.checked os 3 .any (Rows.codeEncodesSpec.pre6 enc Try.prog Try.f3 Rows.codeEncodesRow.domain false) (Rows.codeEncodesSpec.post enc Try.prog Try.f3 false true false false) := by
  refine returnsInHanded_of_change_sized (C := Try.checked) own started (by kernel_rfl) Try.func3
    (ChangeSpec.witness6 (enc := enc) (C := Try.checked) false ⟨#[], #[.slice none 0 0], []⟩ 8 (by kernel_rfl) (by kernel_rfl) (by kernel_rfl) (by kernel_rfl)) ?_
  intro W base args ds gs before hval0 hW hcnd hsz0 _
  have hval : ∀ (j : Nat) t v, Try.f3.params[j]? = some t → args[j]? = some v → Value.okWide Try.prog W .any base t v := hval0
  have hW' := hW
  obtain ⟨p, q, hA0, hV, rfl, hfz, hnd⟩ := hW
  have hA : DataW.TrodAll enc Try.prog W 0 (fun _ => true) true Try.f3.params.toList args.toList ds p := hA0
  rw [Try.params3] at hA hval
  obtain ⟨v0, vs0, d0, ds0, p0, q0, hargs, rfl, rfl, h0, r0⟩ := trodAll_cons hA
  obtain ⟨rfl, rfl, rfl⟩ := trodAll_nil r0
  obtain rfl : args = #[v0] := by cases args; simp_all
  obtain ⟨rfl, rfl⟩ := trodVars_none hV
  obtain ⟨a0, len0, cap0, rfl⟩ := okWide_slice Try.underlying22 (hval 0 22 v0 rfl rfl)
  have k0 := h0
  have lt0 : ∀ x ∈ p0, x.block < W.heap.size := by obtain ⟨m, hm⟩ := k0; exact DataW.trod_lt m _ _ _ hm
  obtain ⟨l, rfl, hc, hr, hw⟩ : ∃ l : List Q.S36, len0 = l.length ∧ l.length ≤ cap0 ∧ Go.Proofs.YtjbpljcfogekhaaW.PrintWords.Kd.C Q.k36 W a0 l.length l ∧ ∀ y ∈ l, Opened.InsWf y := by
    obtain ⟨fuel, hf⟩ := h0
    exact Opened.ins_row hf
  clear hA0 hval0 hsz0
  obtain ⟨k, hk⟩ := Pure.CodeEncodes l hw
  refine (Q.januslaw05_CodeEncodes.calls k a0 cap0 l true W hr hc hk).mono fun e W' ⟨he, bel⟩ => ?_
  subst he
  exact ⟨_, rfl, _, _, _, [], _, [], hW', trodAll_mk1 (shut_bool Try.underlying4 _), (trodAll_cons_mk (Below.trod laidOut (by kernel_rfl) (of_decide_eq_true (by kernel_rfl)) k0 bel lt0) trodAll_mk0), rfl, bel.frame _, fun h => by cases h⟩
theorem over : Rows.codeEncodesRow.holds Try.pinned (OpenSpec.ofChange Rows.codeEncodesSpec) :=
  OpenClaim.holds_of_wide 3 Try.f3 rfl rfl rfl rfl rfl rfl rfl ⟨rfl, rfl, rfl, rfl, rfl⟩ rfl rfl rfl rfl rfl (by kernel_rfl) Try.func3 (by kernel_rfl)
    (of_decide_eq_true (by kernel_rfl)) (by unfold Func.isWrapper; first | (rw [if_pos (by decide +kernel)]; kernel_rfl) | (rw [if_neg (by decide +kernel)]; exact ⟨rfl, rfl⟩))
    (fun os started H enc _ => lifted os started H enc)
theorem proved : Rows.CodeEncodesSaid := over
#print axioms proved
end Go.Proofs.Ytjbpljcfogekhaa.codeEncodes
namespace Go.Proofs.Ytjbpljcfogekhaa
/-- The row, under a short name, for the claim. -/
theorem codeEncodes_holds : Rows.CodeEncodesSaid := codeEncodes.proved
end Go.Proofs.Ytjbpljcfogekhaa
