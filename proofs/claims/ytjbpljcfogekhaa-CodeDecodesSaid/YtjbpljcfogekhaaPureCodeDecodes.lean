/- CodeDecodes: for every text and every place, Decode and One of the program answer as the reference's, and the examples hold. -/
import Derived.Test.YtjbpljcfogekhaaQxF4
import Derived.Test.YtjbpljcfogekhaaCoreD
namespace Go.Proofs.Ytjbpljcfogekhaa.Pure
open Go.RowKit Go.Proofs.Ytjbpljcfogekhaa.Q Go.Proofs.Ytjbpljcfogekhaa.Core Go.Proofs.YtjbpljcfogekhaaW.PrintWords Go.Proofs.YtjbpljcfogekhaaW.PrintLast Go.Proofs.YtjbpljcfogekhaaW.PrintMore

theorem awake_then : Ev (fun k => (januslaw05_awake.f k).bind fun t => some t) true := Ev.bind awake05 (Ev.now _)

theorem CodeDecodes : januslaw05_CodeDecodes.Pure := by
  intro s p hs _
  refine Ev.rounds ?_
  simp only [januslaw05_CodeDecodes.f]
  by_cases h : (s.size : Int) > 2000
  · exact Ev.pos h awake_then
  · refine Ev.neg h ?_
    have hlen : (decRes [] (decAll s)).1.length ≤ 1000000 := by
      cases hd : decAll s with
      | none => simp [decRes]
      | some l => have := dec_length s _ _ l hd; simp [decRes]; omega
    refine Ev.bind (Decode_ev s (by omega)) (Ev.bind (RDecode_ev s (by omega)) (Ev.bind (One_ev s (by omega) p) (Ev.bind (ROne_ev s (by omega) p) (Ev.bind (List_ev _ hlen) ?_))))
    refine Ev.pos rfl (Ev.pos rfl (Ev.pos (by simp) (Ev.pos rfl awake_then)))

end Go.Proofs.Ytjbpljcfogekhaa.Pure
