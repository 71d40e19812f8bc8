/- CodeOnes: the instructions of every text, one by one, from place to place, are those that Decode of the program tells, and the examples hold. -/
import Derived.Test.YtjbpljcfogekhaaQxF7
import Derived.Test.YtjbpljcfogekhaaCoreD
namespace Go.Proofs.Ytjbpljcfogekhaa.Pure
open Go.RowKit Go.Proofs.Ytjbpljcfogekhaa.Q Go.Proofs.Ytjbpljcfogekhaa.Core Go.Proofs.YtjbpljcfogekhaaW.PrintWords Go.Proofs.YtjbpljcfogekhaaW.PrintLast Go.Proofs.YtjbpljcfogekhaaW.PrintMore

theorem ones_awake : Ev (fun k => (januslaw05_awake.f k).bind fun t => some t) true := Ev.bind awake05 (Ev.now _)

theorem ones_l0 (s : ByteArray) (hs : s.size ≤ 1000000) (l : List S36) (hl : l.length ≤ 1000000) : ∀ (m i d : Nat) (p : Int), i + m = l.length → 0 ≤ p → p ≤ s.size → (s.size : Int) - p ≤ d → dec s d p = some (l.drop i) →
    Ev (fun k => januslaw05_CodeOnes.l0 k s l p (i : Int)) true
  | 0, i, d, p, hi, h0, hp, hd, h => by
    have he : p = s.size := by
      rw [List.drop_of_length_le (by omega)] at h
      cases d with
      | zero => omega
      | succ d =>
        rw [dec] at h
        split at h
        · split at h
          · obtain ⟨x, _, hx⟩ := Option.bind_eq_some_iff.1 h
            simp at hx
          · cases h
        · omega
    refine Ev.step (f := fun k => (code_One.f k s p).bind fun bt259 => (if p = (s.size : Int) then (if bt259.2.2.2.2 = 101 then ((januslaw05_awake.f k).bind fun t265 => (some t265)) else (some false)) else (some false))) (fun k => ?_) ?_
    · simp only [januslaw05_CodeOnes.l0]
      rw [if_neg (by omega)]
    · refine Ev.bind (One_ev s (by omega) p) (Ev.pos he (Ev.pos ?_ ones_awake))
      unfold oneS
      rw [if_pos (by omega)]
  | m + 1, i, d, p, hi, h0, hp, hd, h => by
    have hlt : i < l.length := by omega
    have hx : rd_T36 l (i : Int) = l[i] := by simp [rd_T36, List.getD_eq_getElem?_getD, hlt]
    rw [List.drop_eq_getElem_cons hlt] at h
    cases d with
    | zero => simp [dec] at h; omega
    | succ d =>
      rw [dec] at h
      by_cases hps : p < s.size
      · rw [if_pos hps] at h
        rcases oneS_in h0 hps with ⟨he, hge, hle⟩ | he
        · rw [if_pos he] at h
          obtain ⟨x, hd2, hx2⟩ := Option.bind_eq_some_iff.1 h
          simp only [Option.some.injEq, List.cons.injEq] at hx2
          obtain ⟨hx2, rfl⟩ := hx2
          refine Ev.step (f := fun k => (code_One.f k s p).bind fun bt252 => (if bt252.2.2.2.2 = 0 then (if 0 ≤ (i : Int) then (if (!(bt252.1 == (l[i].f0)) || (!(bt252.2.1 == (l[i].f1)) || (!(bt252.2.2.1 == (l[i].f2)) || (!(bt252.2.2.2.1 == (l[i].f3)))))) = true then (some false) else (if bt252.2.2.2.1 < 1 then (some false) else (januslaw05_CodeOnes.l0 k s l (wrap64 (p + bt252.2.2.2.1)) (wrap64 ((i : Int) + 1))))) else (none)) else (some false))) (fun k => ?_) ?_
          · simp only [januslaw05_CodeOnes.l0]
            rw [if_pos (by omega), hx]
          · refine Ev.bind (One_ev s (by omega) p) (Ev.pos he (Ev.pos (by omega) (Ev.neg ?_ (Ev.neg (by omega) ?_))))
            · rw [← hx2]
              simp [mkIns]
            · rw [wrap_in (by omega) (by omega), wrap_in (by omega) (by omega)]
              exact ones_l0 s hs l hl m (i + 1) d _ (by omega) (by omega) hle (by omega) hd2
        · rw [he] at h
          simp at h
      · rw [if_neg hps] at h
        simp at h
        omega

theorem CodeOnes : januslaw05_CodeOnes.Pure := by
  intro s hs
  refine Ev.rounds ?_
  simp only [januslaw05_CodeOnes.f]
  by_cases h : (s.size : Int) > 2000
  · exact Ev.pos h ones_awake
  · refine Ev.neg h (Ev.bind (Decode_ev s (by omega)) ?_)
    cases hd : decAll s with
    | none =>
      refine Ev.neg (by simp [decRes]) (Ev.pos rfl ones_awake)
    | some l =>
      have := dec_length s _ _ l hd
      refine Ev.pos rfl ?_
      exact ones_l0 s (by omega) l (by omega) l.length 0 s.size 0 (by omega) (by omega) (by omega) (by omega) hd

end Go.Proofs.Ytjbpljcfogekhaa.Pure
