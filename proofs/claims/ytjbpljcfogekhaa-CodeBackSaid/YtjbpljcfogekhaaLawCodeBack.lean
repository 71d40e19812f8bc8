/- CodeBack: what Encode of the program makes of any instructions Decode reads as they were, and what Decode reads of any text Encode makes that text of again; and the examples hold. -/
import Derived.Test.YtjbpljcfogekhaaRows
import Derived.Test.YtjbpljcfogekhaaQxF5
import Derived.Test.YtjbpljcfogekhaaCoreD
import Derived.Test.YtjbpljcfogekhaaCoreE
import Derived.Test.YtjbpljcfogekhaaOpenIns
import Derived.WalkKit
import Derived.ProofKit
import Derived.OpenShut
import Derived.ShutString
import Derived.ChangeOld
import Derived.Below
import Derived.SizedLaws
namespace Go.Proofs.Ytjbpljcfogekhaa.Pure
open Go.RowKit Go.Proofs.Ytjbpljcfogekhaa.Q Go.Proofs.Ytjbpljcfogekhaa.Core Go.Proofs.YtjbpljcfogekhaaW.PrintWords Go.Proofs.YtjbpljcfogekhaaW.PrintLast Go.Proofs.YtjbpljcfogekhaaW.PrintMore
theorem back_aw : Ev (fun k => (januslaw05_awake.f k).bind fun t => some t) true := Ev.bind awake05 (Ev.now _)
theorem dec_ends (s : ByteArray) {m : List S36} (h : decAll s = some m) : m.length ≤ s.size := dec_length s _ _ m h
/-- Decode, and Encode behind it. -/
theorem back_j3 (s : ByteArray) (hs : s.size ≤ 2000) : Ev (fun k => januslaw05_CodeBack.j3 k s) true := by
  refine Ev.step (f := fun k => (code_Decode.f k s).bind fun bt225 => (if bt225.2 = 0 then ((code_Encode.f k bt225.1).bind fun bt229 => (if bt229.2 = 0 then (if bt229.1.toList = s.toList then ((januslaw05_awake.f k).bind fun t231 => (some t231)) else (some false)) else (some false))) else (if (bt225.1.length : Int) = 0 then ((januslaw05_awake.f k).bind fun t232 => (some t232)) else (some false)))) (fun k => by simp only [januslaw05_CodeBack.j3]) ?_
  refine Ev.bind (Decode_ev s (by omega)) ?_
  cases hd : decAll s with
  | none => exact Ev.neg (by simp [decRes]) (Ev.pos rfl back_aw)
  | some m =>
    have hl := dec_ends s hd
    have he := enc_dec s s.size 0 m (by omega) (by omega) hd
    refine Ev.pos rfl (Ev.bind (Encode_ev m (by omega)) ?_)
    rw [he]
    simp only [encRes, List.nil_append, List.drop_zero]
    rw [str_nums8]
    exact Ev.pos trivial (Ev.pos rfl back_aw)
/-- The loop over both lists. -/
theorem back_l0 (l : List S36) (s t : ByteArray) (hs : s.size ≤ 2000) (hl : l.length ≤ 2000) (ht : t.size ≤ 100000) : ∀ (d i : Nat) (p : Int), i + d = l.length → 0 ≤ p → p ≤ t.size → (∀ (x : S36), x ∈ l.drop i → 0 ≤ opw x.f0) →
    (place 0 l).drop i = place p (l.drop i) → (∀ q, q = p + (((place p (l.drop i)).map fun x => x.f3).foldr (· + ·) 0) → q = t.size) →
    Ev (fun k => januslaw05_CodeBack.l0 k l s t (place 0 l) p (i : Int)) true
  | 0, i, p, hd, h0, hp, hw, hi, hq => by
    refine Ev.step (f := fun k => if p = (t.size : Int) then (januslaw05_CodeBack.j3 k s) else (some false)) (fun k => ?_) ?_
    · simp only [januslaw05_CodeBack.l0]
      rw [if_neg (by omega)]
    · refine Ev.pos ?_ (back_j3 s hs)
      rw [List.drop_of_length_le (by omega)] at hq
      simpa [place] using hq p (by simp [place])
  | d + 1, i, p, hd, h0, hp, hw, hi, hq => by
    have hlt : i < l.length := by omega
    have hx : rd_T36 l (i : Int) = l[i] := by simp [rd_T36, List.getD_eq_getElem?_getD, hlt]
    have hlt2 : i < (place 0 l).length := by rw [place_length]; exact hlt
    have hy : rd_T36 (place 0 l) (i : Int) = (place 0 l)[i] := by simp [rd_T36, List.getD_eq_getElem?_getD, hlt2]
    rw [List.drop_eq_getElem_cons hlt2, List.drop_eq_getElem_cons hlt, place] at hi
    injection hi with h1 h2
    have hw0 := hw l[i] (by rw [List.drop_eq_getElem_cons hlt]; exact List.mem_cons_self ..)
    have hw8 := opw_le l[i].f0
    rw [List.drop_eq_getElem_cons hlt, place] at hq
    simp only [List.map_cons, List.foldr_cons] at hq
    have hsum : ∀ (m : List S36) (q : Int), (∀ x ∈ m, 0 ≤ opw x.f0) → 0 ≤ ((place q m).map fun x => x.f3).foldr (· + ·) 0 := by
      intro m
      induction m with
      | nil => intro q _; simp [place]
      | cons y m ih =>
        intro q hm
        have := ih (q + (1 + opw y.f0)) (fun z hz => hm z (List.mem_cons_of_mem _ hz))
        have := hm y (List.mem_cons_self ..)
        simp only [place, List.map_cons, List.foldr_cons]
        omega
    have hw' : ∀ x ∈ l.drop (i + 1), 0 ≤ opw x.f0 := fun x hx => hw x (by rw [List.drop_eq_getElem_cons hlt]; exact List.mem_cons_of_mem _ hx)
    have hs1 := hsum (l.drop (i + 1)) (p + (1 + opw l[i].f0)) hw'
    have hq1 := hq _ rfl
    refine Ev.step (f := fun k => januslaw05_CodeBack.l0 k l s t (place 0 l) (p + (1 + opw l[i].f0)) ((i + 1 : Nat) : Int)) (fun k => ?_) (back_l0 l s t hs hl ht d (i + 1) _ (by omega) (by omega) (by omega) hw' h2 ?_)
    · simp only [januslaw05_CodeBack.l0]
      rw [if_pos (by omega), if_pos (by omega), if_pos (by omega), hx, hy, h1]
      simp only
      rw [if_pos trivial, if_pos trivial, if_pos trivial, wrap_in (by omega) (by omega), wrap_in (n := (i : Int) + 1) (by omega) (by omega)]
      rfl
    · intro q hq2
      refine hq q ?_
      omega
theorem sum_place (t : ByteArray) : ∀ (l : List S36) (bs : List Int) (p : Int), encAll l = some bs → p + (((place p l).map fun x => x.f3).foldr (· + ·) 0) = p + bs.length
  | [], bs, p, h => by simp [encAll] at h; subst h; simp [place]
  | x :: l, bs, p, h => by
    rw [encAll] at h
    obtain ⟨a, ha, h⟩ := Option.bind_eq_some_iff.1 h
    obtain ⟨c, hc, h⟩ := Option.bind_eq_some_iff.1 h
    obtain rfl := Option.some.inj h
    obtain ⟨h0, rfl, _⟩ := encOne_some ha
    have := sum_place t l c (p + (1 + opw x.f0)) hc
    simp only [place, List.map_cons, List.foldr_cons, List.length_append, List.length_cons, leB_length]
    omega
theorem encAll_ops : ∀ (l : List S36) (bs : List Int), encAll l = some bs → ∀ x ∈ l, 0 ≤ opw x.f0
  | [], bs, h, x, hx => by cases hx
  | y :: l, bs, h, x, hx => by
    rw [encAll] at h
    obtain ⟨a, ha, h⟩ := Option.bind_eq_some_iff.1 h
    obtain ⟨c, hc, h⟩ := Option.bind_eq_some_iff.1 h
    rcases List.mem_cons.1 hx with rfl | hx
    · exact (encOne_some ha).1
    · exact encAll_ops l c hc x hx
theorem CodeBack (l : List S36) (s : ByteArray) (hw : ∀ y ∈ l, 0 ≤ y.f1) : ∃ k, januslaw05_CodeBack.f k l s = some true := by
  refine Ev.rounds ?_
  have out : Ev (fun k => januslaw05_CodeBack.j0 k l s true) true := Ev.step (f := fun k => (januslaw05_awake.f k).bind fun t => some t) (fun k => by simp [januslaw05_CodeBack.j0]) back_aw
  simp only [januslaw05_CodeBack.f]
  by_cases h : (l.length : Int) > 2000
  · exact Ev.pos h out
  refine Ev.neg h ?_
  by_cases h2 : (s.size : Int) > 2000
  · rw [decide_eq_true h2]
    exact out
  rw [decide_eq_false h2]
  refine Ev.step (f := fun k => (code_Encode.f k l).bind fun bt213 => (if bt213.2 = 0 then ((code_Decode.f k bt213.1).bind fun bt215 => (if bt215.2 = 0 then (januslaw05_CodeBack.j1 k l s bt213.1 bt215.1 ((bt215.1.length : Int) != (l.length : Int))) else (januslaw05_CodeBack.j1 k l s bt213.1 bt215.1 true))) else (januslaw05_CodeBack.j3 k s))) (fun k => by simp [januslaw05_CodeBack.j0]) ?_
  refine Ev.bind (Encode_ev l (by omega)) ?_
  cases he : encAll l with
  | none => exact Ev.neg (by simp [encRes]) (back_j3 s (by omega))
  | some bs =>
    have hlen := encAll_length l bs he
    have hr := encAll_range l bs he
    have hn := nums8_str bs hr
    have hsz : (strOfNums bs).size = bs.length := by rw [← nums8_length, hn]
    refine Ev.pos rfl ?_
    simp only [encRes, List.nil_append]
    refine Ev.bind (Decode_ev _ (by omega)) ?_
    have hd : decAll (strOfNums bs) = some (place 0 l) := dec_enc (strOfNums bs) l (strOfNums bs).size 0 bs hw he (by omega) (by rw [hn]; rfl) (by omega)
    rw [hd]
    refine Ev.pos rfl ?_
    simp only [decRes, List.nil_append]
    rw [place_length, show ((l.length : Int) != (l.length : Int)) = false from by simp]
    refine Ev.step (f := fun k => januslaw05_CodeBack.l0 k l s (strOfNums bs) (place 0 l) 0 0) (fun k => by simp [januslaw05_CodeBack.j1]) ?_
    exact back_l0 l s (strOfNums bs) (by omega) (by omega) (by omega) l.length 0 0 (by omega) (by omega) (by omega) (encAll_ops l bs he) rfl (fun q hq => by
      rw [List.drop_zero, sum_place s l bs 0 he] at hq
      omega)
end Go.Proofs.Ytjbpljcfogekhaa.Pure
namespace Go.Proofs.Ytjbpljcfogekhaa.codeBack
open Go.ChangeShapes Go.WideShapes Go.ChangeAt Go.RowKit
open Go.ChangeMaps (open_string shut_string)
set_option linter.unusedVariables false
theorem own : ownKnob Try.prog.godebug = none := by kernel_rfl
theorem laidOut : laidOutB Try.prog = true := by kernel_rfl
set_option maxRecDepth 100000 in
theorem lifted (os : Os) (started : os.Started) (H : Type) (enc : TypeId × Value → H) :
    ReturnsInHanded {} Try.checked os 5 .any (Rows.codeBackSpec.pre6 enc Try.prog Try.f5 Rows.codeBackRow.domain false) (Rows.codeBackSpec.post enc Try.prog Try.f5 false true false false) := by
  refine returnsInHanded_of_change_sized (C := Try.checked) own started (by kernel_rfl) Try.func5
    (ChangeSpec.witness6 (enc := enc) (C := Try.checked) false ⟨#[], #[.slice none 0 0, .string ByteArray.empty], []⟩ 8 (by kernel_rfl) (by kernel_rfl) (by kernel_rfl) (by kernel_rfl)) ?_
  intro W base args ds gs before hval0 hW hcnd hsz0 _
  have hval : ∀ (j : Nat) t v, Try.f5.params[j]? = some t → args[j]? = some v → Value.okWide Try.prog W .any base t v := hval0
  have hW' := hW
  obtain ⟨p, q, hA0, hV, rfl, hfz, hnd⟩ := hW
  have hA : DataW.TrodAll enc Try.prog W 0 (fun _ => true) true Try.f5.params.toList args.toList ds p := hA0
  rw [Try.params5] at hA hval
  obtain ⟨v0, vs0, d0, ds0, p0, q0, hargs, rfl, rfl, h0, r0⟩ := trodAll_cons hA
  obtain ⟨v1, vs1, d1, ds1, p1, q1, rfl, rfl, rfl, h1, r1⟩ := trodAll_cons r0
  obtain ⟨rfl, rfl, rfl⟩ := trodAll_nil r1
  obtain rfl : args = #[v0, v1] := by cases args; simp_all
  obtain ⟨rfl, rfl⟩ := trodVars_none hV
  obtain ⟨a0, len0, cap0, rfl⟩ := okWide_slice Try.underlying22 (hval 0 22 v0 rfl rfl)
  have k0 := h0
  have lt0 : ∀ x ∈ p0, x.block < W.heap.size := by obtain ⟨m, hm⟩ := k0; exact DataW.trod_lt m _ _ _ hm
  obtain ⟨l, rfl, hc, hr, hw⟩ : ∃ l : List Q.S36, len0 = l.length ∧ l.length ≤ cap0 ∧ Go.Proofs.YtjbpljcfogekhaaW.PrintWords.Kd.C Q.k36 W a0 l.length l ∧ ∀ y ∈ l, Opened.InsWf y := by
    obtain ⟨fuel, hf⟩ := h0
    exact Opened.ins_row hf
  obtain ⟨a1, rfl, rfl, rfl, y1⟩ := open_string Try.underlying9 (hval 1 9 v1 rfl rfl) h1
  clear hA0 hval0 hsz0
  obtain ⟨k, hk⟩ := Pure.CodeBack l a1 (fun y hy => (Opened.u64_bounds (hw y hy).2.1).1)
  refine (Q.januslaw05_CodeBack.calls k a0 cap0 l a1 true W hr hc hk).mono fun e W' ⟨he, bel⟩ => ?_
  subst he
  exact ⟨_, rfl, _, _, _, [], _, [], hW', trodAll_mk1 (shut_bool Try.underlying4 _), (trodAll_cons_mk (Below.trod laidOut (by kernel_rfl) (of_decide_eq_true (by kernel_rfl)) k0 bel lt0) (trodAll_cons_mk (shut_string Try.underlying9 y1) trodAll_mk0)), rfl, bel.frame _, fun h => by cases h⟩
theorem over : Rows.codeBackRow.holds Try.pinned (OpenSpec.ofChange Rows.codeBackSpec) :=
  OpenClaim.holds_of_wide 5 Try.f5 rfl rfl rfl rfl rfl rfl rfl ⟨rfl, rfl, rfl, rfl, rfl⟩ rfl rfl rfl rfl rfl (by kernel_rfl) Try.func5 (by kernel_rfl)
    (of_decide_eq_true (by kernel_rfl)) (by unfold Func.isWrapper; first | (rw [if_pos (by decide +kernel)]; kernel_rfl) | (rw [if_neg (by decide +kernel)]; exact ⟨rfl, rfl⟩))
    (fun os started H enc _ => lifted os started H enc)
theorem proved : Rows.CodeBackSaid := over
#print axioms proved
end Go.Proofs.Ytjbpljcfogekhaa.codeBack
namespace Go.Proofs.Ytjbpljcfogekhaa
/-- The row, under a short name, for the claim. -/
theorem codeBack_holds : Rows.CodeBackSaid := codeBack.proved
end Go.Proofs.Ytjbpljcfogekhaa
