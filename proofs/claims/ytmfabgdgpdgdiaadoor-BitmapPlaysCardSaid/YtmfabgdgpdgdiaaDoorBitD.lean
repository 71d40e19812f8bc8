/- Words and Of of a bitmap, walked. -/
import Derived.Test.YtmfabgdgpdgdiaaDoorBitC
import Derived.Test.YtmfabgdgpdgdiaaDoorQxF19
namespace Go.Proofs.YtmfabgdgpdgdiaaDoor.Q
open Go.RowKit Go.Proofs.YtmfabgdgpdgdiaaDoor.Bit Go.Proofs.YtmfabgdgpdgdiaaDoorW.PrintWords Go.Proofs.YtmfabgdgpdgdiaaDoorW.PrintLast Go.Proofs.YtmfabgdgpdgdiaaDoorW.PrintMore
set_option linter.unusedVariables false
set_option linter.unusedSimpArgs false
def nw (ws : List Nat) : List Int := ws.map fun n : Nat => (n : Int)
theorem nw_length (ws : List Nat) : (nw ws).length = ws.length := by simp [nw]
theorem nw_snoc (ws : List Nat) (x : Nat) : nw (ws ++ [x]) = nw ws ++ [(x : Int)] := by simp [nw]
theorem app_u64 {ops : Array Oper} {rest : List Oper} {o : Oper} {a : Act} {Q : Exit → Act → World → Prop} {W w0 : World} {ok0 : Nat → Prop} (hgd : o.guard = none) (s x : Operand)
    (ho : o.op = .call { callee := .builtin .append, args := #[s, x], argTypes := #[41, 41] }) (v : Value) (xs : List Nat) (p : Nat) (hs : a.eval s = v) {B : Nat} (hBW : W.heap.size = B) (hx : a.eval x = .slice (some ⟨B, 0, none⟩) 1 1)
    (HO : Kd.R (Kd.int .u64) 53 W w0.heap.size ok0 v (nw xs)) (HB : Below w0.heap.size w0 W) (hl : xs.length < 1000000)
    (h : ∀ v1 w1, Kd.R (Kd.int .u64) 53 w1 w0.heap.size (fun _ => True) v1 (nw (xs ++ [p])) → Below w0.heap.size w0 w1 → wpList Tryd.prog ops Q rest (a.put o.dst v1) w1) :
    wpList Tryd.prog ops Q (o :: rest) a (W.alloc (.cells #[.int .u64 (p : Int)] 53)) := by
  subst hBW
  refine Kd.R_append (Kd.int .u64) (w0 := w0) w0.heap.size hgd s x 41 53 (.int .u64 0) 8 ho Tryd.underlying41 info53 rfl (by decide) (by decide) v (nw xs) (p : Int) [.int .u64 (p : Int)] (fun _ => True) (fun _ => False) hs hx rfl (fun _ hk => hk.elim) (fun _ _ => trivial)
    (Kd.R_mono HO (fun _ _ => trivial)) HB HB.size (by rw [nw_length]; omega) ?_
  intro v1 w1 h1 h2 h3 h4
  exact h v1 w1 (by rw [nw_snoc]; exact h1) h2
def WordsPost (w : World) (ws : List Nat) (e : Ending) (w' : World) : Prop :=
  ∃ A c, e = .returned (.slice A ws.length c) ∧ ws.length ≤ c ∧ (Kd.int .u64).C w' A ws.length (nw ws) ∧ Below w.heap.size w w'
theorem words_nil (w : World) : Calls Tryd.prog 20 #[.pointer none] w fun e w' => e = .returned (.slice none 0 0) ∧ w' = w := by
  go_enter Tryd.func20, Tryd.ntmps20
  go_wp2
  go_ret
  exact ⟨rfl, rfl⟩
theorem words_end {w wx : World} {ws : List Nat} {v : Value} (h : Kd.R (Kd.int .u64) 53 wx w.heap.size (fun _ => True) v (nw ws)) (hB : Below w.heap.size w wx) : WordsPost w ws (.returned v) wx := by
  obtain ⟨A, c, rfl, hc, hr⟩ := Kd.R_reads h
  rw [nw_length] at hc hr
  exact ⟨A, c, by rw [nw_length], hc, hr, hB⟩
set_option maxHeartbeats 1000000 in
set_option maxRecDepth 100000 in
theorem words_calls (B b g n : Nat) (ws : List Nat) (w : World) (h : BW w B b g n ws) (hl16 : ws.length ≤ 16) :
    Calls Tryd.prog 20 #[.pointer (some ⟨b, 0, none⟩)] w (WordsPost w ws) := by
  have h0 := h.c0
  have h1 := h.c1
  replace h := Aside0.mk h
  go_enter Tryd.func20, Tryd.ntmps20
  go_wp2
  go_loopg [3, 13] ws.length (fun k v3 v13 wx => ∃ j : Nat, v13 = .int .i64 j ∧ j + k = ws.length ∧ Kd.R (Kd.int .u64) 53 wx w.heap.size (fun _ => True) v3 (nw (ws.take j)) ∧ Below w.heap.size w wx)
  case atStart => exact ⟨0, rfl, by omega, Kd.R_nil _ _ _ _ _, Below.refl _ _⟩
  case round =>
    obtain ⟨j, rfl, hjk, hr, hB⟩ := hrel
    cases gk with
    | zero =>
      have ej : j = ws.length := by omega
      have hlt : ¬ (j : Int) < (ws.length : Int) := by omega
      subst ej
      rw [List.take_length] at hr
      have hr2 := Aside0.mk hr
      have hB2 := Aside0.mk hB
      clear hjk hr hB
      go_wp2
      go_ret
      exact words_end hr2.out hB2.out
    | succ gk =>
      have hjl : j < ws.length := by omega
      have hlt : (j : Int) < (ws.length : Int) := by omega
      have hj16 : (j : Int) < 16 := by omega
      have hc := (h.out.below hB).at_ hjl
      have htk := Aside0.mk (show ws.take (j + 1) = ws.take j ++ [ws.getD j 0] by
        rw [List.take_succ_eq_append_getElem hjl, List.getD_eq_getElem?_getD, List.getElem?_eq_getElem hjl]; rfl)
      have hll := Aside0.mk (show (ws.take j).length < 1000000 by rw [List.length_take]; omega)
      obtain ⟨x, hx⟩ : ∃ x, ws.getD j 0 = x := ⟨_, rfl⟩
      rw [hx] at hc htk
      have hr2 := Aside0.mk hr
      have hB2 := Aside0.mk hB
      replace hjk := Aside0.mk hjk
      clear hx hr hB hjl
      go_wp2_with (first
        | (at_builtin; refine app_u64 (w0 := w) rfl (.tmp 17) (.tmp 19) rfl _ (ws.take j) x rfl rfl rfl hr2.out hB2.out hll.out ?_; intro v1 w1 j1 j2; replace j1 := Aside0.mk j1; replace j2 := Aside0.mk j2))
      go_roundg gk
      case measure => have := hjk.out; omega
      case rel => exact ⟨j + 1, by go_num, by have := hjk.out; omega, by rw [htk.out]; exact j1.out, j2.out⟩
end Go.Proofs.YtmfabgdgpdgdiaaDoor.Q
