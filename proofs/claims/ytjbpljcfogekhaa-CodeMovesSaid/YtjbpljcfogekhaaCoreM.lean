/- Plain facts of layer 5: what Args and Moves of the program and of the reference come to. -/
import Derived.Test.YtjbpljcfogekhaaCoreA
import Derived.Test.YtjbpljcfogekhaaQxF23
import Derived.Test.YtjbpljcfogekhaaQxF24
namespace Go.Proofs.Ytjbpljcfogekhaa.Core
open Go.RowKit Go.Proofs.Ytjbpljcfogekhaa.Q Go.Proofs.YtjbpljcfogekhaaW.PrintWords Go.Proofs.YtjbpljcfogekhaaW.PrintLast Go.Proofs.YtjbpljcfogekhaaW.PrintMore

def argsS (c : Int) : Int :=
  if c = 2 then 0 else if c = 17 then 0 else if c = 18 then 0 else if c = 19 then 0
  else if c = 1 then 1 else if c = 4 then 1 else if c = 6 then 1 else if c = 9 then 1 else if c = 10 then 1
  else if c = 3 then 2 else if c = 11 then 2 else if c = 12 then 2 else if c = 15 then 2 else if c = 16 then 2
  else if c = 5 then 3 else if c = 7 then 3 else if c = 8 then 3
  else if c = 13 then 4 else if c = 14 then 4 else -1
theorem argsS_cases (c : Int) : argsS c = -1 ∨ argsS c = 0 ∨ argsS c = 1 ∨ argsS c = 2 ∨ argsS c = 3 ∨ argsS c = 4 := by
  obtain ⟨r, hr⟩ : ∃ r, r = argsS c := ⟨_, rfl⟩
  rw [← hr]
  unfold argsS at hr
  repeat' split at hr
  all_goals omega
theorem Args_ev (c : Int) : Ev (fun k => code_Args.f k c) (argsS c) := by
  by_cases h : 1 ≤ c ∧ c ≤ 19
  · have h' : c = 1 ∨ c = 2 ∨ c = 3 ∨ c = 4 ∨ c = 5 ∨ c = 6 ∨ c = 7 ∨ c = 8 ∨ c = 9 ∨ c = 10 ∨ c = 11 ∨ c = 12 ∨ c = 13 ∨ c = 14 ∨ c = 15 ∨ c = 16 ∨ c = 17 ∨ c = 18 ∨ c = 19 := by omega
    rcases h' with rfl | rfl | rfl | rfl | rfl | rfl | rfl | rfl | rfl | rfl | rfl | rfl | rfl | rfl | rfl | rfl | rfl | rfl | rfl
    all_goals exact Ev.of (code_Args.mono _) (k := 4) (by decide +kernel)
  · refine Ev.from 4 fun k => ?_
    have h1 : c ≠ 1 := by omega
    have h2 : c ≠ 2 := by omega
    have h3 : c ≠ 3 := by omega
    have h4 : c ≠ 4 := by omega
    have h5 : c ≠ 5 := by omega
    have h6 : c ≠ 6 := by omega
    have h7 : c ≠ 7 := by omega
    have h8 : c ≠ 8 := by omega
    have h9 : c ≠ 9 := by omega
    have h10 : c ≠ 10 := by omega
    have h11 : c ≠ 11 := by omega
    have h12 : c ≠ 12 := by omega
    have h13 : c ≠ 13 := by omega
    have h14 : c ≠ 14 := by omega
    have h15 : c ≠ 15 := by omega
    have h16 : c ≠ 16 := by omega
    have h17 : c ≠ 17 := by omega
    have h18 : c ≠ 18 := by omega
    have h19 : c ≠ 19 := by omega
    simp [code_Args.f, code_Args.j0, code_Args.j1, code_Args.j2, code_Args.j3, argsS, h1, h2, h3, h4, h5, h6, h7, h8, h9, h10, h11, h12, h13, h14, h15, h16, h17, h18, h19]
theorem RArgs_ev (c : Int) : Ev (fun k => janusref05_Args.f k c) (argsS c) := by
  by_cases h : 1 ≤ c ∧ c ≤ 19
  · have h' : c = 1 ∨ c = 2 ∨ c = 3 ∨ c = 4 ∨ c = 5 ∨ c = 6 ∨ c = 7 ∨ c = 8 ∨ c = 9 ∨ c = 10 ∨ c = 11 ∨ c = 12 ∨ c = 13 ∨ c = 14 ∨ c = 15 ∨ c = 16 ∨ c = 17 ∨ c = 18 ∨ c = 19 := by omega
    rcases h' with rfl | rfl | rfl | rfl | rfl | rfl | rfl | rfl | rfl | rfl | rfl | rfl | rfl | rfl | rfl | rfl | rfl | rfl | rfl
    all_goals exact Ev.from 4 fun k => rfl
  · refine Ev.from 4 fun k => ?_
    have h1 : c ≠ 1 := by omega
    have h2 : c ≠ 2 := by omega
    have h3 : c ≠ 3 := by omega
    have h4 : c ≠ 4 := by omega
    have h5 : c ≠ 5 := by omega
    have h6 : c ≠ 6 := by omega
    have h7 : c ≠ 7 := by omega
    have h8 : c ≠ 8 := by omega
    have h9 : c ≠ 9 := by omega
    have h10 : c ≠ 10 := by omega
    have h11 : c ≠ 11 := by omega
    have h12 : c ≠ 12 := by omega
    have h13 : c ≠ 13 := by omega
    have h14 : c ≠ 14 := by omega
    have h15 : c ≠ 15 := by omega
    have h16 : c ≠ 16 := by omega
    have h17 : c ≠ 17 := by omega
    have h18 : c ≠ 18 := by omega
    have h19 : c ≠ 19 := by omega
    simp [janusref05_Args.f, janusref05_Args.j0, janusref05_Args.j1, janusref05_Args.j2, janusref05_Args.j3, argsS, h1, h2, h3, h4, h5, h6, h7, h8, h9, h10, h11, h12, h13, h14, h15, h16, h17, h18, h19]

def movesS (op arg : Int) : Int × Int :=
  if op = 0 then (0, 1) else if op = 1 then (0, 1) else if op = 2 then (1, 2) else if op = 3 then (1, 0) else if op = 22 then (1, 0)
  else if op = 4 then (2, 2) else if op = 5 then (2, 3) else if op = 18 then (1, 1) else if op = 19 then (1, 1) else if op = 20 then (2, 0) else if op = 21 then (0, 0)
  else if op = 23 then (if arg < 256 then (if 0 ≤ argsS arg then (argsS arg, 1) else (-1, -1)) else (-1, -1))
  else if 6 ≤ op then (if op ≤ 17 then (2, 1) else (-1, -1)) else (-1, -1)

theorem wrap_small {n : Int} (h0 : 0 ≤ n) (h1 : n < 256) : wrap64 n = n := by unfold wrap64; omega

theorem Moves_ev (op arg a b : Int) (h0 : 0 ≤ arg) : Ev (fun k => code_Moves.f k op arg a b) (movesS op arg) := by
  have j2 : ∀ t, (t = true ↔ (op = 18 ∨ op = 19)) → op ≠ 0 → op ≠ 1 → op ≠ 2 → op ≠ 3 → op ≠ 22 → op ≠ 4 → op ≠ 5 → Ev (fun k => code_Moves.j2 k op t op arg a b) (movesS op arg) := by
    intro t ht g0 g1 g2 g3 g4 g5 g6
    unfold movesS
    rw [if_neg g0, if_neg g1, if_neg g2, if_neg g3, if_neg g4, if_neg g5, if_neg g6]
    by_cases h18 : op = 18 ∨ op = 19
    · refine Ev.from 1 fun k => ?_
      simp only [code_Moves.j2]
      rw [if_pos (ht.2 h18)]
      rcases h18 with rfl | rfl <;> rfl
    · have e18 : op ≠ 18 := fun h => h18 (.inl h)
      have e19 : op ≠ 19 := fun h => h18 (.inr h)
      rw [if_neg e18, if_neg e19]
      refine Ev.step (f := fun k => if op = 20 then (some (2, 0)) else (if op = 21 then (some (0, 0)) else (if op = 23 then (if arg < 256 then ((code_Args.f k (wrap64 (arg))).bind fun t131 => (code_Moves.j3 k (decide (t131 ≥ 0)) op arg a b)) else (code_Moves.j3 k false op arg a b)) else (if op ≥ 6 then (if op ≤ 17 then (some (2, 1)) else (some ((-1), (-1)))) else (some ((-1), (-1))))))) (fun k => ?_) ?_
      · simp only [code_Moves.j2]
        rw [if_neg (fun h => h18 (ht.1 h))]
      · have no : Ev (fun k => code_Moves.j3 k false op arg a b) (-1, -1) := Ev.from 1 fun k => by simp [code_Moves.j3]
        by_cases e20 : op = 20
        · rw [if_pos e20]; exact Ev.pos e20 (Ev.now _)
        refine Ev.neg e20 ?_
        rw [if_neg e20]
        by_cases e21 : op = 21
        · rw [if_pos e21]; exact Ev.pos e21 (Ev.now _)
        refine Ev.neg e21 ?_
        rw [if_neg e21]
        by_cases e23 : op = 23
        · refine Ev.pos e23 ?_
          rw [if_pos e23]
          by_cases ha : arg < 256
          · refine Ev.pos ha ?_
            rw [if_pos ha, wrap_small h0 ha]
            refine Ev.bind (Args_ev arg) ?_
            by_cases hn : 0 ≤ argsS arg
            · rw [if_pos hn, decide_eq_true (show argsS arg ≥ 0 from hn)]
              refine Ev.step (f := fun k => (code_Args.f k (wrap64 (arg))).bind fun t132 => (some (t132, 1))) (fun k => by simp [code_Moves.j3]) ?_
              rw [wrap_small h0 ha]
              exact Ev.bind (Args_ev arg) (Ev.now _)
            · rw [if_neg hn, decide_eq_false (show ¬ argsS arg ≥ 0 from hn)]
              exact no
          · refine Ev.neg ha ?_
            rw [if_neg ha]
            exact no
        · refine Ev.neg e23 ?_
          rw [if_neg e23]
          by_cases e6 : 6 ≤ op
          · refine Ev.pos e6 ?_
            rw [if_pos e6]
            by_cases e17 : op ≤ 17
            · simp only [if_pos e17]; exact Ev.now _
            · simp only [if_neg e17]; exact Ev.now _
          · simp only [ge_iff_le, if_neg e6]; exact Ev.now _
  have j1 : ∀ t, (t = true ↔ (op = 3 ∨ op = 22)) → op ≠ 0 → op ≠ 1 → op ≠ 2 → Ev (fun k => code_Moves.j1 k op t op arg a b) (movesS op arg) := by
    intro t ht g0 g1 g2
    by_cases h3 : op = 3 ∨ op = 22
    · refine Ev.from 1 fun k => ?_
      simp only [code_Moves.j1]
      rw [if_pos (ht.2 h3)]
      rcases h3 with rfl | rfl <;> rfl
    · have e3 : op ≠ 3 := fun h => h3 (.inl h)
      have e22 : op ≠ 22 := fun h => h3 (.inr h)
      by_cases e4 : op = 4
      · refine Ev.from 1 fun k => ?_
        simp only [code_Moves.j1]
        rw [if_neg (fun h => h3 (ht.1 h)), if_pos e4]
        subst e4; rfl
      by_cases e5 : op = 5
      · refine Ev.from 1 fun k => ?_
        simp only [code_Moves.j1]
        rw [if_neg (fun h => h3 (ht.1 h)), if_neg e4, if_pos e5]
        subst e5; rfl
      refine Ev.step (f := fun k => if op = 18 then (code_Moves.j2 k op (op == 18) op arg a b) else (code_Moves.j2 k op (op == 19) op arg a b)) (fun k => ?_) ?_
      · simp only [code_Moves.j1]
        rw [if_neg (fun h => h3 (ht.1 h)), if_neg e4, if_neg e5]
      · by_cases e18 : op = 18
        · exact Ev.pos e18 (j2 _ (by simp [e18]) g0 g1 g2 e3 e22 e4 e5)
        · exact Ev.neg e18 (j2 _ (by simp [e18]) g0 g1 g2 e3 e22 e4 e5)
  have j0 : ∀ t, (t = true ↔ (op = 0 ∨ op = 1)) → Ev (fun k => code_Moves.j0 k op t op arg a b) (movesS op arg) := by
    intro t ht
    by_cases h0 : op = 0 ∨ op = 1
    · refine Ev.from 1 fun k => ?_
      simp only [code_Moves.j0]
      rw [if_pos (ht.2 h0)]
      rcases h0 with rfl | rfl <;> rfl
    · have e0 : op ≠ 0 := fun h => h0 (.inl h)
      have e1 : op ≠ 1 := fun h => h0 (.inr h)
      by_cases e2 : op = 2
      · refine Ev.from 1 fun k => ?_
        simp only [code_Moves.j0]
        rw [if_neg (fun h => h0 (ht.1 h)), if_pos e2]
        subst e2; rfl
      refine Ev.step (f := fun k => if op = 3 then (code_Moves.j1 k op (op == 3) op arg a b) else (code_Moves.j1 k op (op == 22) op arg a b)) (fun k => ?_) ?_
      · simp only [code_Moves.j0]
        rw [if_neg (fun h => h0 (ht.1 h)), if_neg e2]
      · by_cases e3 : op = 3
        · exact Ev.pos e3 (j1 _ (by simp [e3]) e0 e1 e2)
        · exact Ev.neg e3 (j1 _ (by simp [e3]) e0 e1 e2)
  simp only [code_Moves.f]
  by_cases e0 : op = 0
  · exact Ev.pos e0 (j0 _ (by simp [e0]))
  · exact Ev.neg e0 (j0 _ (by simp [e0]))

theorem RMoves_ev (op arg a b : Int) (h0 : 0 ≤ arg) : Ev (fun k => janusref05_Moves.f k op arg a b) (movesS op arg) := by
  have j3 : ∀ t, (t = true ↔ (op = 18 ∨ op = 19)) → op ≠ 0 → op ≠ 1 → op ≠ 2 → op ≠ 3 → op ≠ 22 → op ≠ 4 → op ≠ 5 → ¬ (6 ≤ op ∧ op ≤ 17) → Ev (fun k => janusref05_Moves.j3 k t op arg a b) (movesS op arg) := by
    intro t ht g0 g1 g2 g3 g4 g5 g6 g7
    unfold movesS
    rw [if_neg g0, if_neg g1, if_neg g2, if_neg g3, if_neg g4, if_neg g5, if_neg g6]
    by_cases h18 : op = 18 ∨ op = 19
    · refine Ev.from 1 fun k => ?_
      simp only [janusref05_Moves.j3]
      rw [if_pos (ht.2 h18)]
      rcases h18 with rfl | rfl <;> rfl
    · have e18 : op ≠ 18 := fun h => h18 (.inl h)
      have e19 : op ≠ 19 := fun h => h18 (.inr h)
      rw [if_neg e18, if_neg e19]
      refine Ev.step (f := fun k => if op = 20 then (some (2, 0)) else (if op = 21 then (some (0, 0)) else (if op = 23 then (if arg ≤ 255 then ((janusref05_Args.f k (wrap64 (arg))).bind fun t234 => (if t234 ≥ 0 then ((janusref05_Args.f k (wrap64 (arg))).bind fun t235 => (some (t235, 1))) else (some ((-1), (-1))))) else (some ((-1), (-1)))) else (some ((-1), (-1)))))) (fun k => ?_) ?_
      · simp only [janusref05_Moves.j3]
        rw [if_neg (fun h => h18 (ht.1 h))]
      · by_cases e20 : op = 20
        · rw [if_pos e20]; exact Ev.pos e20 (Ev.now _)
        refine Ev.neg e20 ?_
        rw [if_neg e20]
        by_cases e21 : op = 21
        · rw [if_pos e21]; exact Ev.pos e21 (Ev.now _)
        refine Ev.neg e21 ?_
        rw [if_neg e21]
        by_cases e23 : op = 23
        · refine Ev.pos e23 ?_
          rw [if_pos e23]
          by_cases ha : arg < 256
          · refine Ev.pos (by omega) ?_
            rw [if_pos ha, wrap_small h0 ha]
            refine Ev.bind (RArgs_ev arg) ?_
            by_cases hn : 0 ≤ argsS arg
            · rw [if_pos hn]
              exact Ev.pos hn (Ev.bind (RArgs_ev arg) (Ev.now _))
            · rw [if_neg hn]
              exact Ev.neg hn (Ev.now _)
          · refine Ev.neg (by omega) ?_
            rw [if_neg ha]
            exact Ev.now _
        · refine Ev.neg e23 ?_
          rw [if_neg e23]
          by_cases e6 : 6 ≤ op
          · rw [if_pos e6, if_neg (fun h => g7 ⟨e6, h⟩)]; exact Ev.now _
          · rw [if_neg e6]; exact Ev.now _
  have j2 : ∀ t, (t = true ↔ (6 ≤ op ∧ op ≤ 17)) → op ≠ 0 → op ≠ 1 → op ≠ 2 → op ≠ 3 → op ≠ 22 → op ≠ 4 → op ≠ 5 → Ev (fun k => janusref05_Moves.j2 k t op arg a b) (movesS op arg) := by
    intro t ht g0 g1 g2 g3 g4 g5 g6
    by_cases h6 : 6 ≤ op ∧ op ≤ 17
    · refine Ev.from 1 fun k => ?_
      simp only [janusref05_Moves.j2]
      rw [if_pos (ht.2 h6)]
      unfold movesS
      rw [if_neg g0, if_neg g1, if_neg g2, if_neg g3, if_neg g4, if_neg g5, if_neg g6, if_neg (by omega), if_neg (by omega), if_neg (by omega), if_neg (by omega), if_neg (by omega), if_pos h6.1, if_pos h6.2]
    · refine Ev.step (f := fun k => if op = 18 then (janusref05_Moves.j3 k true op arg a b) else (janusref05_Moves.j3 k (op == 19) op arg a b)) (fun k => ?_) ?_
      · simp only [janusref05_Moves.j2]
        rw [if_neg (fun h => h6 (ht.1 h))]
      · by_cases e18 : op = 18
        · exact Ev.pos e18 (j3 _ (by simp [e18]) g0 g1 g2 g3 g4 g5 g6 h6)
        · exact Ev.neg e18 (j3 _ (by simp [e18]) g0 g1 g2 g3 g4 g5 g6 h6)
  have j1 : ∀ t, (t = true ↔ (op = 3 ∨ op = 22)) → op ≠ 0 → op ≠ 1 → op ≠ 2 → Ev (fun k => janusref05_Moves.j1 k t op arg a b) (movesS op arg) := by
    intro t ht g0 g1 g2
    by_cases h3 : op = 3 ∨ op = 22
    · refine Ev.from 1 fun k => ?_
      simp only [janusref05_Moves.j1]
      rw [if_pos (ht.2 h3)]
      rcases h3 with rfl | rfl <;> rfl
    · have e3 : op ≠ 3 := fun h => h3 (.inl h)
      have e22 : op ≠ 22 := fun h => h3 (.inr h)
      by_cases e4 : op = 4
      · refine Ev.from 1 fun k => ?_
        simp only [janusref05_Moves.j1]
        rw [if_neg (fun h => h3 (ht.1 h)), if_pos e4]
        subst e4; rfl
      by_cases e5 : op = 5
      · refine Ev.from 1 fun k => ?_
        simp only [janusref05_Moves.j1]
        rw [if_neg (fun h => h3 (ht.1 h)), if_neg e4, if_pos e5]
        subst e5; rfl
      refine Ev.step (f := fun k => if op ≥ 6 then (janusref05_Moves.j2 k (decide (op ≤ 17)) op arg a b) else (janusref05_Moves.j2 k false op arg a b)) (fun k => ?_) ?_
      · simp only [janusref05_Moves.j1]
        rw [if_neg (fun h => h3 (ht.1 h)), if_neg e4, if_neg e5]
      · by_cases e6 : op ≥ 6
        · exact Ev.pos e6 (j2 _ (by simp; omega) g0 g1 g2 e3 e22 e4 e5)
        · exact Ev.neg e6 (j2 _ (by simp; omega) g0 g1 g2 e3 e22 e4 e5)
  have j0 : ∀ t, (t = true ↔ (op = 0 ∨ op = 1)) → Ev (fun k => janusref05_Moves.j0 k t op arg a b) (movesS op arg) := by
    intro t ht
    by_cases h0 : op = 0 ∨ op = 1
    · refine Ev.from 1 fun k => ?_
      simp only [janusref05_Moves.j0]
      rw [if_pos (ht.2 h0)]
      rcases h0 with rfl | rfl <;> rfl
    · have e0 : op ≠ 0 := fun h => h0 (.inl h)
      have e1 : op ≠ 1 := fun h => h0 (.inr h)
      by_cases e2 : op = 2
      · refine Ev.from 1 fun k => ?_
        simp only [janusref05_Moves.j0]
        rw [if_neg (fun h => h0 (ht.1 h)), if_pos e2]
        subst e2; rfl
      refine Ev.step (f := fun k => if op = 3 then (janusref05_Moves.j1 k true op arg a b) else (janusref05_Moves.j1 k (op == 22) op arg a b)) (fun k => ?_) ?_
      · simp only [janusref05_Moves.j0]
        rw [if_neg (fun h => h0 (ht.1 h)), if_neg e2]
      · by_cases e3 : op = 3
        · exact Ev.pos e3 (j1 _ (by simp [e3]) e0 e1 e2)
        · exact Ev.neg e3 (j1 _ (by simp [e3]) e0 e1 e2)
  simp only [janusref05_Moves.f]
  by_cases e0 : op = 0
  · exact Ev.pos e0 (j0 _ (by simp [e0]))
  · exact Ev.neg e0 (j0 _ (by simp [e0]))

end Go.Proofs.Ytjbpljcfogekhaa.Core
