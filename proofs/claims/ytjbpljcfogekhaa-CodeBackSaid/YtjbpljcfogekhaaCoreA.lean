/- Plain facts of layer 5: operands, the bytes of numbers. -/
import Derived.Test.YtjbpljcfogekhaaQxF16
import Derived.Test.YtjbpljcfogekhaaQxF17
import Derived.Test.YtjbpljcfogekhaaQxF18
import Derived.Test.YtjbpljcfogekhaaQxF19
import Derived.Test.YtjbpljcfogekhaaQxF22
namespace Go.Proofs.Ytjbpljcfogekhaa.Core
open Go.RowKit Go.Proofs.Ytjbpljcfogekhaa.Q Go.Proofs.YtjbpljcfogekhaaW.PrintWords Go.Proofs.YtjbpljcfogekhaaW.PrintLast Go.Proofs.YtjbpljcfogekhaaW.PrintMore

/-! ### Ev -/
theorem Ev.ret {α : Type} {g : Nat → Option α} {r : α} (h : ∀ k, g k = some r) : Ev g r := ⟨0, fun k _ => h k⟩
theorem Ev.from {α : Type} {g : Nat → Option α} {r : α} (n : Nat) (h : ∀ k, g (k + n) = some r) : Ev g r :=
  ⟨n, fun k hk => by obtain ⟨m, rfl⟩ := Nat.exists_eq_add_of_le hk; rw [Nat.add_comm]; exact h m⟩
theorem Ev.pos {α : Type} {c : Prop} [Decidable c] {g f : Nat → Option α} {r : α} (h : c) (k : Ev g r) : Ev (fun n => if c then g n else f n) r := by simpa only [if_pos h] using k
theorem Ev.neg {α : Type} {c : Prop} [Decidable c] {g f : Nat → Option α} {r : α} (h : ¬ c) (k : Ev f r) : Ev (fun n => if c then g n else f n) r := by simpa only [if_neg h] using k
theorem Ev.fn {α β : Type} {g : Option α} {f : Nat → α → Option β} {a : α} {r : β} (h : g = some a) (k : Ev (fun n => f n a) r) : Ev (fun n => g.bind (f n)) r := by
  subst h; exact k
theorem Ev.one {α : Type} {g : Nat → Option α} {r q : α} (h : Ev g r) (h' : Ev g q) : r = q := by
  obtain ⟨K, hK⟩ := h
  obtain ⟨K', hK'⟩ := h'
  have h1 := hK (K + K') (by omega)
  have h2 := hK' (K + K') (by omega)
  rw [h1] at h2
  exact Option.some.inj h2

/-! ### Operands -/
def opw (op : Int) : Int := if op = 0 then 1 else if op = 23 then 1 else if op = 21 then 2 else if op = 22 then 2 else if op = 1 then 8 else if op < 0 then -1 else if op > 23 then -1 else 0
def opk (op : Int) : Int := if op = 0 then 1 else if op = 23 then 1 else if op = 21 then 2 else if op = 22 then 2 else if op = 1 then 3 else if op < 0 then -1 else if op > 23 then -1 else 0
theorem operand_ev (op : Int) : Ev (fun k => code_operand.f k op) (opk op) := by
  refine Ev.from 2 fun k => ?_
  simp only [code_operand.f, code_operand.j0, code_operand.j1, opk, beq_iff_eq]
  repeat' split
  all_goals first | rfl | (exfalso; omega)
theorem Operand_ev (op : Int) : Ev (fun k => janusref05_Operand.f k op) (opw op) := by
  refine Ev.from 2 fun k => ?_
  simp only [janusref05_Operand.f, janusref05_Operand.j0, janusref05_Operand.j1, opw, beq_iff_eq]
  repeat' split
  all_goals first | rfl | (exfalso; omega)
theorem opk_neg (op : Int) : opk op < 0 ↔ opw op < 0 := by
  unfold opk opw; repeat' split
  all_goals omega
theorem opw_cases (op : Int) : opw op = -1 ∨ opw op = 0 ∨ opw op = 1 ∨ opw op = 2 ∨ opw op = 8 := by
  unfold opw; repeat' split
  all_goals simp
theorem opw_op {op : Int} (h : 0 ≤ opw op) : 0 ≤ op ∧ op ≤ 23 := by
  unfold opw at h; repeat' split at h
  all_goals omega
theorem opw_le (op : Int) : opw op ≤ 8 := by rcases opw_cases op with h | h | h | h | h <;> omega
theorem width_eq (op : Int) (h : 0 ≤ opw op) : code_width.f (opk op) = some (opw op) := by
  have hw : ∀ j : Int, j = 0 ∨ j = 1 ∨ j = 2 ∨ j = 3 → code_width.f j = some (if j = 0 then 0 else if j = 1 then 1 else if j = 2 then 2 else 8) := by
    rintro j (rfl | rfl | rfl | rfl) <;> rfl
  revert h
  unfold opk opw
  repeat' split
  all_goals first | (intro h; omega) | (intro _; rw [hw _ (by omega)]; rfl)

/-! ### The bytes of a number -/
def leB : Nat → Int → List Int
  | 0, _ => []
  | n + 1, x => x % 256 :: leB n (x / 256)
theorem leB_length : ∀ (n : Nat) (x : Int), (leB n x).length = n
  | 0, _ => rfl
  | n + 1, x => by rw [leB, List.length_cons, leB_length n]
theorem leB_range : ∀ (n : Nat) (x : Int), ∀ b ∈ leB n x, 0 ≤ b ∧ b < 256
  | 0, _ => fun b hb => by cases hb
  | n + 1, x => fun b hb => by
    rcases List.mem_cons.1 hb with rfl | hb
    · omega
    · exact leB_range n _ b hb
theorem div_pow (x : Int) (n : Nat) : x / 256 / 256 ^ n = x / 256 ^ (n + 1) := by
  rw [Int.ediv_ediv_of_nonneg (by omega), Int.pow_succ, Int.mul_comm]
/-- The j-th byte. -/
theorem leB_get : ∀ (n : Nat) (x : Int) (j : Nat), j < n → (leB n x)[j]? = some (x / 256 ^ j % 256)
  | n + 1, x, 0, _ => by simp [leB]
  | n + 1, x, j + 1, h => by
    rw [leB, List.getElem?_cons_succ, leB_get n _ j (by omega), div_pow]
/-- The bytes as a number. -/
def leN : List Int → Int
  | [] => 0
  | b :: l => b + 256 * leN l
theorem leN_leB : ∀ (n : Nat) (x : Int), 0 ≤ x → leN (leB n x) = x % 256 ^ n
  | 0, x, _ => by simp [leB, leN, Int.emod_one]
  | n + 1, x, h => by
    rw [leB, leN, leN_leB n _ (by omega)]
    have h1 : (256 : Int) ^ (n + 1) = 256 * 256 ^ n := by rw [Int.pow_succ, Int.mul_comm]
    have h2 := Int.emod_add_mul_ediv x 256
    have h3 := Int.emod_add_mul_ediv (x / 256) (256 ^ n)
    have h4 := Int.emod_add_mul_ediv x (256 ^ (n + 1))
    rw [div_pow] at h3
    rw [h1] at h4 ⊢
    have h5 : (256 : Int) * 256 ^ n * (x / (256 * 256 ^ n)) = 256 * (256 ^ n * (x / 256 ^ (n + 1))) := by rw [h1, Int.mul_assoc]
    omega
theorem leN_range : ∀ (l : List Int), (∀ b ∈ l, 0 ≤ b ∧ b < 256) → 0 ≤ leN l ∧ leN l < 256 ^ l.length
  | [], _ => by simp [leN]
  | b :: l, h => by
    have h1 := leN_range l (fun c hc => h c (List.mem_cons_of_mem _ hc))
    have h2 := h b (List.mem_cons_self ..)
    have h3 : (256 : Int) ^ (l.length + 1) = 256 * 256 ^ l.length := by rw [Int.pow_succ, Int.mul_comm]
    rw [leN, List.length_cons, h3]
    omega
theorem leN_append : ∀ (l m : List Int), leN (l ++ m) = leN l + 256 ^ l.length * leN m
  | [], m => by simp [leN]
  | b :: l, m => by
    rw [List.cons_append, leN, leN, leN_append l m, List.length_cons, Int.pow_succ, Int.mul_add, Int.mul_comm (256 ^ l.length) 256, Int.mul_assoc]
    omega
theorem leB_leN : ∀ (l : List Int), (∀ b ∈ l, 0 ≤ b ∧ b < 256) → leB l.length (leN l) = l
  | [], _ => rfl
  | b :: l, h => by
    have h2 := h b (List.mem_cons_self ..)
    rw [List.length_cons, leB, leN]
    rw [show (b + 256 * leN l) % 256 = b from by omega, show (b + 256 * leN l) / 256 = leN l from by omega, leB_leN l (fun c hc => h c (List.mem_cons_of_mem _ hc))]

end Go.Proofs.Ytjbpljcfogekhaa.Core
