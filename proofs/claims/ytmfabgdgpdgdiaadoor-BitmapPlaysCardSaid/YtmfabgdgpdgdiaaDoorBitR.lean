/- Plain facts for chapter 14: which words say which bits. -/
import Derived.Test.YtmfabgdgpdgdiaaDoorBitP
namespace Go.Proofs.YtmfabgdgpdgdiaaDoor.Bit
set_option linter.unusedVariables false
set_option linter.unusedSimpArgs false
def setN (w i : Nat) (b : Bool) : Nat := if b = true then w ||| 2 ^ i else w &&& (2 ^ 64 - (2 ^ i + 1))
theorem p64 : (2 : Nat) ^ 64 = 18446744073709551616 := rfl
theorem setN_lt {w i : Nat} (b : Bool) (hw : w < 18446744073709551616) (hi : i < 64) : setN w i b < 18446744073709551616 := by
  unfold setN
  split
  · exact Nat.or_lt_two_pow (n := 64) hw (Nat.pow_lt_pow_right (by decide) hi)
  · refine Nat.lt_of_le_of_lt Nat.and_le_left hw
theorem setN_bit {w i j : Nat} (b : Bool) (hi : i < 64) (hj : j < 64) : (setN w i b).testBit j = if j = i then b else w.testBit j := by
  unfold setN
  cases b
  · simp only [Bool.false_eq_true, if_false]
    rw [Nat.testBit_and, Nat.testBit_two_pow_sub_succ (Nat.pow_lt_pow_right (by decide) hi), Nat.testBit_two_pow]
    by_cases h : j = i
    · subst h; simp
    · rw [if_neg h]
      have : i ≠ j := fun e => h e.symm
      simp [this, hj]
  · simp only [if_true]
    rw [Nat.testBit_or, Nat.testBit_two_pow]
    by_cases h : j = i
    · subst h; simp
    · rw [if_neg h]
      have : i ≠ j := fun e => h e.symm
      simp [this]
theorem has_bit (w i : Nat) : (((w / 2 ^ i) &&& 1 : Nat) == 1) = w.testBit i := by
  rw [Nat.testBit_eq_decide_div_mod_eq, Nat.and_one_is_mod]
  by_cases h : w / 2 ^ i % 2 = 1 <;> simp [h]
/-- the lowest bit that is not set -/
def freeN (w : Nat) : Nat := Lib.ctz 64 (18446744073709551615 - w)
theorem freeN_all {w : Nat} (hw : w < 18446744073709551616) (h : 64 ≤ freeN w) : ∀ j, j < 64 → w.testBit j = true := by
  unfold freeN at h
  have e : 18446744073709551615 - w = 2 ^ 64 - (w + 1) := by rw [p64]; omega
  by_cases h0 : 18446744073709551615 - w = 0
  · intro j hj
    have h1 : (18446744073709551615 - w).testBit j = false := by rw [h0]; exact Nat.zero_testBit j
    rw [e, Nat.testBit_two_pow_sub_succ hw] at h1
    simpa [hj] using h1
  · have := (Lib.lowest_bit 64 _ h0 (by omega)).2
    omega
theorem freeN_bit {w : Nat} (hw : w < 18446744073709551616) (h : freeN w < 64) : w.testBit (freeN w) = false ∧ ∀ j, j < freeN w → w.testBit j = true := by
  have e : 18446744073709551615 - w = 2 ^ 64 - (w + 1) := by rw [p64]; omega
  have h0 : 18446744073709551615 - w ≠ 0 := by
    intro h0
    unfold freeN at h
    rw [h0] at h
    simp [Lib.ctz] at h
  have hf : freeN w = Lib.ctzFrom 64 (18446744073709551615 - w) := by unfold freeN Lib.ctz; rw [if_neg h0]
  obtain ⟨m, hm, _⟩ := Lib.ctzFrom_spec 64 _ (by omega) (show 18446744073709551615 - w < 2 ^ 64 by omega)
  rw [← hf] at hm
  have bit : ∀ j, j < 64 → w.testBit j = !(18446744073709551615 - w).testBit j := by
    intro j hj
    rw [e, Nat.testBit_two_pow_sub_succ hw]
    simp [hj]
  constructor
  · rw [bit _ h, hm, Nat.testBit_eq_decide_div_mod_eq, Nat.mul_div_cancel_left _ (Nat.two_pow_pos _)]
    have : (2 * m + 1) % 2 = 1 := by omega
    simp [this]
  · intro j hj
    rw [bit _ (by omega), hm, Nat.testBit_eq_decide_div_mod_eq]
    have : 2 ^ freeN w * (2 * m + 1) / 2 ^ j % 2 = 0 := by
      obtain ⟨d, hd⟩ : ∃ d, freeN w = j + (d + 1) := ⟨freeN w - j - 1, by omega⟩
      rw [hd, Nat.pow_add, Nat.mul_assoc, Nat.mul_div_cancel_left _ (Nat.two_pow_pos _), Nat.pow_succ, Nat.mul_comm (2 ^ d) 2, Nat.mul_assoc]
      exact Nat.mul_mod_right _ _
    simp [this]
/-- These words say these bits, and no more. -/
structure Rep (ws : List Nat) (L : List Bool) : Prop where
  len : ws.length = (L.length + 63) / 64
  lt : ∀ x ∈ ws, x < 18446744073709551616
  bit : ∀ k i, k < ws.length → i < 64 → (ws.getD k 0).testBit i = L.getD (64 * k + i) false
theorem bits_eq {a b : Nat} (ha : a < 18446744073709551616) (hb : b < 18446744073709551616) (h : ∀ i, i < 64 → a.testBit i = b.testBit i) : a = b := by
  refine Nat.eq_of_testBit_eq fun i => ?_
  by_cases hi : i < 64
  · exact h i hi
  · have hp : (2 : Nat) ^ 64 ≤ 2 ^ i := Nat.pow_le_pow_right (by decide) (by omega)
    rw [p64] at hp
    rw [Nat.testBit_lt_two_pow (by omega), Nat.testBit_lt_two_pow (by omega)]
theorem getD_mem {ws : List Nat} {k : Nat} (h : k < ws.length) : ws.getD k 0 ∈ ws := by
  rw [List.getD_eq_getElem?_getD, List.getElem?_eq_getElem h]
  exact List.getElem_mem h
theorem Rep.getD_lt {ws : List Nat} {L : List Bool} (h : Rep ws L) (k : Nat) : ws.getD k 0 < 18446744073709551616 := by
  by_cases hk : k < ws.length
  · exact h.lt _ (getD_mem hk)
  · rw [List.getD_eq_getElem?_getD, List.getElem?_eq_none (by omega)]; decide
theorem Rep.uniq {ws vs : List Nat} {L : List Bool} (h : Rep ws L) (h' : Rep vs L) : ws = vs := by
  refine List.ext_getElem (by rw [h.len, h'.len]) fun k h1 h2 => ?_
  have e1 : ws.getD k 0 = ws[k] := by rw [List.getD_eq_getElem?_getD, List.getElem?_eq_getElem h1]; rfl
  have e2 : vs.getD k 0 = vs[k] := by rw [List.getD_eq_getElem?_getD, List.getElem?_eq_getElem h2]; rfl
  rw [← e1, ← e2]
  exact bits_eq (h.getD_lt k) (h'.getD_lt k) fun i hi => by rw [h.bit k i h1 hi, h'.bit k i h2 hi]
theorem Rep.new (n : Nat) : Rep (List.replicate ((n + 63) / 64) 0) (List.replicate n false) where
  len := by simp
  lt x hx := by have := (List.mem_replicate.1 hx).2; omega
  bit k i hk hi := by
    have e1 : (List.replicate ((n + 63) / 64) 0).getD k 0 = 0 := by
      rw [List.getD_eq_getElem?_getD, List.getElem?_replicate]; split <;> rfl
    rw [e1, Nat.zero_testBit, List.getD_eq_getElem?_getD, List.getElem?_replicate]
    split <;> rfl
theorem Rep.set {ws : List Nat} {L : List Bool} (h : Rep ws L) {i : Nat} (hi : i < L.length) (b : Bool) : Rep (ws.set (i / 64) (setN (ws.getD (i / 64) 0) (i % 64) b)) (L.set i b) where
  len := by rw [List.length_set, List.length_set]; exact h.len
  lt x hx := by
    rcases List.mem_or_eq_of_mem_set hx with h1 | h1
    · exact h.lt x h1
    · rw [h1]; exact setN_lt b (h.getD_lt _) (Nat.mod_lt _ (by decide))
  bit k j hk hj := by
    rw [List.length_set] at hk
    have hb := h.bit k j hk hj
    have hm : i % 64 < 64 := Nat.mod_lt _ (by decide)
    by_cases e : i / 64 = k
    · subst e
      have e1 : (ws.set (i / 64) (setN (ws.getD (i / 64) 0) (i % 64) b)).getD (i / 64) 0 = setN (ws.getD (i / 64) 0) (i % 64) b := by
        rw [List.getD_eq_getElem?_getD, List.getElem?_set_self hk]; rfl
      rw [e1, setN_bit b hm hj, hb]
      by_cases ej : j = i % 64
      · rw [if_pos ej]
        have e2 : 64 * (i / 64) + j = i := by omega
        rw [e2, List.getD_eq_getElem?_getD, List.getElem?_set_self hi]; rfl
      · rw [if_neg ej, List.getD_eq_getElem?_getD, List.getD_eq_getElem?_getD, List.getElem?_set_ne (by omega)]
    · have e1 : (ws.set (i / 64) (setN (ws.getD (i / 64) 0) (i % 64) b)).getD k 0 = ws.getD k 0 := by
        rw [List.getD_eq_getElem?_getD, List.getElem?_set_ne e, List.getD_eq_getElem?_getD]
      rw [e1, hb, List.getD_eq_getElem?_getD, List.getD_eq_getElem?_getD, List.getElem?_set_ne (by omega)]
theorem Rep.at_ {ws : List Nat} {L : List Bool} (h : Rep ws L) {i : Nat} (hi : i < L.length) : (ws.getD (i / 64) 0).testBit (i % 64) = L.getD i false := by
  rw [h.bit (i / 64) (i % 64) (by have := h.len; omega) (Nat.mod_lt _ (by decide))]
  congr 1
  omega
/-! ### how many are left -/
def leftN (L : List Bool) : Nat := L.countP fun b => !b
theorem cnt_add (f : Nat → Bool) (a : Nat) : ∀ m, cnt f (a + m) = cnt f a + cnt (fun i => f (a + i)) m
  | 0 => rfl
  | m + 1 => by
    rw [← Nat.add_assoc, cnt, cnt_add f a m, cnt]
    omega
theorem cnt_congr {f g : Nat → Bool} : ∀ m, (∀ i, i < m → f i = g i) → cnt f m = cnt g m
  | 0, _ => rfl
  | m + 1, h => by rw [cnt, cnt, cnt_congr m (fun i hi => h i (by omega)), h m (by omega)]
theorem cnt_take (L : List Bool) : ∀ m, m ≤ L.length → cnt (fun i => L.getD i false) m + leftN (L.take m) = m
  | 0, _ => rfl
  | m + 1, h => by
    have ih := cnt_take L m (by omega)
    rw [cnt, List.take_succ_eq_append_getElem (by omega), leftN, List.countP_append]
    have e : L.getD m false = L[m] := by rw [List.getD_eq_getElem?_getD, List.getElem?_eq_getElem (by omega)]; rfl
    unfold leftN at ih
    have ec : ∀ b : Bool, b.toNat + List.countP (fun b => !b) [b] = 1 := by decide
    have := ec L[m]
    rw [e]
    omega
theorem cnt_past (L : List Bool) (n : Nat) (hn : L.length ≤ n) : ∀ m, cnt (fun i => L.getD i false) (n + m) = cnt (fun i => L.getD i false) n
  | 0 => rfl
  | m + 1 => by
    rw [← Nat.add_assoc, cnt, cnt_past L n hn m, List.getD_eq_getElem?_getD, List.getElem?_eq_none (by omega)]
    rfl
/-- the ones of the first k words -/
def ones (ws : List Nat) : Nat → Nat
  | 0 => 0
  | k + 1 => ones ws k + sumf 1 64 (ws.getD k 0)
theorem Rep.ones {ws : List Nat} {L : List Bool} (h : Rep ws L) : ∀ k, k ≤ ws.length → Bit.ones ws k = cnt (fun i => L.getD i false) (64 * k)
  | 0, _ => rfl
  | k + 1, hk => by
    rw [Bit.ones, h.ones k (by omega), sum_cnt, Nat.mul_succ, cnt_add]
    congr 1
    exact cnt_congr 64 fun i hi => h.bit k i (by omega) hi
theorem Rep.left {ws : List Nat} {L : List Bool} (h : Rep ws L) : Bit.ones ws ws.length + leftN L = L.length := by
  have h1 := h.ones ws.length (Nat.le_refl _)
  have hl := h.len
  obtain ⟨m, hm⟩ : ∃ m, 64 * ws.length = L.length + m := ⟨64 * ws.length - L.length, by omega⟩
  rw [hm, cnt_past L L.length (Nat.le_refl _)] at h1
  have h2 := cnt_take L L.length (Nat.le_refl _)
  rw [List.take_length] at h2
  omega
theorem ones_le (ws : List Nat) : ∀ k, Bit.ones ws k ≤ 64 * k
  | 0 => Nat.le_refl _
  | k + 1 => by
    have h : ∀ (f : Nat → Bool) m, cnt f m ≤ m := by
      intro f m
      induction m with
      | zero => exact Nat.le_refl _
      | succ m ih => rw [cnt]; have : (f m).toNat ≤ 1 := by cases f m <;> decide
                     omega
    have h1 := h (ws.getD k 0).testBit 64
    have h2 := ones_le ws k
    rw [Bit.ones, sum_cnt]
    omega
/-! ### the lowest that is free -/
def ff (L : List Bool) : Nat := L.findIdx fun b => !b
def takeR (L : List Bool) : Int := if ff L < L.length then (ff L : Int) else -1
theorem ff_of {L : List Bool} {i : Nat} (hi : i < L.length) (h0 : L.getD i false = false) (h1 : ∀ j, j < i → L.getD j false = true) : ff L = i := by
  have g : ∀ j, j < L.length → L.getD j false = L[j]! := fun j hj => by
    rw [List.getD_eq_getElem?_getD, List.getElem?_eq_getElem hj, List.getElem!_eq_getElem?_getD, List.getElem?_eq_getElem hj]; rfl
  unfold ff
  refine (List.findIdx_eq (by omega)).2 ⟨?_, fun j hj => ?_⟩
  · rw [List.getD_eq_getElem?_getD, List.getElem?_eq_getElem hi] at h0
    simpa using h0
  · have := h1 j hj
    rw [List.getD_eq_getElem?_getD, List.getElem?_eq_getElem (by omega)] at this
    simpa using this
theorem ff_none {L : List Bool} (h : ∀ j, j < L.length → L.getD j false = true) : ff L = L.length := by
  unfold ff
  refine List.findIdx_eq_length.2 fun b hb => ?_
  obtain ⟨j, hj, rfl⟩ := List.getElem_of_mem hb
  have := h j hj
  rw [List.getD_eq_getElem?_getD, List.getElem?_eq_getElem hj] at this
  simpa using this
theorem ff_le (L : List Bool) : ff L ≤ L.length := List.findIdx_le_length
theorem set_ff_none {L : List Bool} (h : ff L = L.length) (b : Bool) : L.set (ff L) b = L := by
  rw [h]; exact List.set_eq_of_length_le (Nat.le_refl _)
/-- what is known of the words ahead of the k-th: all is used -/
theorem used_step {ws : List Nat} {L : List Bool} (h : Rep ws L) {k : Nat} (hk : k < ws.length) (hu : ∀ j, j < 64 * k → L.getD j false = true) (hf : 64 ≤ freeN (ws.getD k 0) ∨ L.length ≤ 64 * k + freeN (ws.getD k 0)) :
    (∀ j, j < 64 * (k + 1) → j < L.length → L.getD j false = true) := by
  intro j hj hjl
  by_cases h1 : j < 64 * k
  · exact hu j h1
  · have e : j = 64 * k + (j - 64 * k) := by omega
    rw [e, ← h.bit k (j - 64 * k) hk (by omega)]
    rcases hf with hf | hf
    · exact freeN_all (h.getD_lt k) hf _ (by omega)
    · by_cases h64 : freeN (ws.getD k 0) < 64
      · exact (freeN_bit (h.getD_lt k) h64).2 _ (by omega)
      · exact freeN_all (h.getD_lt k) (by omega) _ (by omega)
theorem free_here {ws : List Nat} {L : List Bool} (h : Rep ws L) {k : Nat} (hk : k < ws.length) (hu : ∀ j, j < 64 * k → L.getD j false = true) (h64 : freeN (ws.getD k 0) < 64) (hn : 64 * k + freeN (ws.getD k 0) < L.length) :
    ff L = 64 * k + freeN (ws.getD k 0) := by
  obtain ⟨h0, h1⟩ := freeN_bit (h.getD_lt k) h64
  refine ff_of hn (by rw [← h.bit k _ hk h64]; exact h0) fun j hj => ?_
  by_cases hj1 : j < 64 * k
  · exact hu j hj1
  · have e : j = 64 * k + (j - 64 * k) := by omega
    rw [e, ← h.bit k (j - 64 * k) hk (by omega)]
    exact h1 _ (by omega)
/-! ### of words -/
def bitw (ws : List Nat) (i : Nat) : Bool := (ws.getD (i / 64) 0).testBit (i % 64)
def listOf (ws : List Nat) (n : Nat) : List Bool := (List.range n).map (bitw ws)
theorem listOf_length (ws : List Nat) (n : Nat) : (listOf ws n).length = n := by simp [listOf]
theorem rep_of {ws : List Nat} {n : Nat} (hl : ws.length = (n + 63) / 64) (hlt : ∀ x ∈ ws, x < 18446744073709551616) (h : ∀ i, n ≤ i → i < 64 * ws.length → bitw ws i = false) : Rep ws (listOf ws n) where
  len := by rw [listOf_length]; exact hl
  lt := hlt
  bit k i hk hi := by
    have e1 : (64 * k + i) / 64 = k := by omega
    have e2 : (64 * k + i) % 64 = i := by omega
    have e : (ws.getD k 0).testBit i = bitw ws (64 * k + i) := by unfold bitw; rw [e1, e2]
    rw [e, List.getD_eq_getElem?_getD, listOf, List.getElem?_map]
    by_cases hn : 64 * k + i < n
    · rw [List.getElem?_range hn]; rfl
    · rw [List.getElem?_eq_none (by simp; omega)]
      exact h _ (by omega) (by omega)
theorem over_iff {ws : List Nat} {n : Nat} (hn : 0 < n) (hl : ws.length = (n + 63) / 64) (hlt : ∀ x ∈ ws, x < 18446744073709551616) :
    (0 < n % 64 ∧ ws.getD (ws.length - 1) 0 / 2 ^ (n % 64) ≠ 0) ↔ ∃ i, n ≤ i ∧ i < 64 * ws.length ∧ bitw ws i = true := by
  constructor
  · rintro ⟨h0, h1⟩
    obtain ⟨i, hi⟩ : ∃ i, (ws.getD (ws.length - 1) 0 / 2 ^ (n % 64)).testBit i = true := Nat.exists_testBit_of_ne_zero h1
    rw [Nat.testBit_div_two_pow] at hi
    have h2 : i + n % 64 < 64 := by
      by_cases h : i + n % 64 < 64
      · exact h
      · have hb := hlt _ (getD_mem (ws := ws) (k := ws.length - 1) (by omega))
        have hp : (2 : Nat) ^ 64 ≤ 2 ^ (i + n % 64) := Nat.pow_le_pow_right (by decide) (by omega)
        rw [p64] at hp
        rw [Nat.testBit_lt_two_pow (by omega)] at hi
        cases hi
    refine ⟨64 * (ws.length - 1) + (i + n % 64), by omega, by omega, ?_⟩
    unfold bitw
    have e1 : (64 * (ws.length - 1) + (i + n % 64)) / 64 = ws.length - 1 := by omega
    have e2 : (64 * (ws.length - 1) + (i + n % 64)) % 64 = i + n % 64 := by omega
    rw [e1, e2]
    exact hi
  · rintro ⟨i, h1, h2, h3⟩
    have h4 : 0 < n % 64 := by omega
    refine ⟨h4, fun h0 => ?_⟩
    unfold bitw at h3
    have e1 : i / 64 = ws.length - 1 := by omega
    rw [e1] at h3
    have e2 : i % 64 = (i % 64 - n % 64) + n % 64 := by omega
    rw [e2, ← Nat.testBit_div_two_pow, h0, Nat.zero_testBit] at h3
    cases h3
end Go.Proofs.YtmfabgdgpdgdiaaDoor.Bit
