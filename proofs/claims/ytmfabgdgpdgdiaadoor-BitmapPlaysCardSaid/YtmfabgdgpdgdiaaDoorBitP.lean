/- Plain facts for chapter 14: words of 64 bits, the bits that they hold, how many, the lowest free one. -/
import Derived.Laws.Bits64b
import Derived.Laws.BitsLemmas
import Derived.Lib.TrailingZeros
namespace Go.Proofs.YtmfabgdgpdgdiaaDoor.Bit
set_option linter.unusedVariables false
set_option linter.unusedSimpArgs false
/-! ### sums of fields -/
def sumf (k : Nat) : Nat → Nat → Nat
  | 0, _ => 0
  | m + 1, x => x % 2 ^ k + sumf k m (x / 2 ^ k)
def msk (k : Nat) : Nat → Nat
  | 0 => 0
  | m + 1 => (2 ^ k - 1) + 2 ^ (2 * k) * msk k m
def dub (k : Nat) : Nat → Nat → Nat
  | 0, _ => 0
  | m + 1, x => (x % 2 ^ k + x / 2 ^ k % 2 ^ k) + 2 ^ (2 * k) * dub k m (x / 2 ^ (2 * k))
theorem pow2k (k : Nat) : (2 : Nat) ^ (2 * k) = 2 ^ k * 2 ^ k := by rw [Nat.two_mul, Nat.pow_add]
theorem msk_small (k : Nat) : (2 : Nat) ^ k - 1 < 2 ^ (2 * k) := by
  have h : 0 < (2 : Nat) ^ k := Nat.two_pow_pos k
  have := Nat.pow_le_pow_right (show 0 < 2 by decide) (show k ≤ 2 * k by omega)
  omega
theorem and_msk (k m x : Nat) : x &&& msk k (m + 1) = x % 2 ^ k + 2 ^ (2 * k) * ((x / 2 ^ (2 * k)) &&& msk k m) := by
  have h1 : (x &&& msk k (m + 1)) % 2 ^ (2 * k) = x % 2 ^ k := by
    rw [Nat.and_mod_two_pow]
    have : msk k (m + 1) % 2 ^ (2 * k) = 2 ^ k - 1 := by
      rw [msk, Nat.add_mul_mod_self_left, Nat.mod_eq_of_lt (msk_small k)]
    rw [this, Nat.and_two_pow_sub_one_eq_mod]
    exact Nat.mod_mod_of_dvd _ (Nat.pow_dvd_pow 2 (by omega))
  have h2 : (x &&& msk k (m + 1)) / 2 ^ (2 * k) = (x / 2 ^ (2 * k)) &&& msk k m := by
    rw [← Nat.shiftRight_eq_div_pow, ← Nat.shiftRight_eq_div_pow, Nat.shiftRight_and_distrib]
    congr 1
    rw [Nat.shiftRight_eq_div_pow, msk, Nat.add_mul_div_left _ _ (Nat.two_pow_pos _), Nat.div_eq_of_lt (msk_small k), Nat.zero_add]
  rw [← Nat.mod_add_div (x &&& msk k (m + 1)) (2 ^ (2 * k)), h1, h2]
theorem and_dub (k : Nat) : ∀ m x, ((x / 2 ^ k) &&& msk k m) + (x &&& msk k m) = dub k m x
  | 0, x => by simp [msk, dub]
  | m + 1, x => by
    have e : x / 2 ^ k / 2 ^ (2 * k) = x / 2 ^ (2 * k) / 2 ^ k := by rw [Nat.div_div_eq_div_mul, Nat.div_div_eq_div_mul, Nat.mul_comm]
    have ih := and_dub k m (x / 2 ^ (2 * k))
    rw [and_msk, and_msk, dub, e, ← ih, Nat.mul_add]
    omega
theorem dub_field (k x : Nat) (hk : 0 < k) : x % 2 ^ k + x / 2 ^ k % 2 ^ k < 2 ^ (2 * k) := by
  have h1 := Nat.mod_lt x (Nat.two_pow_pos k)
  have h2 := Nat.mod_lt (x / 2 ^ k) (Nat.two_pow_pos k)
  have h3 : 2 * 2 ^ k ≤ 2 ^ (2 * k) := by
    rw [pow2k]
    refine Nat.mul_le_mul_right _ ?_
    calc 2 = 2 ^ 1 := rfl
      _ ≤ 2 ^ k := Nat.pow_le_pow_right (by decide) hk
  omega
theorem dub_sum (k : Nat) (hk : 0 < k) : ∀ m x, sumf (2 * k) m (dub k m x) = sumf k (2 * m) x
  | 0, x => rfl
  | m + 1, x => by
    have hf := dub_field k x hk
    have h1 : dub k (m + 1) x % 2 ^ (2 * k) = x % 2 ^ k + x / 2 ^ k % 2 ^ k := by
      rw [dub, Nat.add_mul_mod_self_left, Nat.mod_eq_of_lt hf]
    have h2 : dub k (m + 1) x / 2 ^ (2 * k) = dub k m (x / 2 ^ (2 * k)) := by
      rw [dub, Nat.add_mul_div_left _ _ (Nat.two_pow_pos _), Nat.div_eq_of_lt hf, Nat.zero_add]
    have e : 2 * (m + 1) = (2 * m + 1) + 1 := by omega
    rw [sumf, h1, h2, dub_sum k hk m, e, sumf, sumf, Nat.div_div_eq_div_mul, ← pow2k]
    omega
/-- m fields of k bits, each at most c, and no more -/
def leF (c k : Nat) : Nat → Nat → Prop
  | 0, y => y = 0
  | m + 1, y => y % 2 ^ k ≤ c ∧ leF c k m (y / 2 ^ k)
theorem dub_le (c k : Nat) (hk : 0 < k) : ∀ m y, leF c k (2 * m) y → leF (2 * c) (2 * k) m (dub k m y)
  | 0, y, h => rfl
  | m + 1, y, h => by
    have e : 2 * (m + 1) = (2 * m + 1) + 1 := by omega
    rw [e] at h
    obtain ⟨h0, h1, h2⟩ := h
    rw [Nat.div_div_eq_div_mul, ← pow2k] at h2
    have hf := dub_field k y hk
    refine ⟨?_, ?_⟩
    · rw [dub, Nat.add_mul_mod_self_left, Nat.mod_eq_of_lt hf]; omega
    · rw [dub, Nat.add_mul_div_left _ _ (Nat.two_pow_pos _), Nat.div_eq_of_lt hf, Nat.zero_add]
      exact dub_le c k hk m _ h2
theorem leF_bits : ∀ m x, x < 2 ^ m → leF 1 1 m x
  | 0, x, h => by
    have : (2 : Nat) ^ 0 = 1 := rfl
    show x = 0
    omega
  | m + 1, x, h => by
    have e2 : (2 : Nat) ^ 1 = 2 := rfl
    have := Nat.pow_succ 2 m
    exact ⟨by omega, by rw [e2]; exact leF_bits m _ (by omega)⟩
theorem and_dub4 : ∀ m y, leF 4 4 (2 * m) y → ((y / 16) + y) &&& msk 4 m = dub 4 m y
  | 0, y, h => by simp [msk, dub]
  | m + 1, y, h => by
    have e : 2 * (m + 1) = (2 * m + 1) + 1 := by omega
    rw [e] at h
    have e16 : (2 : Nat) ^ 4 = 16 := rfl
    have e256 : (2 : Nat) ^ (2 * 4) = 256 := rfl
    obtain ⟨h0, h1, h2⟩ := h
    rw [e16] at h0 h1 h2
    have h3 : y / 16 / 16 = y / 256 := by omega
    rw [h3] at h2
    have ih := and_dub4 m (y / 256) h2
    have hr : y / 256 % 16 ≤ 4 := by
      cases m with
      | zero => simp only [leF] at h2; omega
      | succ m =>
        have e : 2 * (m + 1) = (2 * m + 1) + 1 := by omega
        rw [e] at h2
        exact h2.1
    rw [and_msk, dub, e16, e256, ← ih]
    have h4 : (y / 16 + y) % 16 = y % 16 + y / 16 % 16 := by omega
    have h5 : (y / 16 + y) / 256 = y / 256 / 16 + y / 256 := by omega
    rw [h4, h5]
theorem le_sum8 (y : Nat) (h : leF 8 8 8 y) : ∃ c0 c1 c2 c3 c4 c5 c6 c7 : Nat, c0 ≤ 8 ∧ c1 ≤ 8 ∧ c2 ≤ 8 ∧ c3 ≤ 8 ∧ c4 ≤ 8 ∧ c5 ≤ 8 ∧ c6 ≤ 8 ∧ c7 ≤ 8 ∧
    y = c0 + 256 * (c1 + 256 * (c2 + 256 * (c3 + 256 * (c4 + 256 * (c5 + 256 * (c6 + 256 * c7)))))) ∧ sumf 8 8 y = c0 + c1 + c2 + c3 + c4 + c5 + c6 + c7 := by
  have e : (2 : Nat) ^ 8 = 256 := rfl
  simp only [leF, e] at h
  obtain ⟨h0, h1, h2, h3, h4, h5, h6, h7, h8⟩ := h
  refine ⟨_, _, _, _, _, _, _, _, h0, h1, h2, h3, h4, h5, h6, h7, ?_, ?_⟩
  · omega
  · simp only [sumf, e]; omega
def swar (x : Nat) : Nat :=
  let y1 := ((x / 2) &&& 6148914691236517205) + (x &&& 6148914691236517205)
  let y2 := ((y1 / 4) &&& 3689348814741910323) + (y1 &&& 3689348814741910323)
  let y3 := (y2 / 16 + y2) &&& 1085102592571150095
  let y4 := y3 + y3 / 256
  let y5 := y4 + y4 / 65536
  let y6 := y5 + y5 / 4294967296
  y6 % 128
theorem msk1 : msk 1 32 = 6148914691236517205 := by decide +kernel
theorem msk2 : msk 2 16 = 3689348814741910323 := by decide +kernel
theorem msk4 : msk 4 8 = 1085102592571150095 := by decide +kernel
theorem swar_sum (x : Nat) (hx : x < 18446744073709551616) : swar x = sumf 1 64 x := by
  have e1 := and_dub 1 32 x
  rw [msk1] at e1
  have e2 := and_dub 2 16 (dub 1 32 x)
  rw [msk2] at e2
  have l1 := dub_le 1 1 (by decide) 32 x (leF_bits 64 x hx)
  have l2 := dub_le 2 2 (by decide) 16 _ l1
  have e4 := and_dub4 8 _ l2
  rw [msk4] at e4
  have l4 := dub_le 4 4 (by decide) 8 _ l2
  have s4 := dub_sum 4 (by decide) 8 (dub 2 16 (dub 1 32 x))
  rw [dub_sum 2 (by decide) 16 (dub 1 32 x), dub_sum 1 (by decide) 32 x] at s4
  obtain ⟨c0, c1, c2, c3, c4, c5, c6, c7, h0, h1, h2, h3, h4, h5, h6, h7, hy, hs⟩ := le_sum8 _ l4
  rw [← s4, hs]
  unfold swar
  simp only
  rw [show x / 2 = x / 2 ^ 1 from rfl, e1, show (dub 1 32 x) / 4 = dub 1 32 x / 2 ^ 2 from rfl, e2, e4, hy]
  clear hy hs s4 l4 e4 l2 l1 e1 e2 hx
  have d1 : (c0 + 256 * (c1 + 256 * (c2 + 256 * (c3 + 256 * (c4 + 256 * (c5 + 256 * (c6 + 256 * c7))))))) / 256 = c1 + 256 * (c2 + 256 * (c3 + 256 * (c4 + 256 * (c5 + 256 * (c6 + 256 * c7))))) := by omega
  rw [d1]
  clear d1
  have d2 : (c0 + 256 * (c1 + 256 * (c2 + 256 * (c3 + 256 * (c4 + 256 * (c5 + 256 * (c6 + 256 * c7)))))) + (c1 + 256 * (c2 + 256 * (c3 + 256 * (c4 + 256 * (c5 + 256 * (c6 + 256 * c7))))))) / 65536 = (c2 + c3) + 256 * ((c3 + c4) + 256 * ((c4 + c5) + 256 * ((c5 + c6) + 256 * ((c6 + c7) + 256 * c7)))) := by omega
  rw [d2]
  clear d2
  have d3 : (c0 + 256 * (c1 + 256 * (c2 + 256 * (c3 + 256 * (c4 + 256 * (c5 + 256 * (c6 + 256 * c7)))))) + (c1 + 256 * (c2 + 256 * (c3 + 256 * (c4 + 256 * (c5 + 256 * (c6 + 256 * c7)))))) + ((c2 + c3) + 256 * ((c3 + c4) + 256 * ((c4 + c5) + 256 * ((c5 + c6) + 256 * ((c6 + c7) + 256 * c7)))))) / 4294967296 = (c4 + c5 + c6 + c7) + 256 * ((c5 + c6 + c7) + 256 * ((c6 + c7) + 256 * c7)) := by omega
  rw [d3]
  clear d3
  omega
/-- how many of the first m hold -/
def cnt (f : Nat → Bool) : Nat → Nat
  | 0 => 0
  | m + 1 => cnt f m + (f m).toNat
theorem cnt_shift (f : Nat → Bool) : ∀ m, cnt f (m + 1) = (f 0).toNat + cnt (fun i => f (i + 1)) m
  | 0 => by simp [cnt]
  | m + 1 => by
    rw [cnt, cnt_shift f m, cnt]
    omega
theorem sum_cnt : ∀ m x, sumf 1 m x = cnt x.testBit m
  | 0, x => rfl
  | m + 1, x => by
    rw [cnt_shift, sumf, sum_cnt m, Nat.pow_one]
    have h1 : x % 2 = (x.testBit 0).toNat := by
      rw [Nat.testBit_zero]
      rcases Nat.mod_two_eq_zero_or_one x with h | h <;> simp [h]
    have h2 : (fun i => x.testBit (i + 1)) = (x / 2).testBit := by
      funext i
      rw [Nat.testBit_succ]
    rw [h1, h2]
end Go.Proofs.YtmfabgdgpdgdiaaDoor.Bit
