/- The small functions of package bitmap, walked. -/
import Derived.Test.YtmfabgdgpdgdiaaDoorQx0
import Derived.Test.YtmfabgdgpdgdiaaDoorBitR
import Derived.Shelf.Spec.TrailingZeros
namespace Go.Proofs.YtmfabgdgpdgdiaaDoor.Q
open Go.RowKit Go.Proofs.YtmfabgdgpdgdiaaDoor.Bit Go.Proofs.YtmfabgdgpdgdiaaDoorW.PrintWords Go.Proofs.YtmfabgdgpdgdiaaDoorW.PrintLast Go.Proofs.YtmfabgdgpdgdiaaDoorW.PrintMore
set_option linter.unusedVariables false
set_option linter.unusedSimpArgs false
theorem bit_and_one (w i : Nat) (hw : w < 18446744073709551616) : (bits BinOp.and IntKind.u64 ((w : Int) / 2 ^ i) 1 == 1) = w.testBit i := by
  have e : (w : Int) / 2 ^ i = ((w / 2 ^ i : Nat) : Int) := by rw [Int.natCast_ediv, Int.natCast_pow]; rfl
  have hle : w / 2 ^ i ≤ w := Nat.div_le_self _ _
  rw [e, show (1 : Int) = ((1 : Nat) : Int) from rfl, bits_and_u64_nat _ _ (by omega) (by decide), ← has_bit]
  rw [Bool.eq_iff_iff]
  simp only [beq_iff_eq]
  omega
theorem shl_one (i : Nat) (hi : i < 64) : IntKind.u64.wrap (2 ^ i) = ((2 ^ i : Nat) : Int) := by
  have h : (2 : Nat) ^ i < 2 ^ 64 := Nat.pow_lt_pow_right (by decide) hi
  rw [p64] at h
  rw [show (2 : Int) ^ i = ((2 ^ i : Nat) : Int) by rw [Int.natCast_pow]; rfl, IntKind.wrap_u64]
  generalize (2 : Nat) ^ i = m at h
  omega
theorem bits_andNot_u64_nat (a b : Nat) (ha : a < 18446744073709551616) (hb : b < 18446744073709551616) : bits .andNot .u64 (a : Int) (b : Int) = ((a &&& (2 ^ 64 - (b + 1)) : Nat) : Int) := by
  have hx : a &&& (2 ^ 64 - (b + 1)) ≤ a := Nat.and_le_left
  have h1 : (BitVec.ofInt 64 (a : Int)).toNat = a := by
    rw [BitVec.ofInt_natCast, BitVec.toNat_ofNat]; exact Nat.mod_eq_of_lt (by omega)
  have h2 : (BitVec.ofInt 64 (b : Int)).toNat = b := by
    rw [BitVec.ofInt_natCast, BitVec.toNat_ofNat]; exact Nat.mod_eq_of_lt (by omega)
  show IntKind.u64.wrap ((BitVec.ofInt 64 (a : Int) &&& ~~~BitVec.ofInt 64 (b : Int)).toNat : Int) = _
  have e : 2 ^ 64 - 1 - b = 2 ^ 64 - (b + 1) := by omega
  rw [BitVec.toNat_and, BitVec.toNat_not, h1, h2, e, IntKind.wrap_u64]
  omega
theorem not_u64 (x : Nat) (hx : x < 18446744073709551616) : bits BinOp.xor IntKind.u64 IntKind.u64.max (x : Int) = ((18446744073709551615 - x : Nat) : Int) := by
  have e : IntKind.u64.max = ((18446744073709551615 : Nat) : Int) := rfl
  rw [e, bits_xor_u64_nat _ _ (by decide) hx]
  have h : (18446744073709551615 : Nat) ^^^ x = 2 ^ 64 - (x + 1) := by
    refine Nat.eq_of_testBit_eq fun i => ?_
    rw [Nat.testBit_xor, show (18446744073709551615 : Nat) = 2 ^ 64 - 1 from rfl, Nat.testBit_two_pow_sub_one, Nat.testBit_two_pow_sub_succ hx]
    by_cases hi : i < 64
    · simp [hi]
    · have hp : (2 : Nat) ^ 64 ≤ 2 ^ i := Nat.pow_le_pow_right (by decide) (by omega)
      rw [p64] at hp
      rw [Nat.testBit_lt_two_pow (show x < 2 ^ i by omega)]
      simp [hi]
  rw [h, p64]
  congr 1
  omega
theorem has_calls (w i : Nat) (hw : w < 18446744073709551616) (hi : i < 64) (W : World) :
    Calls Tryd.prog 28 #[.int .u64 w, .int .i64 i] W fun e W' => e = .returned (.bool (w.testBit i)) ∧ W' = W := by
  go_enter Tryd.func28, Tryd.ntmps28
  go_wp2
  go_ret
  exact ⟨congrArg (fun b => Ending.returned (Value.bool b)) (bit_and_one w i hw), rfl⟩
theorem ret_u64 {a b : Int} (h : a = b) : Ending.returned (.int .u64 a) = .returned (.int .u64 b) := by rw [h]
theorem ret_i64 {a b : Int} (h : a = b) : Ending.returned (.int .i64 a) = .returned (.int .i64 b) := by rw [h]
theorem set_calls (w i : Nat) (b : Bool) (hw : w < 18446744073709551616) (hi : i < 64) (W : World) :
    Calls Tryd.prog 25 #[.int .u64 w, .int .i64 i, .bool b] W fun e W' => e = .returned (.int .u64 (setN w i b : Nat)) ∧ W' = W := by
  have hp : (2 : Nat) ^ i < 18446744073709551616 := by rw [← p64]; exact Nat.pow_lt_pow_right (by decide) hi
  have H := Aside0.mk hp
  clear hp
  cases b
  · go_enter Tryd.func25, Tryd.ntmps25
    go_wp2
    go_ret
    exact ⟨ret_u64 (by rw [shl_one i hi, bits_andNot_u64_nat w _ hw H.out]; rfl), rfl⟩
  · go_enter Tryd.func25, Tryd.ntmps25
    go_wp2
    go_ret
    exact ⟨ret_u64 (by rw [shl_one i hi, bits_or_u64_nat w _ hw H.out]; rfl), rfl⟩
theorem tz_core (x k idx : Nat) (w : World) (hx0 : ((x : Int) == 0) = false)
    (key : IntKind.u64.wrap (bits BinOp.and IntKind.u64 (x : Int) (IntKind.u64.wrap (-(x : Int))) * 285870213051353865) / 288230376151711744 = (idx : Int))
    (hi : idx < 64) (hk : k < 64) (hcell : w.cell? ⟨0, idx, none⟩ = some (.int .u8 k)) :
    Calls Tryd.prog 29 #[.int .u64 x] w fun e w' => e = .returned (.int .i64 k) ∧ w' = w := by
  go_enter Tryd.func29, Tryd.ntmps29
  go_wp2_with (simp only [key])
  go_ret
  exact ⟨rfl, rfl⟩
theorem tz_zero (w : World) :
    Calls Tryd.prog 29 #[.int .u64 0] w fun e w' => e = .returned (.int .i64 64) ∧ w' = w := by
  go_enter Tryd.func29, Tryd.ntmps29
  go_wp2
  go_ret
  exact ⟨rfl, rfl⟩
theorem tz_calls (x : Nat) (hx : x < 18446744073709551616) (w : World) (hT : TabAt 0 Lib.deBruijn64tab w) :
    Calls Tryd.prog 29 #[.int .u64 x] w fun e w' => e = .returned (.int .i64 (Lib.ctz 64 x)) ∧ w' = w := by
  by_cases hx0 : x = 0
  · subst hx0
    exact tz_zero w
  · obtain ⟨hlow, hk⟩ := Lib.lowest_bit 64 x hx0 hx
    obtain ⟨hi, htab⟩ := Lib.deBruijn64_at _ hk
    have hcell := hT _ hi
    rw [htab] at hcell
    exact tz_core x _ _ w (by simp; omega) (tz64_key x _ hx hx0 hlow) hi hk hcell
theorem free_calls (x : Nat) (hx : x < 18446744073709551616) (w : World) (a : Int) (hT : TabAt 0 Lib.deBruijn64tab w) :
    Calls Tryd.prog 26 #[.int .u64 x, .int .i64 a] w fun e w' => e = .returned (.int .i64 (freeN x)) ∧ w' = w := by
  have c29 := Aside0.mk (tz_calls (18446744073709551615 - x) (by omega) w hT)
  have hs : IntKind.u64.signed = false := rfl
  have hn := Aside0.mk (not_u64 x hx)
  go_enter Tryd.func26, Tryd.ntmps26
  go_wp2_with (first | (go_at_call 29; rw [hn.out]; (with_reducible refine c29.out.mono ?_); rintro e w' ⟨rfl, rfl⟩))
  go_ret
  exact ⟨rfl, rfl⟩
theorem ones_calls (x : Nat) (hx : x < 18446744073709551616) (w : World) :
    Calls Tryd.prog 27 #[.int .u64 x] w fun e w' => e = .returned (.int .i64 (sumf 1 64 x : Nat)) ∧ w' = w := by
  go_enter Tryd.func27, Tryd.ntmps27
  go_wp2
  go_ret
  refine ⟨ret_i64 ?_, rfl⟩
  rw [← swar_sum x hx]
  have c1 : (6148914691236517205 : Int) = ((6148914691236517205 : Nat) : Int) := rfl
  have c2 : (3689348814741910323 : Int) = ((3689348814741910323 : Nat) : Int) := rfl
  have c3 : (1085102592571150095 : Int) = ((1085102592571150095 : Nat) : Int) := rfl
  have d2 : ∀ n : Nat, (n : Int) / 2 = ((n / 2 : Nat) : Int) := fun n => rfl
  have d4 : ∀ n : Nat, (n : Int) / 4 = ((n / 4 : Nat) : Int) := fun n => rfl
  have d16 : ∀ n : Nat, (n : Int) / 16 = ((n / 16 : Nat) : Int) := fun n => rfl
  have d8 : ∀ n : Nat, (n : Int) / 256 = ((n / 256 : Nat) : Int) := fun n => rfl
  have d65 : ∀ n : Nat, (n : Int) / 65536 = ((n / 65536 : Nat) : Int) := fun n => rfl
  have d32 : ∀ n : Nat, (n : Int) / 4294967296 = ((n / 4294967296 : Nat) : Int) := fun n => rfl
  have wr : ∀ a b : Nat, a + b < 18446744073709551616 → IntKind.u64.wrap ((a : Int) + (b : Int)) = ((a + b : Nat) : Int) := fun a b h => by rw [IntKind.wrap_u64]; omega
  have b1 : x / 2 &&& 6148914691236517205 ≤ 6148914691236517205 := Nat.and_le_right
  have b2 : x &&& 6148914691236517205 ≤ 6148914691236517205 := Nat.and_le_right
  unfold swar
  simp only
  rw [c1, c2, c3, d2, bits_and_u64_nat _ _ (by omega) (by decide), bits_and_u64_nat _ _ hx (by decide), wr _ _ (by omega)]
  obtain ⟨y1, hy1⟩ : ∃ y1, (x / 2 &&& 6148914691236517205) + (x &&& 6148914691236517205) = y1 := ⟨_, rfl⟩
  rw [hy1]
  have l1 : y1 ≤ 12297829382473034410 := by omega
  clear hy1 b1 b2
  have b1 : y1 / 4 &&& 3689348814741910323 ≤ 3689348814741910323 := Nat.and_le_right
  have b2 : y1 &&& 3689348814741910323 ≤ 3689348814741910323 := Nat.and_le_right
  rw [d4, bits_and_u64_nat _ _ (by omega) (by decide), bits_and_u64_nat _ _ (by omega) (by decide), wr _ _ (by omega)]
  obtain ⟨y2, hy2⟩ : ∃ y2, (y1 / 4 &&& 3689348814741910323) + (y1 &&& 3689348814741910323) = y2 := ⟨_, rfl⟩
  rw [hy2]
  have l2 : y2 ≤ 7378697629483820646 := by omega
  clear hy2 b1 b2 l1
  have b1 : (y2 / 16 + y2) &&& 1085102592571150095 ≤ 1085102592571150095 := Nat.and_le_right
  rw [d16, wr _ _ (by omega), bits_and_u64_nat _ _ (by omega) (by decide)]
  obtain ⟨y3, hy3⟩ : ∃ y3, (y2 / 16 + y2) &&& 1085102592571150095 = y3 := ⟨_, rfl⟩
  rw [hy3]
  rw [hy3] at b1
  clear hy3 l2
  rw [d8, wr _ _ (by omega)]
  obtain ⟨y4, hy4⟩ : ∃ y4, y3 + y3 / 256 = y4 := ⟨_, rfl⟩
  rw [hy4]
  have l4 : y4 ≤ 1200000000000000000 := by omega
  clear hy4 b1
  rw [d65, wr _ _ (by omega)]
  obtain ⟨y5, hy5⟩ : ∃ y5, y4 + y4 / 65536 = y5 := ⟨_, rfl⟩
  rw [hy5]
  have l5 : y5 ≤ 1300000000000000000 := by omega
  clear hy5 l4
  rw [d32, wr _ _ (by omega)]
  obtain ⟨y6, hy6⟩ : ∃ y6, y5 + y5 / 4294967296 = y6 := ⟨_, rfl⟩
  rw [hy6]
  have l6 : y6 ≤ 1400000000000000000 := by omega
  have hw : wrap64 (y6 : Int) = (y6 : Int) := by unfold wrap64; omega
  have hk : ∀ n : Int, 0 ≤ n → n < 2 ^ 63 → IntKind.i64.wrap n = n := fun n h0 h1 => by rw [IntKind.wrap_i64]; omega
  have hm := bits_mask .i64 63 (by decide) hk 7 (by decide) (y6 : Int) (by omega) (by omega)
  rw [hw]
  exact hm
end Go.Proofs.YtmfabgdgpdgdiaaDoor.Q
