/- Plain facts of layer 5: what One and Decode of the program and of the reference come to. -/
import Derived.Test.YtjbpljcfogekhaaCoreB
namespace Go.Proofs.Ytjbpljcfogekhaa.Core
open Go.RowKit Go.Proofs.Ytjbpljcfogekhaa.Q Go.Proofs.YtjbpljcfogekhaaW.PrintWords Go.Proofs.YtjbpljcfogekhaaW.PrintLast Go.Proofs.YtjbpljcfogekhaaW.PrintMore

/-! ### 64 bits -/
theorem u64_in (n : Int) (h0 : 0 ≤ n) (h1 : n < 18446744073709551616) : IntKind.u64.wrap n = n := by
  simp only [IntKind.wrap, IntKind.bits, IntKind.signed]
  simp
  omega
theorem u64_pow (n : Int) (h0 : 0 ≤ n) (h1 : n < 2 ^ 64) : IntKind.u64.wrap n = n := u64_in n h0 (by have : (2 : Int) ^ 64 = 18446744073709551616 := by decide
                                                                                                     omega)
theorem bits_comm (x y : Int) : Go.bits .or .u64 x y = Go.bits .or .u64 y x := by
  simp only [Go.bits, BitVec.or_comm]
theorem or_low (a b : Int) (h0 : 0 ≤ a) (h1 : a * 256 < 18446744073709551616) (hb0 : 0 ≤ b) (hb : b < 256) : Go.bits .or .u64 (IntKind.u64.wrap (a * 256)) (IntKind.u64.wrap b) = b + 256 * a := by
  rw [u64_in _ (by omega) h1, u64_in b hb0 (by omega)]
  have e : (2 : Int) ^ 64 = 18446744073709551616 := by decide
  have e8 : (2 : Int) ^ 8 = 256 := by decide
  rw [bits_join .u64 64 (by decide) u64_pow 8 (a * 256) b (by omega) (by rw [e8]; omega) (by omega) hb0 (by omega) (by omega)]
  omega
theorem shl_bytes (b : Int) (j : Nat) (hj : j ≤ 7) (hb0 : 0 ≤ b) (hb : b < 256) : shl .u64 (IntKind.u64.wrap b) (IntKind.u64.wrap (wrap64 (8 * (j : Int)))) = 256 ^ j * b := by
  have h1 : IntKind.u64.wrap (wrap64 (8 * (j : Int))) = ((8 * j : Nat) : Int) := by
    rw [wrap_in (by omega) (by omega), u64_in _ (by omega) (by omega)]
    simp
  rw [h1, u64_in b hb0 (by omega)]
  unfold shl
  have h2 : min (((8 * j : Nat) : Int).toNat) IntKind.u64.bits = 8 * j := by simp [IntKind.bits]; omega
  rw [h2]
  have h3 : (2 : Int) ^ (8 * j) = 256 ^ j := by rw [Int.pow_mul, show (2 : Int) ^ 8 = 256 from by decide]
  rw [h3, Int.mul_comm]
  refine u64_in _ (Int.mul_nonneg (Int.pow_nonneg (by omega)) hb0) ?_
  have : j = 0 ∨ j = 1 ∨ j = 2 ∨ j = 3 ∨ j = 4 ∨ j = 5 ∨ j = 6 ∨ j = 7 := by omega
  rcases this with rfl | rfl | rfl | rfl | rfl | rfl | rfl | rfl <;> simp only [Int.reducePow] <;> omega
theorem or_high (a b : Int) (j : Nat) (hj : j ≤ 7) (h0 : 0 ≤ a) (h1 : a < 256 ^ j) (hb0 : 0 ≤ b) (hb : b < 256) : Go.bits .or .u64 a (256 ^ j * b) = a + 256 ^ j * b := by
  have h3 : (2 : Int) ^ (8 * j) = 256 ^ j := by rw [Int.pow_mul, show (2 : Int) ^ 8 = 256 from by decide]
  have hp : (256 : Int) ^ j * b ≤ 256 ^ j * 255 := Int.mul_le_mul_of_nonneg_left (by omega) (Int.pow_nonneg (by omega))
  have hq : (0 : Int) ≤ 256 ^ j * b := Int.mul_nonneg (Int.pow_nonneg (by omega)) hb0
  have hr : (256 : Int) ^ j * 256 ≤ 18446744073709551616 := by
    have : j = 0 ∨ j = 1 ∨ j = 2 ∨ j = 3 ∨ j = 4 ∨ j = 5 ∨ j = 6 ∨ j = 7 := by omega
    rcases this with rfl | rfl | rfl | rfl | rfl | rfl | rfl | rfl <;> simp only [Int.reducePow] <;> omega
  have e : (2 : Int) ^ 64 = 18446744073709551616 := by decide
  have hpos : (0 : Int) < 256 ^ j := Int.pow_pos (by omega)
  rw [bits_comm, bits_join .u64 64 (by decide) u64_pow (8 * j) (256 ^ j * b) a hq (by rw [h3]; exact Int.mul_emod_right ..) (by omega) h0 (by rw [h3]; exact h1) (by omega)]
  omega

/-! ### Bytes of a text -/
def bytesAt (s : ByteArray) (p : Int) : Nat → List Int
  | 0 => []
  | n + 1 => bt s p :: bytesAt s (p + 1) n
theorem bytesAt_length (s : ByteArray) : ∀ (n : Nat) (p : Int), (bytesAt s p n).length = n
  | 0, _ => rfl
  | n + 1, p => by rw [bytesAt, List.length_cons, bytesAt_length s n]
theorem bytesAt_range (s : ByteArray) : ∀ (n : Nat) (p : Int), ∀ b ∈ bytesAt s p n, 0 ≤ b ∧ b < 256
  | 0, _ => fun b hb => by cases hb
  | n + 1, p => fun b hb => by
    rcases List.mem_cons.1 hb with rfl | hb
    · have := bt_range s p; omega
    · exact bytesAt_range s n _ b hb
theorem bytesAt_snoc (s : ByteArray) : ∀ (n : Nat) (p : Int), bytesAt s p (n + 1) = bytesAt s p n ++ [bt s (p + n)]
  | 0, p => by simp [bytesAt]
  | n + 1, p => by
    rw [bytesAt, bytesAt_snoc s n (p + 1), bytesAt, List.cons_append]
    congr 3
    rw [show p + 1 + (n : Int) = p + ((n + 1 : Nat) : Int) from by omega]
theorem leN_snoc (s : ByteArray) (n : Nat) (p : Int) : leN (bytesAt s p (n + 1)) = leN (bytesAt s p n) + 256 ^ n * bt s (p + n) := by
  rw [bytesAt_snoc, leN_append, bytesAt_length]
  simp [leN]

/-! ### One -/
abbrev Tup := Int × Int × Int × Int × Int
def oneS (s : ByteArray) (p : Int) : Tup :=
  if p < 0 ∨ (s.size : Int) ≤ p then (0, 0, 0, 0, 101)
  else if opw (bt s p) < 0 ∨ (s.size : Int) - p - 1 < opw (bt s p) then (0, 0, 0, 0, 8)
  else (bt s p, leN (bytesAt s (p + 1) (opw (bt s p)).toNat), p, 1 + opw (bt s p), 0)

theorem one_l0 (s : ByteArray) (hs : s.size ≤ 140737488351232) (p : Int) (h0 : 0 ≤ p) (n : Nat) (hn : n ≤ 8) (hp : p + n < s.size) (a b c : Int) : ∀ (d : Nat) (x8 : Nat), x8 + d = n →
    Ev (fun k => code_One.l0 k s p (x8 : Int) a (leN (bytesAt s (p + 1 + x8) d)) b c) (a, leN (bytesAt s (p + 1) n), b, c, 0) := by
  intro d x8
  induction x8 generalizing d with
  | zero =>
    intro hd
    obtain rfl : d = n := by omega
    refine Ev.from 1 fun k => ?_
    simp only [code_One.l0]
    rw [if_neg (by omega)]
    simp
  | succ m ih =>
    intro hd
    have hr := leN_range (bytesAt s (p + 1 + ((m + 1 : Nat) : Int)) d) (bytesAt_range s _ _)
    rw [bytesAt_length] at hr
    have hb := bt_range s (p + 1 + (m : Int))
    refine Ev.step (f := fun k => code_One.l0 k s p (m : Int) a (leN (bytesAt s (p + 1 + m) (d + 1))) b c) (fun k => ?_) (ih (d + 1) (by omega))
    simp only [code_One.l0]
    rw [if_pos (by omega), wrap_in (n := p + ((m + 1 : Nat) : Int)) (by omega) (by omega), if_pos (by omega), if_pos (by omega), wrap_in (n := ((m + 1 : Nat) : Int) - 1) (by omega) (by omega)]
    rw [show ((m + 1 : Nat) : Int) - 1 = (m : Int) from by omega, show p + ((m + 1 : Nat) : Int) = p + 1 + (m : Int) from by omega]
    rw [or_low _ _ hr.1 ?_ hb.1 (by omega)]
    · rw [bytesAt, leN]
      congr 4
      rw [show p + 1 + ((m + 1 : Nat) : Int) = p + 1 + (m : Int) + 1 from by omega]
    · have hd7 : d ≤ 7 := by omega
      have : (256 : Int) ^ d * 256 ≤ 18446744073709551616 := by
        have : d = 0 ∨ d = 1 ∨ d = 2 ∨ d = 3 ∨ d = 4 ∨ d = 5 ∨ d = 6 ∨ d = 7 := by omega
        rcases this with rfl | rfl | rfl | rfl | rfl | rfl | rfl | rfl <;> simp only [Int.reducePow] <;> omega
      omega

theorem One_ev (s : ByteArray) (hs : s.size ≤ 140737488351232) (p : Int) : Ev (fun k => code_One.f k s p) (oneS s p) := by
  unfold oneS
  have out : Ev (fun k => code_One.j0 k s p true) (0, 0, 0, 0, 101) := Ev.from 1 fun k => by simp [code_One.j0]
  by_cases hn : p < 0
  · rw [if_pos (.inl hn)]
    exact Ev.congr (fun k => by simp only [code_One.f]; rw [if_pos hn]) out
  by_cases hg : (s.size : Int) ≤ p
  · rw [if_pos (.inr hg)]
    exact Ev.congr (fun k => by simp only [code_One.f]; rw [if_neg hn, decide_eq_true hg]) out
  rw [if_neg (by omega)]
  have hb := bt_range s p
  refine Ev.congr (f := fun k => code_One.j0 k s p false) (fun k => by simp only [code_One.f]; rw [if_neg hn, decide_eq_false hg]) ?_
  refine Ev.step (f := fun k => (code_operand.f k (bt s p)).bind fun t116 => if t116 < 0 then (code_One.j1 k s p t116 true) else ((code_width.f t116).bind fun t117 => (code_One.j1 k s p t116 (decide ((wrap64 ((wrap64 ((s.size : Int) - p)) - 1)) < t117))))) (fun k => ?_) ?_
  · simp only [code_One.j0]
    rw [if_neg (by simp), if_pos (by omega), if_pos (by omega), wrap_in (n := bt s p) (by omega) (by omega)]
  refine Ev.bind (operand_ev _) ?_
  have bad : Ev (fun k => code_One.j1 k s p (opk (bt s p)) true) (0, 0, 0, 0, 8) := Ev.from 1 fun k => by simp [code_One.j1]
  by_cases hneg : opw (bt s p) < 0
  · refine Ev.pos ((opk_neg _).2 hneg) ?_
    rw [if_pos (.inl hneg)]
    exact bad
  · refine Ev.neg (fun h => hneg ((opk_neg _).1 h)) ?_
    refine Ev.fn (width_eq _ (by omega)) ?_
    rw [wrap_in (n := (s.size : Int) - p) (by omega) (by omega), wrap_in (n := (s.size : Int) - p - 1) (by omega) (by omega)]
    by_cases hlt : (s.size : Int) - p - 1 < opw (bt s p)
    · rw [if_pos (.inr hlt), decide_eq_true hlt]
      exact bad
    · rw [if_neg (by omega), decide_eq_false hlt]
      have hle := opw_le (bt s p)
      refine Ev.step (f := fun k => code_One.l0 k s p (opw (bt s p)) (bt s p) 0 p (1 + opw (bt s p))) (fun k => ?_) ?_
      · simp only [code_One.j1]
        rw [if_neg (by simp), if_pos (by omega), if_pos (by omega), width_eq _ (by omega)]
        simp only [Option.bind_some]
        rw [wrap_in (n := bt s p) (by omega) (by omega), wrap_in (n := 1 + opw (bt s p)) (by omega) (by omega)]
      · obtain ⟨n, hn'⟩ := Int.eq_ofNat_of_zero_le (show 0 ≤ opw (bt s p) by omega)
        rw [hn']
        simpa [bytesAt, leN] using one_l0 s hs p (by omega) n (by omega) (by omega) (bt s p) p (1 + (n : Int)) 0 n (by omega)

theorem rone_l0 (s : ByteArray) (hs : s.size ≤ 140737488351232) (p : Int) (h0 : 0 ≤ p) (n : Nat) (hn : n ≤ 8) (hp : p + n < s.size) (a b c : Int) : ∀ (d : Nat) (x8 : Nat), x8 + d = n →
    Ev (fun k => janusref05_One.l0 k s p (n : Int) (x8 : Int) a (leN (bytesAt s (p + 1) x8)) b c) (a, leN (bytesAt s (p + 1) n), b, c, 0)
  | 0, x8, hd => by
    obtain rfl : x8 = n := by omega
    refine Ev.from 1 fun k => ?_
    simp only [janusref05_One.l0]
    rw [if_neg (by omega)]
  | d + 1, x8, hd => by
    have hr := leN_range (bytesAt s (p + 1) x8) (bytesAt_range s _ _)
    rw [bytesAt_length] at hr
    have hb := bt_range s (p + 1 + (x8 : Int))
    refine Ev.step (f := fun k => janusref05_One.l0 k s p (n : Int) ((x8 + 1 : Nat) : Int) a (leN (bytesAt s (p + 1) (x8 + 1))) b c) (fun k => ?_) (rone_l0 s hs p h0 n hn hp a b c d (x8 + 1) (by omega))
    simp only [janusref05_One.l0]
    have hz : 0 ≤ IntKind.u64.wrap (wrap64 (8 * (x8 : Int))) := by
      rw [wrap_in (by omega) (by omega), u64_in _ (by omega) (by omega)]
      omega
    rw [if_pos (by omega), wrap_in (n := p + 1) (by omega) (by omega), wrap_in (n := p + 1 + (x8 : Int)) (by omega) (by omega), if_pos (by omega), if_pos (by omega), if_pos hz, wrap_in (n := (x8 : Int) + 1) (by omega) (by omega)]
    rw [shl_bytes _ _ (by omega) hb.1 (by omega), or_high _ _ _ (by omega) hr.1 hr.2 hb.1 (by omega), leN_snoc]
    rfl

theorem ROne_ev (s : ByteArray) (hs : s.size ≤ 140737488351232) (p : Int) : Ev (fun k => janusref05_One.f k s p) (oneS s p) := by
  unfold oneS
  have out : Ev (fun k => janusref05_One.j0 k s p true) (0, 0, 0, 0, 101) := Ev.from 1 fun k => by simp [janusref05_One.j0]
  by_cases hn : p < 0
  · rw [if_pos (.inl hn)]
    exact Ev.congr (fun k => by simp only [janusref05_One.f]; rw [if_pos hn]) out
  by_cases hg : (s.size : Int) ≤ p
  · rw [if_pos (.inr hg)]
    exact Ev.congr (fun k => by simp only [janusref05_One.f]; rw [if_neg hn, decide_eq_true hg]) out
  rw [if_neg (by omega)]
  have hb := bt_range s p
  refine Ev.congr (f := fun k => janusref05_One.j0 k s p false) (fun k => by simp only [janusref05_One.f]; rw [if_neg hn, decide_eq_false hg]) ?_
  refine Ev.step (f := fun k => (janusref05_Operand.f k (bt s p)).bind fun t159 => if t159 < 0 then (janusref05_One.j1 k s p t159 true) else (janusref05_One.j1 k s p t159 (decide (t159 > (wrap64 ((wrap64 ((s.size : Int) - p)) - 1)))))) (fun k => ?_) ?_
  · simp only [janusref05_One.j0]
    rw [if_neg (by simp), if_pos (by omega), if_pos (by omega), wrap_in (n := bt s p) (by omega) (by omega)]
  refine Ev.bind (Operand_ev _) ?_
  have bad : Ev (fun k => janusref05_One.j1 k s p (opw (bt s p)) true) (0, 0, 0, 0, 8) := Ev.from 1 fun k => by simp [janusref05_One.j1]
  by_cases hneg : opw (bt s p) < 0
  · refine Ev.pos hneg ?_
    rw [if_pos (.inl hneg)]
    exact bad
  · refine Ev.neg hneg ?_
    rw [wrap_in (n := (s.size : Int) - p) (by omega) (by omega), wrap_in (n := (s.size : Int) - p - 1) (by omega) (by omega)]
    by_cases hlt : (s.size : Int) - p - 1 < opw (bt s p)
    · rw [if_pos (.inr hlt), decide_eq_true hlt]
      exact bad
    · rw [if_neg (by omega), decide_eq_false hlt]
      have hle := opw_le (bt s p)
      refine Ev.step (f := fun k => janusref05_One.l0 k s p (opw (bt s p)) 0 (bt s p) 0 p (1 + opw (bt s p))) (fun k => ?_) ?_
      · simp only [janusref05_One.j1]
        rw [if_neg (by simp), if_pos (by omega), if_pos (by omega)]
        rw [wrap_in (n := bt s p) (by omega) (by omega), wrap_in (n := 1 + opw (bt s p)) (by omega) (by omega)]
      · obtain ⟨n, hn'⟩ := Int.eq_ofNat_of_zero_le (show 0 ≤ opw (bt s p) by omega)
        rw [hn']
        simpa [bytesAt, leN] using rone_l0 s hs p (by omega) n (by omega) (by omega) (bt s p) p (1 + (n : Int)) n 0 (by omega)

/-! ### Decode -/
def mkIns (t : Tup) : S36 := ⟨t.1, t.2.1, t.2.2.1, t.2.2.2.1⟩
def dec (s : ByteArray) : Nat → Int → Option (List S36)
  | 0, _ => some []
  | d + 1, p => if p < s.size then (if (oneS s p).2.2.2.2 = 0 then (dec s d (p + (oneS s p).2.2.2.1)).bind fun l => some (mkIns (oneS s p) :: l) else none) else some []
def decAll (s : ByteArray) : Option (List S36) := dec s s.size 0
def decRes (b : List S36) : Option (List S36) → List S36 × Int
  | some c => (b ++ c, 0)
  | none => ([], 8)
theorem oneS_in {s : ByteArray} {p : Int} (h0 : 0 ≤ p) (h1 : p < s.size) : (oneS s p).2.2.2.2 = 0 ∧ 1 ≤ (oneS s p).2.2.2.1 ∧ p + (oneS s p).2.2.2.1 ≤ s.size ∨ oneS s p = (0, 0, 0, 0, 8) := by
  unfold oneS
  rw [if_neg (by omega)]
  split
  · exact .inr rfl
  · left
    refine ⟨rfl, ?_, ?_⟩ <;> simp only <;> omega
theorem dec_l0 (s : ByteArray) (hs : s.size ≤ 1000000) : ∀ (d : Nat) (p : Int) (b : List S36), 0 ≤ p → (s.size : Int) - p ≤ d → b.length ≤ p →
    Ev (fun k => code_Decode.l0 k s b p) (decRes b (dec s d p))
  | 0, p, b, h0, hd, hb => by
    refine Ev.from 1 fun k => ?_
    simp only [code_Decode.l0]
    rw [if_neg (by omega)]
    simp [dec, decRes]
  | d + 1, p, b, h0, hd, hb => by
    rw [dec]
    by_cases hp : p < s.size
    · rw [if_pos hp]
      refine Ev.step (f := fun k => (code_One.f k s p).bind fun bt121 => (if bt121.2.2.2.2 = 0 then (if b.length < 4398046511104 then (code_Decode.l0 k s (b ++ [(⟨bt121.1, bt121.2.1, bt121.2.2.1, bt121.2.2.2.1⟩ : S36)]) (wrap64 (p + bt121.2.2.2.1))) else (none)) else (some (([] : List (S36)), bt121.2.2.2.2)))) (fun k => ?_) ?_
      · simp only [code_Decode.l0]
        rw [if_pos hp]
      · refine Ev.bind (One_ev s (by omega) p) ?_
        rcases oneS_in h0 hp with ⟨he, hl, hle⟩ | he
        · refine Ev.pos he (Ev.pos (by omega) ?_)
          rw [if_pos he, wrap_in (by omega) (by omega)]
          have := dec_l0 s hs d (p + (oneS s p).2.2.2.1) (b ++ [mkIns (oneS s p)]) (by omega) (by omega) (by simp; omega)
          have e : decRes (b ++ [mkIns (oneS s p)]) (dec s d (p + (oneS s p).2.2.2.1)) = decRes b ((dec s d (p + (oneS s p).2.2.2.1)).bind fun l => some (mkIns (oneS s p) :: l)) := by
            cases dec s d (p + (oneS s p).2.2.2.1) <;> simp [decRes]
          rw [e] at this
          exact this
        · rw [he]
          refine Ev.neg (by simp) ?_
          rw [if_neg (by simp)]
          exact Ev.now _
    · rw [if_neg hp]
      refine Ev.from 1 fun k => ?_
      simp only [code_Decode.l0]
      rw [if_neg hp]
      simp [decRes]
theorem Decode_ev (s : ByteArray) (hs : s.size ≤ 1000000) : Ev (fun k => code_Decode.f k s) (decRes [] (decAll s)) := by
  have := dec_l0 s hs s.size 0 [] (by omega) (by omega) (by simp)
  simpa [code_Decode.f, decAll] using this
theorem rdec_l0 (s : ByteArray) (hs : s.size ≤ 1000000) : ∀ (d : Nat) (p : Int) (b : List S36), 0 ≤ p → (s.size : Int) - p ≤ d → b.length ≤ p →
    Ev (fun k => janusref05_Decode.l0 k s b p) (decRes b (dec s d p))
  | 0, p, b, h0, hd, hb => by
    refine Ev.from 1 fun k => ?_
    simp only [janusref05_Decode.l0]
    rw [if_neg (by omega)]
    simp [dec, decRes]
  | d + 1, p, b, h0, hd, hb => by
    rw [dec]
    by_cases hp : p < s.size
    · rw [if_pos hp]
      refine Ev.step (f := fun k => (janusref05_One.f k s p).bind fun bt121 => (if bt121.2.2.2.2 = 0 then (if b.length < 4398046511104 then (janusref05_Decode.l0 k s (b ++ [(⟨bt121.1, bt121.2.1, bt121.2.2.1, bt121.2.2.2.1⟩ : S36)]) (wrap64 (p + bt121.2.2.2.1))) else (none)) else (some (([] : List (S36)), bt121.2.2.2.2)))) (fun k => ?_) ?_
      · simp only [janusref05_Decode.l0]
        rw [if_pos hp]
      · refine Ev.bind (ROne_ev s (by omega) p) ?_
        rcases oneS_in h0 hp with ⟨he, hl, hle⟩ | he
        · refine Ev.pos he (Ev.pos (by omega) ?_)
          rw [if_pos he, wrap_in (by omega) (by omega)]
          have := rdec_l0 s hs d (p + (oneS s p).2.2.2.1) (b ++ [mkIns (oneS s p)]) (by omega) (by omega) (by simp; omega)
          have e : decRes (b ++ [mkIns (oneS s p)]) (dec s d (p + (oneS s p).2.2.2.1)) = decRes b ((dec s d (p + (oneS s p).2.2.2.1)).bind fun l => some (mkIns (oneS s p) :: l)) := by
            cases dec s d (p + (oneS s p).2.2.2.1) <;> simp [decRes]
          rw [e] at this
          exact this
        · rw [he]
          refine Ev.neg (by simp) ?_
          rw [if_neg (by simp)]
          exact Ev.now _
    · rw [if_neg hp]
      refine Ev.from 1 fun k => ?_
      simp only [janusref05_Decode.l0]
      rw [if_neg hp]
      simp [decRes]
theorem RDecode_ev (s : ByteArray) (hs : s.size ≤ 1000000) : Ev (fun k => janusref05_Decode.f k s) (decRes [] (decAll s)) := by
  have := rdec_l0 s hs s.size 0 [] (by omega) (by omega) (by simp)
  simpa [janusref05_Decode.f, decAll] using this

theorem list_l0 (l : List S36) (hl : l.length ≤ 1000000) : ∀ (d i : Nat), i + d = l.length → Ev (fun k => janusref05_List.l0 k l l (i : Int)) true
  | 0, i, hd => by
    refine Ev.from 1 fun k => ?_
    simp only [janusref05_List.l0]
    rw [if_neg (by omega)]
  | d + 1, i, hd => by
    refine Ev.step (f := fun k => janusref05_List.l0 k l l ((i + 1 : Nat) : Int)) (fun k => ?_) (list_l0 l hl d (i + 1) (by omega))
    simp only [janusref05_List.l0]
    rw [if_pos (by omega), if_pos (by omega), if_pos (by omega), if_neg (by simp), wrap_in (by omega) (by omega)]
    rfl
theorem List_ev (l : List S36) (hl : l.length ≤ 1000000) : Ev (fun k => janusref05_List.f k l l) true := by
  have := list_l0 l hl l.length 0 (by omega)
  simpa [janusref05_List.f] using this
theorem dec_length (s : ByteArray) : ∀ (d : Nat) (p : Int) (l : List S36), dec s d p = some l → l.length ≤ d
  | 0, p, l, h => by simp [dec] at h; simp [← h]
  | d + 1, p, l, h => by
    rw [dec] at h
    split at h
    · split at h
      · obtain ⟨m, hm, h⟩ := Option.bind_eq_some_iff.1 h
        have := dec_length s d _ m hm
        simp at h
        subst h
        simp
        omega
      · cases h
    · simp at h
      subst h
      simp

end Go.Proofs.Ytjbpljcfogekhaa.Core
