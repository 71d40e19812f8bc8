/- Plain facts of layer 5: what Encode of the program and of the reference comes to. -/
import Derived.Test.YtjbpljcfogekhaaCoreA
namespace Go.Proofs.Ytjbpljcfogekhaa.Core
open Go.RowKit Go.Proofs.Ytjbpljcfogekhaa.Q Go.Proofs.YtjbpljcfogekhaaW.PrintWords Go.Proofs.YtjbpljcfogekhaaW.PrintLast Go.Proofs.YtjbpljcfogekhaaW.PrintMore

def encOne (x : S36) : Option (List Int) :=
  if opw x.f0 < 0 then none else if x.f1 / 256 ^ (opw x.f0).toNat = 0 then some (x.f0 % 256 :: leB (opw x.f0).toNat x.f1) else none
def encAll : List S36 → Option (List Int)
  | [] => some []
  | x :: l => (encOne x).bind fun a => (encAll l).bind fun b => some (a ++ b)
def encRes (b : List Int) : Option (List Int) → ByteArray × Int
  | some c => (strOfNums (b ++ c), 0)
  | none => ((⟨#[]⟩ : ByteArray), 101)

theorem wrap_in {n : Int} (h0 : -9223372036854775808 ≤ n) (h1 : n < 9223372036854775808) : wrap64 n = n := by unfold wrap64; omega

/-- The loop over an operand's bytes, as far as the test behind it. -/
theorem enc_l1 (l : List S36) (i n : Int) (r : ByteArray × Int) (hn : n ≤ 8) : ∀ (d : Nat) (b : List Int) (x j : Int), 0 ≤ j → n - j = d → b.length + d < 140737488355328 →
    Ev (fun k => if x / 256 ^ d = 0 then code_Encode.l0 k (b ++ leB d x) l (l.length : Int) (wrap64 (i + 1)) else some ((⟨#[]⟩ : ByteArray), 101)) r →
    Ev (fun k => code_Encode.l1 k b x l (l.length : Int) i n j) r
  | 0, b, x, j, h0, hd, hb, h => by
    refine Ev.step (f := fun k => if x = 0 then code_Encode.l0 k b l (l.length : Int) (wrap64 (i + 1)) else some ((⟨#[]⟩ : ByteArray), 101)) (fun k => ?_) (by simpa [leB] using h)
    simp only [code_Encode.l1]
    rw [if_neg (by omega)]
  | d + 1, b, x, j, h0, hd, hb, h => by
    refine Ev.step (f := fun k => code_Encode.l1 k (b ++ [x % 256]) (x / 256) l (l.length : Int) i n (j + 1)) (fun k => ?_) (enc_l1 l i n r hn d _ _ _ (by omega) (by omega) (by simp; omega) (by simpa [div_pow, leB] using h))
    simp only [code_Encode.l1]
    rw [if_pos (by omega), if_pos (by omega), wrap_in (by omega) (by omega)]

theorem encOne_none {x : S36} (h : opw x.f0 < 0) : encOne x = none := by unfold encOne; rw [if_pos h]

theorem enc_l0 (l : List S36) (hl : l.length ≤ 1000000) : ∀ (d i : Nat) (b : List Int), i + d = l.length → b.length ≤ 9 * i →
    Ev (fun k => code_Encode.l0 k b l (l.length : Int) (i : Int)) (encRes b (encAll (l.drop i)))
  | 0, i, b, hd, hb => by
    refine Ev.from 1 fun k => ?_
    simp only [code_Encode.l0]
    rw [if_neg (by omega), List.drop_of_length_le (by omega)]
    simp [encAll, encRes]
  | d + 1, i, b, hd, hb => by
    have hi : i < l.length := by omega
    rw [List.drop_eq_getElem_cons hi, encAll]
    have hx : rd_T36 l (i : Int) = l[i] := by simp [rd_T36, List.getD_eq_getElem?_getD, hi]
    refine Ev.step (f := fun k => (code_operand.f k l[i].f0).bind fun t107 => (if t107 < 0 then (some ((⟨#[]⟩ : ByteArray), 101)) else ((code_width.f t107).bind fun t108 => code_Encode.l1 k (b ++ [l[i].f0 % 256]) l[i].f1 l (l.length : Int) (i : Int) t108 0))) (fun k => ?_) ?_
    · simp only [code_Encode.l0]
      rw [if_pos (by omega), if_pos (by omega), if_pos (by omega), hx]
      simp only [if_pos (show b.length < 140737488355328 by omega)]
    · refine Ev.bind (operand_ev _) ?_
      by_cases hneg : opw l[i].f0 < 0
      · refine Ev.pos ((opk_neg _).2 hneg) ?_
        rw [encOne_none hneg]
        exact Ev.now _
      · refine Ev.neg (fun h => hneg ((opk_neg _).1 h)) ?_
        refine Ev.fn (width_eq _ (by omega)) ?_
        have hle := opw_le l[i].f0
        refine enc_l1 l i _ _ hle (opw l[i].f0).toNat _ _ 0 (by omega) (by omega) (by simp; omega) ?_
        unfold encOne
        rw [if_neg hneg]
        by_cases hz : l[i].f1 / 256 ^ (opw l[i].f0).toNat = 0
        · refine Ev.pos hz ?_
          rw [if_pos hz, wrap_in (by omega) (by omega)]
          have := enc_l0 l hl d (i + 1) (b ++ [l[i].f0 % 256] ++ leB (opw l[i].f0).toNat l[i].f1) (by omega) (by simp [leB_length]; omega)
          have e : encRes (b ++ [l[i].f0 % 256] ++ leB (opw l[i].f0).toNat l[i].f1) (encAll (l.drop (i + 1))) = encRes b ((some (l[i].f0 % 256 :: leB (opw l[i].f0).toNat l[i].f1)).bind fun a => (encAll (l.drop (i + 1))).bind fun b => some (a ++ b)) := by
            cases encAll (l.drop (i + 1)) <;> simp [encRes]
          rw [e] at this
          exact this
        · refine Ev.neg hz ?_
          rw [if_neg hz]
          exact Ev.now _
theorem Encode_ev (l : List S36) (hl : l.length ≤ 1000000) : Ev (fun k => code_Encode.f k l) (encRes [] (encAll l)) := by
  have := enc_l0 l hl l.length 0 [] (by omega) (by simp)
  simpa [code_Encode.f] using this

/-! ### The reference's -/
theorem shr_bytes (x : Int) (j : Nat) (hj : j ≤ 8) : shr .u64 x (IntKind.u64.wrap (wrap64 (8 * (j : Int)))) = x / 256 ^ j := by
  have h1 : IntKind.u64.wrap (wrap64 (8 * (j : Int))) = ((8 * j : Nat) : Int) := by
    rw [wrap_in (by omega) (by omega)]
    simp only [IntKind.wrap, IntKind.bits, IntKind.signed]
    simp
    omega
  rw [h1]
  unfold shr
  have h2 : min (((8 * j : Nat) : Int).toNat) IntKind.u64.bits = 8 * j := by simp [IntKind.bits]; omega
  rw [h2]
  have h3 : (2 : Int) ^ (8 * j) = 256 ^ j := by rw [Int.pow_mul, show (2 : Int) ^ 8 = 256 from by decide]
  rw [h3]

theorem renc_l1 (l : List S36) (i : Nat) (hi : i < l.length) (n : Nat) (r : ByteArray × Int) (hn : n ≤ 8) (hl : l.length ≤ 1000000) : ∀ (d : Nat) (b : List Int) (j : Nat), j + d = n → b.length + d < 140737488355328 →
    Ev (fun k => janusref05_Encode.l0 k l (b ++ leB d (l[i].f1 / 256 ^ j)) ((i : Int) + 1)) r →
    Ev (fun k => janusref05_Encode.l1 k l b (i : Int) (n : Int) (j : Int)) r
  | 0, b, j, hd, hb, h => by
    refine Ev.step (f := fun k => janusref05_Encode.l0 k l b ((i : Int) + 1)) (fun k => ?_) (by simpa [leB] using h)
    simp only [janusref05_Encode.l1]
    rw [if_neg (by omega), wrap_in (by omega) (by omega)]
  | d + 1, b, j, hd, hb, h => by
    have hx : rd_T36 l (i : Int) = l[i] := by simp [rd_T36, List.getD_eq_getElem?_getD, hi]
    refine Ev.step (f := fun k => janusref05_Encode.l1 k l (b ++ [l[i].f1 / 256 ^ j % 256]) (i : Int) (n : Int) ((j + 1 : Nat) : Int)) (fun k => ?_) (renc_l1 l i hi n r hn hl d (b ++ [l[i].f1 / 256 ^ j % 256]) (j + 1) (by omega) (by simp; omega) ?_)
    · simp only [janusref05_Encode.l1]
      have h0 : 0 ≤ IntKind.u64.wrap (wrap64 (8 * (j : Int))) := by
        rw [wrap_in (by omega) (by omega)]
        simp only [IntKind.wrap, IntKind.bits, IntKind.signed]
        simp
        omega
      rw [if_pos (by omega), if_pos (by omega), if_pos (by omega), if_pos h0, if_pos (by omega), shr_bytes _ _ (by omega), hx, wrap_in (by omega) (by omega)]
      rfl
    · rw [leB, Int.ediv_ediv_of_nonneg (Int.pow_nonneg (by omega)), ← Int.pow_succ] at h
      rw [List.append_assoc, List.singleton_append]
      exact h

def Args (l : List S36) : Prop := ∀ x ∈ l, 0 ≤ x.f1 ∧ x.f1 < 18446744073709551616

theorem renc_l0 (l : List S36) (hl : l.length ≤ 1000000) (ha : Args l) : ∀ (d i : Nat) (b : List Int), i + d = l.length → b.length ≤ 9 * i →
    Ev (fun k => janusref05_Encode.l0 k l b (i : Int)) (encRes b (encAll (l.drop i)))
  | 0, i, b, hd, hb => by
    refine Ev.from 1 fun k => ?_
    simp only [janusref05_Encode.l0]
    rw [if_neg (by omega), List.drop_of_length_le (by omega)]
    simp [encAll, encRes]
  | d + 1, i, b, hd, hb => by
    have hi : i < l.length := by omega
    rw [List.drop_eq_getElem_cons hi, encAll]
    have hx : rd_T36 l (i : Int) = l[i] := by simp [rd_T36, List.getD_eq_getElem?_getD, hi]
    have hr := ha l[i] (List.getElem_mem hi)
    refine Ev.step (f := fun k => (janusref05_Operand.f k l[i].f0).bind fun t159 => if t159 < 0 then (janusref05_Encode.j1 k l b (i : Int) t159 true) else (if t159 < 8 then (if 0 ≤ (IntKind.u64.wrap (wrap64 (8 * t159))) then (janusref05_Encode.j1 k l b (i : Int) t159 ((shr .u64 l[i].f1 (IntKind.u64.wrap (wrap64 (8 * t159)))) != 0)) else (none)) else (janusref05_Encode.j1 k l b (i : Int) t159 false))) (fun k => ?_) ?_
    · simp only [janusref05_Encode.l0]
      rw [if_pos (by omega), if_pos (by omega), hx]
    · refine Ev.bind (Operand_ev _) ?_
      have fall : Ev (fun k => janusref05_Encode.j1 k l b (i : Int) (opw l[i].f0) true) ((⟨#[]⟩ : ByteArray), 101) := by
        refine Ev.from 1 fun k => ?_
        simp [janusref05_Encode.j1]
      by_cases hneg : opw l[i].f0 < 0
      · refine Ev.pos hneg ?_
        rw [encOne_none hneg]
        exact fall
      · refine Ev.neg hneg ?_
        have hle := opw_le l[i].f0
        obtain ⟨n, hn⟩ := Int.eq_ofNat_of_zero_le (show 0 ≤ opw l[i].f0 by omega)
        have hn8 : n ≤ 8 := by omega
        have h0 : 0 ≤ IntKind.u64.wrap (wrap64 (8 * (n : Int))) := by
          rw [wrap_in (by omega) (by omega)]
          simp only [IntKind.wrap, IntKind.bits, IntKind.signed]
          simp
          omega
        have go : l[i].f1 / 256 ^ n = 0 → Ev (fun k => janusref05_Encode.j1 k l b (i : Int) (n : Int) false) (encRes b ((encOne l[i]).bind fun a => (encAll (l.drop (i + 1))).bind fun b => some (a ++ b))) := by
          intro hz
          refine Ev.step (f := fun k => janusref05_Encode.l1 k l (b ++ [l[i].f0 % 256]) (i : Int) (n : Int) ((0 : Nat) : Int)) (fun k => ?_) ?_
          · simp only [janusref05_Encode.j1]
            rw [if_neg (by simp), if_pos (by omega), if_pos (by omega), if_pos (by omega), hx]
            rfl
          · refine renc_l1 l i hi n _ hn8 hl n _ 0 (by omega) (by simp; omega) ?_
            have := renc_l0 l hl ha d (i + 1) (b ++ [l[i].f0 % 256] ++ leB n l[i].f1) (by omega) (by simp [leB_length]; omega)
            have e : encRes (b ++ [l[i].f0 % 256] ++ leB n l[i].f1) (encAll (l.drop (i + 1))) = encRes b ((encOne l[i]).bind fun a => (encAll (l.drop (i + 1))).bind fun b => some (a ++ b)) := by
              unfold encOne
              rw [hn, if_neg (by omega)]
              simp only [Int.toNat_natCast]
              rw [if_pos hz]
              cases encAll (l.drop (i + 1)) <;> simp [encRes]
            rw [e] at this
            simpa using this
        rw [hn]
        by_cases h8 : (n : Int) < 8
        · refine Ev.pos h8 (Ev.pos h0 ?_)
          rw [shr_bytes _ _ (by omega)]
          by_cases hz : l[i].f1 / 256 ^ n = 0
          · rw [show (l[i].f1 / 256 ^ n != 0) = false from by simp [hz]]
            exact go hz
          · rw [show (l[i].f1 / 256 ^ n != 0) = true from by simp [hz]]
            unfold encOne
            rw [hn, if_neg (by omega)]
            simp only [Int.toNat_natCast]
            rw [if_neg hz]
            rw [hn] at fall
            exact fall
        · refine Ev.neg h8 (go ?_)
          obtain rfl : n = 8 := by omega
          exact Int.ediv_eq_zero_of_lt hr.1 (by have : (256 : Int) ^ 8 = 18446744073709551616 := by decide
                                                omega)
theorem REncode_ev (l : List S36) (hl : l.length ≤ 1000000) (ha : Args l) : Ev (fun k => janusref05_Encode.f k l) (encRes [] (encAll l)) := by
  have := renc_l0 l hl ha l.length 0 [] (by omega) (by simp)
  simpa [janusref05_Encode.f] using this

end Go.Proofs.Ytjbpljcfogekhaa.Core
