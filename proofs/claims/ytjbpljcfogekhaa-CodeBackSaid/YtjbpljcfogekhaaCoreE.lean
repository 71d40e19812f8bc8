/- Plain facts of layer 5: what was encoded is decoded as it was, and what is decoded is encoded as it was. -/
import Derived.Test.YtjbpljcfogekhaaCoreC
namespace Go.Proofs.Ytjbpljcfogekhaa.Core
open Go.RowKit Go.Proofs.Ytjbpljcfogekhaa.Q Go.Proofs.YtjbpljcfogekhaaW.PrintWords Go.Proofs.YtjbpljcfogekhaaW.PrintLast Go.Proofs.YtjbpljcfogekhaaW.PrintMore

/-- A text's bytes as numbers. -/
def nums8 (s : ByteArray) : List Int := s.data.toList.map fun u => (u.toNat : Int)
theorem nums8_length (s : ByteArray) : (nums8 s).length = s.size := by
  unfold nums8
  rw [List.length_map, Array.length_toList]
  rfl
theorem nums8_get (s : ByteArray) (i : Nat) (h : i < s.size) : (nums8 s)[i]? = some (bt s i) := by
  have h2 : i < s.data.toList.length := by rw [Array.length_toList]; exact h
  unfold nums8 bt
  rw [List.getElem?_map, List.getElem?_eq_getElem h2, dif_pos (by simpa using h)]
  simp only [Option.map_some, Int.toNat_natCast]
  rfl
theorem nums8_str (bs : List Int) (h : ∀ b ∈ bs, 0 ≤ b ∧ b < 256) : nums8 (strOfNums bs) = bs := by
  unfold nums8 strOfNums
  simp only [List.map_map]
  have : ∀ b ∈ bs, ((fun u : UInt8 => (u.toNat : Int)) ∘ fun n : Int => UInt8.ofNat n.toNat) b = b := by
    intro b hb
    have := h b hb
    simp only [Function.comp, UInt8.toNat_ofNat']
    omega
  exact (List.map_congr_left this).trans (List.map_id _)
theorem str_nums8 (s : ByteArray) : strOfNums (nums8 s) = s := by
  unfold nums8 strOfNums
  apply ByteArray.ext
  apply Array.ext'
  rw [List.map_map]
  refine (List.map_congr_left (g := id) fun u _ => ?_).trans (List.map_id _)
  simp
/-- A piece of the text. -/
theorem bytesAt_drop (s : ByteArray) : ∀ (n p : Nat), p + n ≤ s.size → bytesAt s (p : Int) n = ((nums8 s).drop p).take n
  | 0, p, h => by simp [bytesAt]
  | n + 1, p, h => by
    have hp : p < (nums8 s).length := by rw [nums8_length]; omega
    have e := nums8_get s p (by omega)
    rw [List.getElem?_eq_getElem hp, Option.some.injEq] at e
    rw [bytesAt, List.drop_eq_getElem_cons hp, List.take_succ_cons, e]
    have := bytesAt_drop s n (p + 1) (by omega)
    rw [show ((p + 1 : Nat) : Int) = (p : Int) + 1 from by omega] at this
    rw [this]
theorem bt_drop (s : ByteArray) (p : Nat) (a : Int) (l : List Int) (h : (nums8 s).drop p = a :: l) : p < s.size ∧ bt s (p : Int) = a ∧ (nums8 s).drop (p + 1) = l := by
  have hp : p < (nums8 s).length := by
    rcases Nat.lt_or_ge p (nums8 s).length with h1 | h1
    · exact h1
    · rw [List.drop_of_length_le h1] at h; cases h
  rw [List.drop_eq_getElem_cons hp] at h
  injection h with h1 h2
  have hp' : p < s.size := by rw [← nums8_length]; exact hp
  have e := nums8_get s p hp'
  rw [List.getElem?_eq_getElem hp, Option.some.injEq] at e
  exact ⟨hp', by rw [← e, h1], h2⟩

/-! ### From instructions to a text and back -/
def place : Int → List S36 → List S36
  | _, [] => []
  | p, x :: l => ⟨x.f0, x.f1, p, 1 + opw x.f0⟩ :: place (p + (1 + opw x.f0)) l
theorem place_length : ∀ (l : List S36) (p : Int), (place p l).length = l.length
  | [], _ => rfl
  | x :: l, p => by rw [place, List.length_cons, List.length_cons, place_length l]
theorem encOne_some {x : S36} {a : List Int} (h : encOne x = some a) : 0 ≤ opw x.f0 ∧ a = x.f0 :: leB (opw x.f0).toNat x.f1 ∧ x.f1 / 256 ^ (opw x.f0).toNat = 0 := by
  unfold encOne at h
  split at h
  · cases h
  · split at h
    · rename_i hz
      have := opw_op (op := x.f0) (by omega)
      rw [Int.emod_eq_of_lt (by omega) (by omega)] at h
      exact ⟨by omega, (Option.some.inj h).symm, hz⟩
    · cases h
theorem encAll_range : ∀ (l : List S36) (bs : List Int), encAll l = some bs → ∀ b ∈ bs, 0 ≤ b ∧ b < 256
  | [], bs, h, b, hb => by simp [encAll] at h; subst h; cases hb
  | x :: l, bs, h, b, hb => by
    rw [encAll] at h
    obtain ⟨a, ha, h⟩ := Option.bind_eq_some_iff.1 h
    obtain ⟨c, hc, h⟩ := Option.bind_eq_some_iff.1 h
    obtain rfl := Option.some.inj h
    obtain ⟨h0, rfl, _⟩ := encOne_some ha
    have := opw_op h0
    rcases List.mem_append.1 hb with hb | hb
    · rcases List.mem_cons.1 hb with rfl | hb
      · omega
      · exact leB_range _ _ b hb
    · exact encAll_range l c hc b hb
theorem encAll_length : ∀ (l : List S36) (bs : List Int), encAll l = some bs → bs.length ≤ 9 * l.length
  | [], bs, h => by simp [encAll] at h; subst h; simp
  | x :: l, bs, h => by
    rw [encAll] at h
    obtain ⟨a, ha, h⟩ := Option.bind_eq_some_iff.1 h
    obtain ⟨c, hc, h⟩ := Option.bind_eq_some_iff.1 h
    obtain rfl := Option.some.inj h
    obtain ⟨h0, rfl, _⟩ := encOne_some ha
    have := opw_le x.f0
    have := encAll_length l c hc
    simp [leB_length]
    omega
/-- One instruction is read as it was written. -/
theorem one_back (s : ByteArray) (p : Nat) (x : S36) (a c : List Int) (h0 : 0 ≤ x.f1) (ha : encOne x = some a) (hd : (nums8 s).drop p = a ++ c) :
    p < s.size ∧ oneS s (p : Int) = (x.f0, x.f1, (p : Int), 1 + opw x.f0, 0) ∧ (nums8 s).drop (p + a.length) = c ∧ (a.length : Int) = 1 + opw x.f0 := by
  obtain ⟨hw, rfl, hz⟩ := encOne_some ha
  have hlen : ((nums8 s).drop p).length = s.size - p := by rw [List.length_drop, nums8_length]
  rw [List.cons_append] at hd
  obtain ⟨hp, hb, hd1⟩ := bt_drop s p _ _ hd
  have hl2 : (x.f0 :: leB (opw x.f0).toNat x.f1 : List Int).length = 1 + (opw x.f0).toNat := by rw [List.length_cons, leB_length]; omega
  have hsz : 1 + (opw x.f0).toNat ≤ s.size - p := by
    rw [← hlen, hd, List.length_cons, List.length_append, leB_length]
    omega
  refine ⟨hp, ?_, ?_, by rw [hl2]; omega⟩
  · unfold oneS
    rw [if_neg (by omega), hb, if_neg (by omega)]
    have e := bytesAt_drop s (opw x.f0).toNat (p + 1) (by omega)
    rw [hd1] at e
    rw [show ((p + 1 : Nat) : Int) = (p : Int) + 1 from by omega] at e
    rw [e, List.take_append_of_le_length (by rw [leB_length]; omega), List.take_of_length_le (by rw [leB_length]; omega), leN_leB _ _ h0]
    have h4 := Int.emod_add_mul_ediv x.f1 (256 ^ (opw x.f0).toNat)
    rw [hz] at h4
    rw [show x.f1 % 256 ^ (opw x.f0).toNat = x.f1 from by omega]
  · rw [hl2, show p + (1 + (opw x.f0).toNat) = p + 1 + (opw x.f0).toNat from by omega, ← List.drop_drop, hd1]
    rw [List.drop_append_of_le_length (by rw [leB_length]; omega), List.drop_of_length_le (by rw [leB_length]; omega), List.nil_append]
theorem dec_enc (s : ByteArray) : ∀ (l : List S36) (d p : Nat) (bs : List Int), (∀ x ∈ l, 0 ≤ x.f1) → encAll l = some bs → p ≤ s.size → (nums8 s).drop p = bs → s.size - p ≤ d → dec s d (p : Int) = some (place (p : Int) l)
  | [], d, p, bs, hw, he, hp, hd, hn => by
    simp [encAll] at he
    subst he
    have hlen : ((nums8 s).drop p).length = s.size - p := by rw [List.length_drop, nums8_length]
    rw [hd] at hlen
    simp at hlen
    cases d with
    | zero => rfl
    | succ d => rw [dec, if_neg (by omega)]; rfl
  | x :: l, d, p, bs, hw, he, hp, hd, hn => by
    rw [encAll] at he
    obtain ⟨a, ha, h⟩ := Option.bind_eq_some_iff.1 he
    obtain ⟨c, hc, h⟩ := Option.bind_eq_some_iff.1 h
    obtain rfl := Option.some.inj h
    obtain ⟨hlt, h1, h2, h3⟩ := one_back s p x a c (hw x (List.mem_cons_self ..)) ha hd
    have hpos := (encOne_some ha).1
    cases d with
    | zero => omega
    | succ d =>
      rw [dec, if_pos (by omega), h1, if_pos rfl]
      have hlen : ((nums8 s).drop (p + a.length)).length = s.size - (p + a.length) := by rw [List.length_drop, nums8_length]
      have hle : p + a.length ≤ s.size := by
        have e : ((nums8 s).drop p).length = s.size - p := by rw [List.length_drop, nums8_length]
        rw [hd, List.length_append] at e
        omega
      have ih := dec_enc s l d (p + a.length) c (fun y hy => hw y (List.mem_cons_of_mem _ hy)) hc hle h2 (by omega)
      rw [show ((p + a.length : Nat) : Int) = (p : Int) + (1 + opw x.f0) from by omega] at ih
      simp only
      rw [ih]
      rfl
/-- .. and the other way. -/
theorem enc_dec (s : ByteArray) : ∀ (d p : Nat) (m : List S36), p ≤ s.size → s.size - p ≤ d → dec s d (p : Int) = some m → encAll m = some ((nums8 s).drop p)
  | 0, p, m, hp, hd, h => by
    rw [dec] at h
    obtain rfl := Option.some.inj h
    rw [List.drop_of_length_le (by rw [nums8_length]; omega)]
    rfl
  | d + 1, p, m, hp, hd, h => by
    rw [dec] at h
    by_cases hlt : (p : Int) < s.size
    · rw [if_pos hlt] at h
      by_cases hz : (oneS s (p : Int)).2.2.2.2 = 0
      · rw [if_pos hz] at h
        obtain ⟨m', hm', h⟩ := Option.bind_eq_some_iff.1 h
        obtain rfl := Option.some.inj h
        unfold oneS at hz hm' ⊢
        rw [if_neg (by omega)] at hz hm' ⊢
        by_cases hbad : opw (bt s (p : Int)) < 0 ∨ (s.size : Int) - (p : Int) - 1 < opw (bt s (p : Int))
        · rw [if_pos hbad] at hz
          simp at hz
        · rw [if_neg hbad] at hm' ⊢
          simp only [mkIns]
          have hw : 0 ≤ opw (bt s (p : Int)) := by omega
          have hop := opw_op hw
          have hp2 : p < (nums8 s).length := by rw [nums8_length]; omega
          have e := nums8_get s p (by omega)
          rw [List.getElem?_eq_getElem hp2, Option.some.injEq] at e
          obtain ⟨n, hn⟩ := Int.eq_ofNat_of_zero_le hw
          rw [hn] at hm' hbad ⊢
          simp only [Int.toNat_natCast] at hm' ⊢
          have hb := bytesAt_drop s n (p + 1) (by omega)
          rw [show ((p + 1 : Nat) : Int) = (p : Int) + 1 from by omega] at hb
          have hr := bytesAt_range s n ((p : Int) + 1)
          have hrr := leN_range _ hr
          have hl := leB_leN _ hr
          rw [bytesAt_length] at hrr hl
          have ih := enc_dec s d (p + 1 + n) m' (by omega) (by omega) (by
            rw [show ((p + 1 + n : Nat) : Int) = (p : Int) + (1 + (n : Int)) from by omega]
            exact hm')
          rw [encAll]
          unfold encOne
          simp only [hn, Int.toNat_natCast]
          rw [if_neg (by omega), if_pos (Int.ediv_eq_zero_of_lt hrr.1 hrr.2), hl, Int.emod_eq_of_lt (by omega) (by omega), ih]
          simp only [Option.bind_some, Option.some.injEq]
          have hj := List.take_append_drop n ((nums8 s).drop (p + 1))
          rw [List.drop_drop] at hj
          rw [hb, List.drop_eq_getElem_cons hp2, e, List.cons_append, hj]
      · rw [if_neg hz] at h
        cases h
    · rw [if_neg hlt] at h
      obtain rfl := Option.some.inj h
      rw [List.drop_of_length_le (by rw [nums8_length]; omega)]
      rfl

end Go.Proofs.Ytjbpljcfogekhaa.Core
