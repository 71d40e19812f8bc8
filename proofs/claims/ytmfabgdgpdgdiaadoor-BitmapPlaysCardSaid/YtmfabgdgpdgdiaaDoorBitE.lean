/- Of, walked. -/
import Derived.Test.YtmfabgdgpdgdiaaDoorBitD
namespace Go.Proofs.YtmfabgdgpdgdiaaDoor.Q
open Go.RowKit Go.Proofs.YtmfabgdgpdgdiaaDoor.Bit Go.Proofs.YtmfabgdgpdgdiaaDoorW.PrintWords Go.Proofs.YtmfabgdgpdgdiaaDoorW.PrintLast Go.Proofs.YtmfabgdgpdgdiaaDoorW.PrintMore
set_option linter.unusedVariables false
set_option linter.unusedSimpArgs false
/-- that n and these words make a bitmap -/
structure OkN (n : Int) (ws : List Nat) : Prop where
  lo : 1 ≤ n
  hi : n ≤ 1024
  len : ws.length = (n.toNat + 63) / 64
  over : ¬ (0 < n.toNat % 64 ∧ ws.getD (ws.length - 1) 0 / 2 ^ (n.toNat % 64) ≠ 0)
def OfPost (w : World) (n : Int) (ws : List Nat) (e : Ending) (w' : World) : Prop :=
  Below w.heap.size w w' ∧ ((¬ OkN n ws ∧ e = .returned (.tuple #[.pointer none, .int .i64 101])) ∨ (OkN n ws ∧ ∃ b g, e = .returned (.tuple #[.pointer (some ⟨b, 0, none⟩), .int .i64 0]) ∧ BW w' w.heap.size b g n.toNat ws))
theorem u64_at {W : World} {A : Option Addr} {ws : List Nat} (h : (Kd.int .u64).C W A ws.length (nw ws)) {j : Nat} (hj : j < ws.length) : ∃ ad, A = some ad ∧ W.cell? (ad.add j) = some (.int .u64 (ws.getD j 0 : Nat)) := by
  obtain ⟨ad, e, hc⟩ := Kd.at_int h (j : Int) (by omega) (by omega)
  refine ⟨ad, e, ?_⟩
  have e1 : rd (nw ws) (j : Int) = ((ws.getD j 0 : Nat) : Int) := by
    unfold rd nw
    rw [Int.toNat_natCast, List.getD_eq_getElem?_getD, List.getElem?_map, List.getElem?_eq_getElem hj, List.getD_eq_getElem?_getD, List.getElem?_eq_getElem hj]
    rfl
  rw [e1, Int.toNat_natCast] at hc
  exact hc
theorem part_len (ws : List Nat) (j : Nat) (h : j ≤ ws.length) : (ws.take j ++ List.replicate (ws.length - j) 0).length = ws.length := by
  rw [List.length_append, List.length_take, List.length_replicate]; omega
theorem part_set (ws : List Nat) (j : Nat) (h : j < ws.length) : (ws.take j ++ List.replicate (ws.length - j) 0).set j (ws.getD j 0) = ws.take (j + 1) ++ List.replicate (ws.length - (j + 1)) 0 := by
  have e : ws.length - j = (ws.length - (j + 1)) + 1 := by omega
  have ht : (ws.take j).length = j := by rw [List.length_take]; omega
  rw [List.set_append_right _ _ (by omega), ht, Nat.sub_self, e, List.replicate_succ, List.set_cons_zero, List.take_succ_eq_append_getElem h, List.append_assoc, List.getD_eq_getElem?_getD, List.getElem?_eq_getElem h]
  rfl
set_option maxHeartbeats 2000000 in
set_option maxRecDepth 100000 in
theorem of_calls (n : Int) (hn : -9223372036854775808 ≤ n ∧ n < 9223372036854775808) (ws : List Nat) (hlt : ∀ x ∈ ws, x < 18446744073709551616) (A : Option Addr) (c : Nat) (w : World) (hr : (Kd.int .u64).C w A ws.length (nw ws)) (hc : ws.length ≤ c) :
    Calls Tryd.prog 22 #[.int .i64 n, .slice A ws.length c] w (OfPost w n ws) := by
  have hnew := Aside0.mk (fun W => new_calls n W)
  replace hr := Aside0.mk hr
  replace hc := Aside0.mk hc
  replace hlt := Aside0.mk hlt
  go_enter Tryd.func22, Tryd.ntmps22
  go_upto_region 2 with (go_at_call 7; (with_reducible refine (hnew.out _).mono ?_); rintro e w1 ⟨hB1, hcase⟩; rcases hcase with ⟨hno, rfl⟩ | ⟨m, b, g, rfl, hm1, hm2, rfl, hbw⟩)
  · have hno2 := Aside0.mk hno
    have hB2 := Aside0.mk hB1
    clear hno hB1
    go_wp2
    go_ret2
    exact ⟨hB2.out, .inl ⟨fun h => by have := h.lo; have := h.hi; have := hno2.out; omega, rfl⟩⟩
  · have h0 := hbw.c0
    have h1 := hbw.c1
    rw [List.length_replicate] at h1
    obtain ⟨K, hK⟩ : ∃ K, (m + 63) / 64 = K := ⟨_, rfl⟩
    rw [hK] at h1 hbw
    have hB2 := Aside0.mk hB1
    have hbw2 := Aside0.mk hbw
    clear hB1 hbw
    by_cases hl : ws.length = K
    · subst hl
      have d1 : ((ws.length : Int) != (ws.length : Int)) = false := by simp
      replace hK := Aside0.mk hK
      have hl16 := Aside0.mk (show ws.length ≤ 16 by have := hK.out; omega)
      go_wp2
      go_loopg [26] ws.length (fun k v26 wx => ∃ j : Nat, v26 = .int .i64 j ∧ j + k = ws.length ∧ BW wx w.heap.size b g m (ws.take j ++ List.replicate (ws.length - j) 0) ∧ Below w.heap.size w wx)
      case atStart => exact ⟨0, rfl, by omega, hbw2.out, hB2.out⟩
      case round =>
        clear h0 h1 hbw2 hB2 d1
        obtain ⟨j, rfl, hjk, hbw, hB⟩ := hrel
        cases gk with
        | zero =>
          have ej : j = ws.length := by omega
          have hlt2 : ¬ (j : Int) < (ws.length : Int) := by omega
          subst ej
          rw [List.take_length, Nat.sub_self, List.replicate_zero, List.append_nil] at hbw
          have h0 := hbw.c0
          have h1 := hbw.c1
          obtain ⟨p, hp⟩ : ∃ p, ws.length - 1 = p := ⟨_, rfl⟩
          have hpl : p < ws.length := by have := hK.out; omega
          have hcp := hbw.at_ hpl
          obtain ⟨x, hx⟩ : ∃ x, ws.getD p 0 = x := ⟨_, rfl⟩
          rw [hx] at hcp
          obtain ⟨r, hrm⟩ : ∃ r, m % 64 = r := ⟨_, rfl⟩
          have e1 : (m : Int) % 64 = (r : Int) := by omega
          have e2 : (m : Int).tmod 64 = (r : Int) := by rw [Int.tmod_eq_emod_of_nonneg (by omega)]; exact e1
          have e3 : (ws.length : Int) - 1 = (p : Int) := by omega
          have hwp : IntKind.i64.wrap (p : Int) = (p : Int) := by rw [IntKind.wrap_i64]; have := hl16.out; omega
          have hr64 : (r : Int) < 64 := by omega
          have hr0 : (0 : Int) ≤ (r : Int) := by omega
          have hpl2 : (p : Int) < (ws.length : Int) := by omega
          have hmm : (m : Int) ≤ 1024 := by omega
          have hll : (ws.length : Int) ≤ 16 := by have := hl16.out; omega
          have hbw2 := Aside0.mk hbw
          have hB2 := Aside0.mk hB
          have hok := Aside0.mk (show (¬ (0 < r ∧ x / 2 ^ r ≠ 0)) → OkN (m : Int) ws from fun h => ⟨by omega, by omega, by rw [Int.toNat_natCast]; exact hK.out.symm, by rw [Int.toNat_natCast, hrm, hp, hx]; exact h⟩)
          have hno := Aside0.mk (show (0 < r ∧ x / 2 ^ r ≠ 0) → ¬ OkN (m : Int) ws from fun h k => by have := k.over; rw [Int.toNat_natCast, hrm, hp, hx] at this; exact this h)
          have ed := Aside0.mk (show (x : Int) / 2 ^ r = ((x / 2 ^ r : Nat) : Int) by rw [Int.natCast_ediv, Int.natCast_pow]; rfl)
          clear hjk hbw hB hp hx hrm
          by_cases hr1 : 0 < r
          · have d1 : decide ((0 : Int) < (r : Int)) = true := decide_eq_true (by omega)
            have d1n : decide (0 < r) = true := decide_eq_true hr1
            by_cases hx0 : x / 2 ^ r = 0
            · have d2 : ((x : Int) / 2 ^ r != 0) = false := by rw [bne_eq_false_iff_eq, ed.out]; omega
              have H := Aside0.mk (hok.out (fun h => h.2 hx0))
              clear hr1 hx0
              go_wp2
              repeat (go_quiet (fail); try go_wp2)
              go_ret2
              first | exact ⟨pw_below_drewN hB2.out _, .inr ⟨H.out, b, g, rfl, hbw2.out.drewN _⟩⟩ | exact ⟨hB2.out, .inr ⟨H.out, b, g, rfl, hbw2.out⟩⟩
            · have d2 : ((x : Int) / 2 ^ r != 0) = true := by rw [bne_iff_ne, ed.out]; omega
              have H := Aside0.mk (hno.out ⟨hr1, hx0⟩)
              clear hr1 hx0
              go_wp2
              repeat (go_quiet (fail); try go_wp2)
              go_ret2
              exact ⟨pw_below_drewN hB2.out _, .inl ⟨H.out, rfl⟩⟩
          · have d1 : decide ((0 : Int) < (r : Int)) = false := decide_eq_false (by omega)
            have d1n : decide (0 < r) = false := decide_eq_false hr1
            have H := Aside0.mk (hok.out (fun h => hr1 h.1))
            clear hr1
            go_wp2
            repeat (go_quiet (fail); try go_wp2)
            go_ret2
            first | exact ⟨pw_below_drewN hB2.out _, .inr ⟨H.out, b, g, rfl, hbw2.out.drewN _⟩⟩ | exact ⟨hB2.out, .inr ⟨H.out, b, g, rfl, hbw2.out⟩⟩
        | succ gk =>
          have hjl : j < ws.length := by omega
          have hlt2 : (j : Int) < (ws.length : Int) := by omega
          have h0 := hbw.c0
          have h1 := hbw.c1
          rw [part_len ws j (by omega)] at h1
          have hz := hbw.fz j
          have hcg := hbw.at_ (i := j) (by rw [part_len ws j (by omega)]; exact hjl)
          obtain ⟨y, hy⟩ : ∃ y, (ws.take j ++ List.replicate (ws.length - j) 0).getD j 0 = y := ⟨_, rfl⟩
          rw [hy] at hcg
          clear hy
          obtain ⟨ad, e, hcj⟩ := u64_at (Kd.C_below hr.out hB) hjl
          subst e
          have hset := Aside0.mk (part_set ws j hjl)
          obtain ⟨x, hx⟩ : ∃ x, ws.getD j 0 = x := ⟨_, rfl⟩
          rw [hx] at hcj hset
          have hbw2 := Aside0.mk hbw
          have hB2 := Aside0.mk hB
          replace hjk := Aside0.mk hjk
          have hj16 : (j : Int) < 16 := by have := hl16.out; omega
          clear hx hbw hB hjl
          go_wp2
          go_roundg gk
          case measure => have := hjk.out; omega
          case rel => exact ⟨j + 1, by go_num, by have := hjk.out; omega, by rw [← hset.out]; exact hbw2.out.put j x, below_set hB2.out hbw2.out.hg⟩
    · have d1 : ((ws.length : Int) != (K : Int)) = true := by rw [bne_iff_ne]; omega
      have d2 : (ws.length != K) = true := by rw [bne_iff_ne]; exact hl
      have hl2 := Aside0.mk hl
      replace hK := Aside0.mk hK
      clear hl
      go_wp2
      go_ret2
      exact ⟨hB2.out, .inl ⟨fun h => hl2.out (by have := h.len; have := hK.out; rw [Int.toNat_natCast] at *; omega), rfl⟩⟩
end Go.Proofs.YtmfabgdgpdgdiaaDoor.Q
