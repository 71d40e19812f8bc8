/- Take, Left, Words of a bitmap, walked. -/
import Derived.Test.YtmfabgdgpdgdiaaDoorBitB
namespace Go.Proofs.YtmfabgdgpdgdiaaDoor.Q
open Go.RowKit Go.Proofs.YtmfabgdgpdgdiaaDoor.Bit Go.Proofs.YtmfabgdgpdgdiaaDoorW.PrintWords Go.Proofs.YtmfabgdgpdgdiaaDoorW.PrintLast Go.Proofs.YtmfabgdgpdgdiaaDoorW.PrintMore
set_option linter.unusedVariables false
set_option linter.unusedSimpArgs false
theorem freeN_le (x : Nat) (hx : x < 18446744073709551616) : freeN x ≤ 64 := by
  unfold freeN
  by_cases h : 18446744073709551615 - x = 0
  · rw [h]; exact Nat.le_refl _
  · exact Nat.le_of_lt (Lib.lowest_bit 64 _ h (by omega)).2
theorem take_nil (w : World) : Calls Tryd.prog 9 #[.pointer none] w fun e w' => e = .returned (.int .i64 (-1)) ∧ w' = w := by
  go_enter Tryd.func9, Tryd.ntmps9
  go_wp2
  go_ret
  exact ⟨rfl, rfl⟩
def TakePost (w : World) (B b g n : Nat) (L : List Bool) (e : Ending) (w' : World) : Prop :=
  e = .returned (.int .i64 (takeR L)) ∧ (∃ ws', BW w' B b g n ws' ∧ Rep ws' (L.set (ff L) true)) ∧ w.grownBy w' (some g)
theorem mark_any (B b g n : Nat) (ws : List Nat) (L : List Bool) (i : Int) (k : Nat) (hik : i = (k : Int)) (u : Bool) (w : World) (h : BW w B b g n ws) (hR : Rep ws L) (hn : L.length = n) (h1024 : n ≤ 1024) (hk : k < n) :
    Calls Tryd.prog 8 #[.pointer (some ⟨b, 0, none⟩), .int .i64 i, .bool u] w fun e w' => e = .returned (.int .i64 0) ∧ (∃ ws', BW w' B b g n ws' ∧ Rep ws' (L.set k u)) ∧ w.grownBy w' (some g) := by
  rw [hik]; exact mark_calls B b g n ws L k u w h hR hn h1024 hk
set_option maxHeartbeats 1000000 in
set_option maxRecDepth 100000 in
theorem take_calls (B b g n : Nat) (ws : List Nat) (L : List Bool) (w : World) (h : BW w B b g n ws) (hR : Rep ws L) (hn : L.length = n) (h1024 : n ≤ 1024) (hT : TabAt 0 Lib.deBruijn64tab w) :
    Calls Tryd.prog 9 #[.pointer (some ⟨b, 0, none⟩)] w (TakePost w B b g n L) := by
  have h0 := h.c0
  have h1 := h.c1
  have hl1 : ws.length ≤ 16 := by have := hR.len; omega
  have hlen := Aside0.mk hR.len
  replace hn := Aside0.mk hn
  replace h := Aside0.mk h
  replace hR := Aside0.mk hR
  replace hT := Aside0.mk hT
  go_enter Tryd.func9, Tryd.ntmps9
  go_wp2
  go_loopg [14] ws.length (fun k v14 wx => ∃ j : Nat, v14 = .int .i64 j ∧ j + k = ws.length ∧ Aside0 (∀ i, i < 64 * j → i < L.length → L.getD i false = true) ∧ w = wx)
  case atStart => exact ⟨0, rfl, by omega, ⟨fun i hi => by omega⟩, rfl⟩
  case round =>
    obtain ⟨j, rfl, hjk, hu, rfl⟩ := hrel
    cases gk with
    | zero =>
      have ej : j = ws.length := by omega
      have hall := Aside0.mk (ff_none (fun i hi => hu.out i (by have := hlen.out; omega) hi))
      have hlt : ¬ (j : Int) < (ws.length : Int) := by omega
      clear ej hjk
      go_wp2
      go_ret
      exact ⟨by unfold takeR; rw [if_neg (by rw [hall.out]; omega)]; rfl, ⟨ws, h.out, by rw [set_ff_none hall.out]; exact hR.out⟩, World.grownBy.refl _ _⟩
    | succ gk =>
      have hjl : j < ws.length := by omega
      have hlt : (j : Int) < (ws.length : Int) := by omega
      have hj16 : (j : Int) < 16 := by omega
      have hc := h.out.at_ hjl
      have hxlt := Aside0.mk (hR.out.getD_lt j)
      have hf64 := freeN_le _ hxlt.out
      have hu2 := Aside0.mk (show ∀ i, i < 64 * j → L.getD i false = true from fun i hi => hu.out i hi (by have := hlen.out; omega))
      have hstep := Aside0.mk (fun hf => used_step hR.out hjl hu2.out hf)
      have hhere := Aside0.mk (fun h64 hnn => free_here hR.out hjl hu2.out h64 hnn)
      obtain ⟨x, hx⟩ : ∃ x, ws.getD j 0 = x := ⟨_, rfl⟩
      rw [hx] at hc hxlt hf64 hstep hhere
      obtain ⟨f, hf⟩ : ∃ f, freeN x = f := ⟨_, rfl⟩
      have hfr := fun (W : World) a hT => free_calls x hxlt.out W a hT
      rw [hf] at hf64 hstep hhere hfr
      replace hfr := Aside0.mk hfr
      clear hx hf
      replace hjk := Aside0.mk hjk
      have hf0 : 0 ≤ (f : Int) := by omega
      have hf65 : (f : Int) ≤ 64 := by omega
      clear hf64 hjl
      by_cases h64 : f < 64
      · by_cases hnn : 64 * j + f < n
        · have d1 : (f : Int) < 64 := by omega
          have d2 : 64 * (j : Int) + (f : Int) < (n : Int) := by omega
          have hmk := Aside0.mk (mark_any B b g n ws L (64 * (j : Int) + (f : Int)) (64 * j + f) (by omega) true w h.out hR.out hn.out h1024 hnn)
          have hff := Aside0.mk (hhere.out h64 (by rw [hn.out]; exact hnn))
          have hnn2 := Aside0.mk hnn
          clear h64 hnn
          go_wp2_with (first
            | (go_at_call 26; (with_reducible refine (hfr.out _ _ hT.out).mono ?_); rintro e w' ⟨rfl, rfl⟩)
            | (go_at_call 8; (with_reducible refine hmk.out.mono ?_); rintro e w' ⟨rfl, hw, hg⟩))
          go_ret
          exact ⟨ret_i64 (by unfold takeR; rw [hff.out, if_pos (by rw [hn.out]; exact hnn2.out)]; omega), by rw [hff.out]; exact hw, hg⟩
        · have d1 : (f : Int) < 64 := by omega
          have d2 : ¬ 64 * (j : Int) + (f : Int) < (n : Int) := by omega
          have hu3 := Aside0.mk (hstep.out (.inr (by rw [hn.out]; omega)))
          clear h64 hnn
          go_wp2_with (first
            | (go_at_call 26; (with_reducible refine (hfr.out _ _ hT.out).mono ?_); rintro e w' ⟨rfl, rfl⟩))
          go_roundg gk
          case measure => have := hjk.out; omega
          case rel => exact ⟨j + 1, by go_num, by have := hjk.out; omega, hu3, rfl⟩
      · have d1 : ¬ (f : Int) < 64 := by omega
        have hu3 := Aside0.mk (hstep.out (.inl (by omega)))
        clear h64
        go_wp2_with (first
          | (go_at_call 26; (with_reducible refine (hfr.out _ _ hT.out).mono ?_); rintro e w' ⟨rfl, rfl⟩))
        go_roundg gk
        case measure => have := hjk.out; omega
        case rel => exact ⟨j + 1, by go_num, by have := hjk.out; omega, hu3, rfl⟩
/-! ### Left -/
theorem left_nil (w : World) : Calls Tryd.prog 10 #[.pointer none] w fun e w' => e = .returned (.int .i64 0) ∧ w' = w := by
  go_enter Tryd.func10, Tryd.ntmps10
  go_wp2
  go_ret
  exact ⟨rfl, rfl⟩
set_option maxHeartbeats 1000000 in
set_option maxRecDepth 100000 in
theorem left_calls (B b g n : Nat) (ws : List Nat) (L : List Bool) (w : World) (h : BW w B b g n ws) (hR : Rep ws L) (hn : L.length = n) (h1024 : n ≤ 1024) :
    Calls Tryd.prog 10 #[.pointer (some ⟨b, 0, none⟩)] w fun e w' => e = .returned (.int .i64 (leftN L : Nat)) ∧ w' = w := by
  have h0 := h.c0
  have h1 := h.c1
  have hl1 : ws.length ≤ 16 := by have := hR.len; omega
  have hleft := Aside0.mk (show Bit.ones ws ws.length + leftN L = n by rw [← hn]; exact hR.left)
  replace hn := Aside0.mk hn
  replace h := Aside0.mk h
  replace hR := Aside0.mk hR
  go_enter Tryd.func10, Tryd.ntmps10
  go_wp2
  go_loopg [3, 17] ws.length (fun k v3 v17 wx => ∃ j : Nat, v17 = .int .i64 j ∧ j + k = ws.length ∧ v3 = .int .i64 ((n : Int) - (Bit.ones ws j : Nat)) ∧ w = wx)
  case atStart => exact ⟨0, rfl, by omega, congrArg (Value.int .i64) (show (n : Int) = n - ((0 : Nat) : Int) by omega), rfl⟩
  case round =>
    obtain ⟨j, rfl, hjk, rfl, rfl⟩ := hrel
    cases gk with
    | zero =>
      have ej : j = ws.length := by omega
      have hlt : ¬ (j : Int) < (ws.length : Int) := by omega
      subst ej
      clear hjk
      go_wp2
      go_ret
      exact ⟨ret_i64 (by have := hleft.out; omega), rfl⟩
    | succ gk =>
      have hjl : j < ws.length := by omega
      have hlt : (j : Int) < (ws.length : Int) := by omega
      have hj16 : (j : Int) < 16 := by omega
      have hc := h.out.at_ hjl
      have hxlt := Aside0.mk (hR.out.getD_lt j)
      have hs := Aside0.mk (show Bit.ones ws (j + 1) = Bit.ones ws j + sumf 1 64 (ws.getD j 0) from rfl)
      have ho1 := ones_le ws j
      have ho2 := ones_le ws (j + 1)
      rw [hs.out] at ho2
      obtain ⟨x, hx⟩ : ∃ x, ws.getD j 0 = x := ⟨_, rfl⟩
      rw [hx] at hc hxlt hs ho2
      have hon := fun (W : World) => ones_calls x hxlt.out W
      obtain ⟨s, hs1⟩ : ∃ s, sumf 1 64 x = s := ⟨_, rfl⟩
      obtain ⟨o, ho⟩ : ∃ o, Bit.ones ws j = o := ⟨_, rfl⟩
      rw [hs1] at hon hs ho2
      rw [ho] at hs ho1 ho2
      replace hon := Aside0.mk hon
      replace hjk := Aside0.mk hjk
      have b1 : (o : Int) ≤ 1024 := by omega
      have b2 : (s : Int) ≤ 1024 := by omega
      have b3 : (0 : Int) ≤ (o : Int) := by omega
      have b4 : (0 : Int) ≤ (s : Int) := by omega
      have b5 : (n : Int) ≤ 1024 := by omega
      clear hx hs1 ho2 ho1 hjl
      rw [ho]
      replace ho := Aside0.mk ho
      go_wp2_with (first
        | (go_at_call 27; (with_reducible refine (hon.out _).mono ?_); rintro e w' ⟨rfl, rfl⟩))
      go_roundg gk
      case measure => have := hjk.out; omega
      case rel => exact ⟨j + 1, by go_num, by have := hjk.out; omega, congrArg (Value.int .i64) (by rw [hs.out]; omega), rfl⟩
end Go.Proofs.YtmfabgdgpdgdiaaDoor.Q
