/- The reference's words and Of, walked; words compared. -/
import Derived.Test.YtmfabgdgpdgdiaaDoorBitF
namespace Go.Proofs.YtmfabgdgpdgdiaaDoor.Q
open Go.RowKit Go.Proofs.YtmfabgdgpdgdiaaDoor.Bit Go.Proofs.YtmfabgdgpdgdiaaDoorW.PrintWords Go.Proofs.YtmfabgdgpdgdiaaDoorW.PrintLast Go.Proofs.YtmfabgdgpdgdiaaDoorW.PrintMore
set_option linter.unusedVariables false
set_option linter.unusedSimpArgs false
theorem C_blk {W : World} {g : Nat} {t : TypeId} {ws : List Nat} (h : W.heap[g]? = some (.cells (cw ws) t (0, 0))) (hl : ws.length ≤ 1000000) : (Kd.int .u64).C W (some ⟨g, 0, none⟩) ws.length (nw ws) := by
  refine Kd.C_of_reads (d := 0) ⟨nw_length ws, by omega, fun _ => ⟨_, rfl, fun j hj => ?_⟩⟩
  rw [add_plain, blk_cell h j, cw_at hj]
  congr 2
  unfold nw
  rw [List.getD_eq_getElem?_getD, List.getD_eq_getElem?_getD, List.getElem?_map, List.getElem?_eq_getElem hj]
  rfl
theorem cmp_same : ∀ (d j : Nat) (l : List Int), j + d = l.length → l.length ≤ 1000000 → janusref01_Words.l0 (d + 1) l l (j : Int) = some true
  | 0, j, l, h, hl => by
    rw [janusref01_Words.l0, if_neg (by omega)]
  | d + 1, j, l, h, hl => by
    have e : wrap64 ((j : Int) + 1) = ((j + 1 : Nat) : Int) := by unfold wrap64; omega
    rw [janusref01_Words.l0, if_pos (by omega), if_pos (by omega), if_pos (by omega), if_pos rfl, e]
    exact cmp_same d (j + 1) l (by omega) hl
/-- two that read alike are alike -/
theorem cmp_calls (ws : List Nat) (hl : ws.length ≤ 1000000) (A1 A2 : Option Addr) (c1 c2 : Nat) (W : World) (h1 : (Kd.int .u64).C W A1 ws.length (nw ws)) (hc1 : ws.length ≤ c1) (h2 : (Kd.int .u64).C W A2 ws.length (nw ws)) (hc2 : ws.length ≤ c2) :
    Calls Tryd.prog 19 #[.slice A1 ws.length c1, .slice A2 ws.length c2] W fun e w' => e = .returned (.bool true) ∧ Below W.heap.size W w' := by
  have hf : janusref01_Words.f (ws.length + 1) (nw ws) (nw ws) = some true := by
    unfold janusref01_Words.f
    rw [if_pos rfl]
    have := cmp_same ws.length 0 (nw ws) (by rw [nw_length]; omega) (by rw [nw_length]; exact hl)
    exact this
  have h := janusref01_Words.calls (ws.length + 1) A1 c1 (nw ws) A2 c2 (nw ws) true W (by rw [nw_length]; exact h1) (by rw [nw_length]; exact hc1) (by rw [nw_length]; exact h2) (by rw [nw_length]; exact hc2) hf
  rw [nw_length] at h
  exact h.mono fun e w' ⟨he, hd⟩ => ⟨he, hd.below⟩
/-- while the reference lays its words: the words' block -/
structure VW (w W : World) (gw : Nat) (vs : List Nat) : Prop where
  wb : W.heap[gw]? = some (.cells (cw vs) 53 (0, 0))
  hg : w.heap.size ≤ gw
  bel : Below w.heap.size w W
theorem VW.put {w W : World} {gw : Nat} {vs : List Nat} (h : VW w W gw vs) (i x : Nat) : VW w (W.setCell ⟨gw, i, none⟩ (.int .u64 (x : Int))) gw (vs.set i x) := by
  have := blk_set h.wb i (.int .u64 (x : Int))
  rw [cw_set] at this
  exact ⟨this, h.hg, below_set h.bel h.hg⟩
def padL (L : List Bool) (j : Nat) : List Bool := L.take j ++ List.replicate (L.length - j) false
theorem padL_length (L : List Bool) {j : Nat} (h : j ≤ L.length) : (padL L j).length = L.length := by
  unfold padL; rw [List.length_append, List.length_take, List.length_replicate]; omega
theorem padL_step (L : List Bool) {j : Nat} (h : j < L.length) : padL L (j + 1) = (padL L j).set j (L.getD j false) := by
  have e : L.length - j = (L.length - (j + 1)) + 1 := by omega
  have ht : (L.take j).length = j := by rw [List.length_take]; omega
  unfold padL
  rw [List.set_append_right _ _ (by omega), ht, Nat.sub_self, e, List.replicate_succ, List.set_cons_zero, List.take_succ_eq_append_getElem h, List.append_assoc, List.getD_eq_getElem?_getD, List.getElem?_eq_getElem h]
  rfl
theorem set_same {α : Type} {l : List α} {i : Nat} {a : α} (h : l[i]? = some a) : l.set i a = l := by
  refine List.ext_getElem? fun k => ?_
  rw [List.getElem?_set]
  split
  · rename_i e
    subst e
    rw [h, if_pos (List.getElem?_eq_some_iff.1 h).1]
  · rfl
theorem padL_false (L : List Bool) {j : Nat} (h : j < L.length) (h0 : L.getD j false = false) : padL L (j + 1) = padL L j := by
  rw [padL_step L h, h0]
  refine set_same ?_
  have ht : (L.take j).length = j := by rw [List.length_take]; omega
  unfold padL
  rw [List.getElem?_append_right (by omega), List.getElem?_replicate, if_pos (by omega)]
theorem padL_full (L : List Bool) : padL L L.length = L := by unfold padL; simp
def RWordsPost (w : World) (L : List Bool) (e : Ending) (w' : World) : Prop :=
  ∃ A vs c, Rep vs L ∧ e = .returned (.slice A vs.length c) ∧ vs.length ≤ c ∧ (Kd.int .u64).C w' A vs.length (nw vs) ∧ Below w.heap.size w w'
set_option maxHeartbeats 2000000 in
set_option maxRecDepth 100000 in
theorem rwords_calls (B b g : Nat) (L : List Bool) (w : World) (h : RW w B b g L) (h1024 : L.length ≤ 1024) :
    Calls Tryd.prog 21 #[.pointer (some ⟨b, 0, none⟩)] w (RWordsPost w L) := by
  have h0 := h.c0
  have hl : (L.length : Int) ≤ 1024 := by omega
  obtain ⟨K, hK⟩ : ∃ K, (L.length + 63) / 64 = K := ⟨_, rfl⟩
  have hq : ((L.length : Int) + 63) / 64 = (K : Int) := by omega
  have hmk := print_make (P := Tryd.prog) 41 53 .u64 8 Tryd.underlying41 info53 (by decide) K (by omega)
  replace h := Aside0.mk h
  replace hK := Aside0.mk hK
  go_enter Tryd.func21, Tryd.ntmps21
  go_wp2
  clear hmk hq
  go_loopg [4] L.length (fun k v4 wx => ∃ (j : Nat) (vs : List Nat), v4 = .int .i64 j ∧ j + k = L.length ∧ vs.length = K ∧ VW w wx w.heap.size vs ∧ Rep vs (padL L j))
  case atStart =>
    refine ⟨0, List.replicate K 0, rfl, by omega, List.length_replicate .., ⟨?_, Nat.le_refl _, below_alloc (Below.refl _ _) _⟩, ?_⟩
    · rw [← cw_made]; exact blk_new _ _
    · have := Rep.new L.length
      rw [hK.out] at this
      exact this
  case round =>
    clear h0
    obtain ⟨j, vs, rfl, hjk, hvl, hv, hrep⟩ := hrel
    have hr := h.out.below hv.bel
    have h0 := hr.c0
    cases gk with
    | zero =>
      have ej : j = L.length := by omega
      have hlt : ¬ (j : Int) < (L.length : Int) := by omega
      subst ej
      rw [padL_full] at hrep
      replace hv := Aside0.mk hv
      replace hvl := Aside0.mk hvl
      replace hrep := Aside0.mk hrep
      clear hjk hr
      go_wp2
      go_ret
      exact ⟨some ⟨w.heap.size, 0, none⟩, vs, K, hrep.out, by rw [hvl.out]; rfl, by rw [hvl.out]; exact Nat.le_refl _, C_blk hv.out.wb (by rw [hvl.out]; have := hK.out; omega), hv.out.bel⟩
    | succ gk =>
      have hjl : j < L.length := by omega
      have hlt : (j : Int) < (L.length : Int) := by omega
      have hc := hr.at_ hjl
      cases hx : L.getD j false with
      | false =>
        rw [hx] at hc
        have hp := Aside0.mk (padL_false L hjl hx)
        replace hjk := Aside0.mk hjk
        replace hv := Aside0.mk hv
        replace hvl := Aside0.mk hvl
        replace hrep := Aside0.mk hrep
        clear hx hjl hr
        go_wp2
        go_roundg gk
        case measure => have := hjk.out; omega
        case rel => exact ⟨j + 1, vs, by go_num, by have := hjk.out; omega, hvl.out, hv.out, by rw [hp.out]; exact hrep.out⟩
      | true =>
        rw [hx] at hc
        have hp := Aside0.mk (padL_step L hjl)
        rw [hx] at hp
        obtain ⟨q, hq⟩ : ∃ q, j / 64 = q := ⟨_, rfl⟩
        obtain ⟨r, hrr⟩ : ∃ r, j % 64 = r := ⟨_, rfl⟩
        have hql : q < vs.length := by have := hK.out; omega
        have hcq := (blk_cell hv.wb q).trans (cw_at hql)
        have hz := blk_frozen hv.wb q
        have hset := Aside0.mk (show Rep (vs.set q (setN (vs.getD q 0) r true)) (padL L (j + 1)) by
          rw [hp.out, ← hq, ← hrr]; exact hrep.set (by rw [padL_length L (by omega)]; exact hjl) true)
        have hlt64 := hrep.getD_lt q
        obtain ⟨x, hxx⟩ : ∃ x, vs.getD q 0 = x := ⟨_, rfl⟩
        rw [hxx] at hcq hset hlt64
        have e1 : (j : Int) / 64 = (q : Int) := by omega
        have e2 : (j : Int) % 64 = (r : Int) := by omega
        have hr64 : r < 64 := by omega
        have hr64' : (r : Int) < 64 := by omega
        have hr0 : (0 : Int) ≤ (r : Int) := by omega
        have hqk : (q : Int) < (K : Int) := by omega
        have hsh := shl_one r hr64
        have hp2 : (2 : Nat) ^ r < 18446744073709551616 := by rw [← p64]; exact Nat.pow_lt_pow_right (by decide) hr64
        have hor := Aside0.mk (bits_or_u64_nat x (2 ^ r) hlt64 hp2)
        replace hsh := Aside0.mk hsh
        have hset2 := Aside0.mk (show ((setN x r true : Nat) : Int) = ((x ||| 2 ^ r : Nat) : Int) from rfl)
        replace hjk := Aside0.mk hjk
        replace hv := Aside0.mk hv
        replace hvl := Aside0.mk hvl
        clear hx hjl hr hp hrep hq hrr hxx hql hp2 hlt64
        go_wp2
        go_roundg gk
        case measure => have := hjk.out; omega
        case rel =>
          refine ⟨j + 1, vs.set q (setN x r true), by go_num, by have := hjk.out; omega, by rw [List.length_set]; exact hvl.out, ?_, hset.out⟩
          have hpt := hv.out.put q (setN x r true)
          rw [hset2.out] at hpt
          rw [hsh.out, hor.out]
          exact hpt
/-! ### Of -/
theorem rof_bit (x r : Nat) (hx : x < 18446744073709551616) : (bits BinOp.and IntKind.u64 ((x : Int) / 2 ^ r) 1 == 0) = !x.testBit r := by
  have e : (x : Int) / 2 ^ r = ((x / 2 ^ r : Nat) : Int) := by rw [Int.natCast_ediv, Int.natCast_pow]; rfl
  have hle : x / 2 ^ r ≤ x := Nat.div_le_self _ _
  rw [e, show (1 : Int) = ((1 : Nat) : Int) from rfl, bits_and_u64_nat _ _ (by omega) (by decide), Nat.and_one_is_mod, Nat.testBit_eq_decide_div_mod_eq]
  rw [Bool.eq_iff_iff]
  simp only [beq_iff_eq, Bool.not_eq_true', decide_eq_false_iff_not]
  omega
def ROfPost (w : World) (n : Int) (ws : List Nat) (e : Ending) (w' : World) : Prop :=
  Below w.heap.size w w' ∧ ((¬ OkN n ws ∧ ∃ v, e = .returned (.tuple #[v, .int .i64 101])) ∨ (OkN n ws ∧ ∃ v, e = .returned (.tuple #[v, .int .i64 0])))
set_option maxHeartbeats 2000000 in
set_option maxRecDepth 100000 in
theorem rof_calls (n : Int) (hn : -9223372036854775808 ≤ n ∧ n < 9223372036854775808) (ws : List Nat) (hlt : ∀ x ∈ ws, x < 18446744073709551616) (A : Option Addr) (c : Nat) (w : World) (hr : (Kd.int .u64).C w A ws.length (nw ws)) (hc : ws.length ≤ c) :
    Calls Tryd.prog 23 #[.int .i64 n, .slice A ws.length c] w (ROfPost w n ws) := by
  have hnew := Aside0.mk (fun W => rnew_calls n W)
  replace hr := Aside0.mk hr
  replace hc := Aside0.mk hc
  replace hlt := Aside0.mk hlt
  go_enter Tryd.func23, Tryd.ntmps23
  go_upto_region 2 with (go_at_call 12; (with_reducible refine (hnew.out _).mono ?_); rintro e w1 ⟨hB1, hcase⟩; rcases hcase with ⟨hno, rfl⟩ | ⟨m, b, g, rfl, hm1, hm2, rfl, hbw⟩)
  · have hno2 := Aside0.mk hno
    have hB2 := Aside0.mk hB1
    clear hno hB1
    go_wp2
    go_ret2
    exact ⟨hB2.out, .inl ⟨fun h => by have := h.lo; have := h.hi; have := hno2.out; omega, _, rfl⟩⟩
  · obtain ⟨K, hK⟩ : ∃ K, (m + 63) / 64 = K := ⟨_, rfl⟩
    have hq : ((m : Int) + 63) / 64 = (K : Int) := by omega
    have hmm : (m : Int) ≤ 1024 := by omega
    have hB2 := Aside0.mk hB1
    have hbw2 := Aside0.mk hbw
    clear hB1 hbw
    by_cases hl : ws.length = K
    · subst hl
      have d1 : ((ws.length : Int) != (ws.length : Int)) = false := by simp
      replace hK := Aside0.mk hK
      have hl16 := Aside0.mk (show ws.length ≤ 16 by have := hK.out; omega)
      have hl16' : (ws.length : Int) ≤ 16 := by have := hl16.out; omega
      have hnov := Aside0.mk (show (∀ i, m ≤ i → i < 64 * ws.length → bitw ws i = false) → OkN (m : Int) ws from fun h => ⟨by omega, by omega, by rw [Int.toNat_natCast]; exact hK.out.symm, by
        rw [Int.toNat_natCast]
        intro ho
        obtain ⟨i, i1, i2, i3⟩ := (over_iff (by omega) hK.out.symm hlt.out).1 ho
        rw [h i i1 i2] at i3
        cases i3⟩)
      have hov := Aside0.mk (show ∀ i, m ≤ i → i < 64 * ws.length → bitw ws i = true → ¬ OkN (m : Int) ws from fun i i1 i2 i3 k => by
        have := k.over
        rw [Int.toNat_natCast] at this
        exact this ((over_iff (by omega) hK.out.symm hlt.out).2 ⟨i, i1, i2, i3⟩))
      go_wp2
      clear hq d1
      go_loopg [7] (64 * ws.length) (fun k v7 wx => ∃ (i : Nat) (L : List Bool), v7 = .int .i64 i ∧ i + k = 64 * ws.length ∧ L.length = m ∧ RW wx w.heap.size b g L ∧ Below w.heap.size w wx ∧ Aside0 (∀ j, m ≤ j → j < i → bitw ws j = false))
      case atStart => exact ⟨0, _, rfl, by omega, List.length_replicate .., hbw2.out, hB2.out, ⟨fun j _ hj => by omega⟩⟩
      case round =>
        clear hbw2 hB2
        obtain ⟨i, L, rfl, hik, hL, hrw, hB, hz⟩ := hrel
        cases gk with
        | zero =>
          have ei : i = 64 * ws.length := by omega
          have hlt2 : ¬ (i : Int) < 64 * (ws.length : Int) := by omega
          have H := Aside0.mk (hnov.out (fun j j1 j2 => hz.out j j1 (by omega)))
          have hB2 := Aside0.mk hB
          clear ei hik hL hrw hB
          go_wp2
          go_ret2
          exact ⟨hB2.out, .inr ⟨H.out, _, rfl⟩⟩
        | succ gk =>
          have hil : i < 64 * ws.length := by omega
          have hlt2 : (i : Int) < 64 * (ws.length : Int) := by omega
          obtain ⟨q, hq⟩ : ∃ q, i / 64 = q := ⟨_, rfl⟩
          obtain ⟨r, hrr⟩ : ∃ r, i % 64 = r := ⟨_, rfl⟩
          have hql : q < ws.length := by omega
          obtain ⟨ad, e, hcq⟩ := u64_at (Kd.C_below hr.out hB) hql
          subst e
          have hbit : (ws.getD q 0).testBit r = bitw ws i := by unfold bitw; rw [hq, hrr]
          have hx64 := hlt.out _ (getD_mem hql)
          obtain ⟨x, hx⟩ : ∃ x, ws.getD q 0 = x := ⟨_, rfl⟩
          rw [hx] at hcq hbit hx64
          have e1 : (i : Int) / 64 = (q : Int) := by omega
          have e2 : (i : Int) % 64 = (r : Int) := by omega
          have hr64' : (r : Int) < 64 := by omega
          have hr64 : r < 64 := by omega
          have hr0 : (0 : Int) ≤ (r : Int) := by omega
          have hqk : (q : Int) < (ws.length : Int) := by omega
          have hi2 : (i : Int) ≤ 2000 := by omega
          have hrb := rof_bit x r hx64
          rw [hbit] at hrb
          have hB2 := Aside0.mk hB
          replace hik := Aside0.mk hik
          cases hb : bitw ws i with
          | false =>
            rw [hb] at hrb
            have d3 : (bits BinOp.and IntKind.u64 ((x : Int) / 2 ^ r) 1 == 0) = true := hrb
            have hz2 := Aside0.mk (show ∀ j, m ≤ j → j < i + 1 → bitw ws j = false from fun j j1 j2 => by
              by_cases e : j = i
              · rw [e]; exact hb
              · exact hz.out j j1 (by omega))
            replace hL := Aside0.mk hL
            replace hrw := Aside0.mk hrw
            clear hq hrr hql hbit hx hx64 hrb hb hil hB
            go_wp2
            go_roundg gk
            case measure => have := hik.out; omega
            case rel => exact ⟨i + 1, L, by go_num, by have := hik.out; omega, hL.out, hrw.out, hB2.out, hz2⟩
          | true =>
            rw [hb] at hrb
            have d3 : (bits BinOp.and IntKind.u64 ((x : Int) / 2 ^ r) 1 == 0) = false := hrb
            by_cases him : i < m
            · have d4 : decide ((m : Int) ≤ (i : Int)) = false := decide_eq_false (by omega)
              have d4n : decide (m ≤ i) = false := decide_eq_false (by omega)
              have h0 := hrw.c0
              have hci := hrw.at_ (i := i) (by omega)
              have hfz := hrw.fz i
              obtain ⟨y, hy⟩ : ∃ y, L.getD i false = y := ⟨_, rfl⟩
              rw [hy] at hci
              rw [hL] at h0
              have him2 : (i : Int) < (m : Int) := by omega
              have hz2 := Aside0.mk (show ∀ j, m ≤ j → j < i + 1 → bitw ws j = false from fun j j1 j2 => by omega)
              replace hL := Aside0.mk hL
              replace hrw := Aside0.mk hrw
              clear hq hrr hql hbit hx hx64 hrb hb hil hB hy him
              go_wp2
              go_roundg gk
              case measure => have := hik.out; omega
              case rel => exact ⟨i + 1, L.set i true, by go_num, by have := hik.out; omega, by rw [List.length_set]; exact hL.out, hrw.out.put i true, below_set hB2.out hrw.out.hg, hz2⟩
            · have d4 : decide ((m : Int) ≤ (i : Int)) = true := decide_eq_true (by omega)
              have d4n : decide (m ≤ i) = true := decide_eq_true (by omega)
              have H := Aside0.mk (hov.out i (by omega) hil hb)
              replace hL := Aside0.mk hL
              replace hrw := Aside0.mk hrw
              clear hq hrr hql hbit hx hx64 hrb hb hil hB him
              go_wp2
              go_ret2
              exact ⟨hB2.out, .inl ⟨H.out, _, rfl⟩⟩
    · have d1 : ((ws.length : Int) != (K : Int)) = true := by rw [bne_iff_ne]; omega
      have d2 : (ws.length != K) = true := by rw [bne_iff_ne]; exact hl
      have hl2 := Aside0.mk hl
      replace hK := Aside0.mk hK
      clear hl
      go_wp2
      go_ret2
      exact ⟨hB2.out, .inl ⟨fun h => hl2.out (by have := h.len; have := hK.out; rw [Int.toNat_natCast] at *; omega), _, rfl⟩⟩
end Go.Proofs.YtmfabgdgpdgdiaaDoor.Q
