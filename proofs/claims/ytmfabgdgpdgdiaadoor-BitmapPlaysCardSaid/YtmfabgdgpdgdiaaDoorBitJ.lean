/- januslaw14.BitmapTakes, walked. -/
import Derived.Test.YtmfabgdgpdgdiaaDoorBitI
namespace Go.Proofs.YtmfabgdgpdgdiaaDoor.Q
open Go.RowKit Go.Proofs.YtmfabgdgpdgdiaaDoor.Bit Go.Proofs.YtmfabgdgpdgdiaaDoorW.PrintWords Go.Proofs.YtmfabgdgpdgdiaaDoorW.PrintLast Go.Proofs.YtmfabgdgpdgdiaaDoorW.PrintMore
attribute [local go_sem] max2_int min2_int max_two min_two max_three min_three max_four min_four   -- for this text's walks alone
set_option linter.unusedVariables false
set_option linter.unusedSimpArgs false
theorem new_at {w W : World} (h : Ok0 w) (hb : Below w.heap.size w W) (m : Nat) (h1 : 1 ≤ m) (h2 : m ≤ 1024) : Calls Tryd.prog 7 #[.int .i64 (m : Int)] W fun e W' => ∃ b g, e = .returned (.pointer (some ⟨b, 0, none⟩)) ∧ Sc w W' b g m (List.replicate m false) := by
  refine (new_calls m W).mono fun e W' ⟨hb', hc⟩ => ?_
  rcases hc with ⟨hh, _⟩ | ⟨m', b, g, hm, _, _, he, hbw⟩
  · omega
  · obtain rfl : m' = m := by omega
    refine ⟨b, g, he, ?_⟩
    have hs := hb.size
    exact ⟨⟨_, ⟨hbw.pb, hbw.wb, Nat.le_trans hs hbw.hb, Nat.le_trans hs hbw.hg⟩, Rep.new m'⟩, List.length_replicate .., h2, below_step hb hb', tab_below (h.below hb).tab hb', h.pos⟩
/-- a row of bools that the call made -/
structure FB (w W : World) (gf : Nat) (F : List Bool) : Prop where
  wb : W.heap[gf]? = some (.cells (cb F) 4 (0, 0))
  hg : w.heap.size ≤ gf
theorem FB.at_ {w W : World} {gf : Nat} {F : List Bool} (h : FB w W gf F) {i : Nat} (hi : i < F.length) : W.cell? ⟨gf, i, none⟩ = some (.bool (F.getD i false)) := (blk_cell h.wb i).trans (cb_at hi)
theorem FB.fz {w W : World} {gf : Nat} {F : List Bool} (h : FB w W gf F) (i : Nat) : W.frozen? ⟨gf, i, none⟩ = false := blk_frozen h.wb i
theorem FB.put {w W : World} {gf : Nat} {F : List Bool} (h : FB w W gf F) (i : Nat) (x : Bool) : FB w (W.setCell ⟨gf, i, none⟩ (.bool x)) gf (F.set i x) := by
  have := blk_set h.wb i (.bool x)
  rw [cb_set] at this
  exact ⟨this, h.hg⟩
theorem FB.grown {w W W' : World} {gf : Nat} {F : List Bool} {row : Option Nat} (h : FB w W gf F) (hg : W.grownBy W' row) (hne : some gf ≠ row) : FB w W' gf F := ⟨blk_grown h.wb hg hne, h.hg⟩
theorem FB.below {w W W' : World} {gf : Nat} {F : List Bool} (h : FB w W gf F) (hb : Below W.heap.size W W') : FB w W' gf F := h.grown (grown_of_below hb none) (by simp)
theorem FB.ne_w {w W : World} {b g n gf : Nat} {L F : List Bool} (h : FB w W gf F) (s : Sc w W b g n L) : gf ≠ b ∧ gf ≠ g := by
  obtain ⟨ws, h1, _⟩ := s.bm
  exact ⟨blk_ne h.wb h1.pb (by decide), blk_ne h.wb h1.wb (by decide)⟩
theorem Sc.putF {w W : World} {b g n gf : Nat} {L F : List Bool} (s : Sc w W b g n L) (h : FB w W gf F) (i : Nat) (x : Bool) : Sc w (W.setCell ⟨gf, i, none⟩ (.bool x)) b g n L := by
  obtain ⟨h1, h2⟩ := h.ne_w s
  exact s.other gr_set h.hg (fun e => h1 e.symm) (fun e => h2 e.symm)
theorem clamp (n : Int) : ∃ m : Nat, (if 1 < if 1024 < n then 1024 else n then if 1024 < n then 1024 else n else 1) = (m : Int) ∧ 1 ≤ m ∧ m ≤ 1024 := by
  by_cases h1 : 1024 < n
  · exact ⟨1024, by rw [if_pos h1]; rfl, by decide, by decide⟩
  · by_cases h2 : 1 < n
    · exact ⟨n.toNat, by rw [if_neg h1, if_pos h2]; omega, by omega, by omega⟩
    · exact ⟨1, by rw [if_neg h1, if_neg h2]; rfl, by decide, by decide⟩
theorem arg_at {w W : World} {ad : Addr} {us : List Int} (h : (Kd.int .i64).C w (some ad) us.length us) (hb : Below w.heap.size w W) {j : Nat} (hj : j < us.length) : W.cell? (ad.add j) = some (.int .i64 (us.getD j 0)) := by
  obtain ⟨ad', e, hc⟩ := Kd.at_int (Kd.C_below h hb) (j : Int) (by omega) (by omega)
  cases e
  unfold rd at hc
  rw [Int.toNat_natCast] at hc
  exact hc
def trueL (m j : Nat) : List Bool := List.replicate j true ++ List.replicate (m - j) false
theorem trueL_length {m j : Nat} (h : j ≤ m) : (trueL m j).length = m := by unfold trueL; simp; omega
theorem trueL_step {m j : Nat} (h : j < m) : (trueL m j).set j true = trueL m (j + 1) := by
  have e : m - j = (m - (j + 1)) + 1 := by omega
  unfold trueL
  rw [List.set_append_right _ _ (by simp), List.length_replicate, Nat.sub_self, e, List.replicate_succ, List.set_cons_zero, List.replicate_succ', List.append_assoc]
  rfl
theorem trueL_full (m : Nat) : trueL m m = (List.replicate m false).map (fun b => !b) := by unfold trueL; simp
theorem not_set (L : List Bool) (k : Nat) : (L.map fun b => !b).set k false = (L.set k true).map fun b => !b := by rw [List.map_set]; rfl
theorem not_get (L : List Bool) {k : Nat} (h : k < L.length) : (L.map fun b => !b).getD k false = !L.getD k false := by
  rw [List.getD_eq_getElem?_getD, List.getElem?_map, List.getD_eq_getElem?_getD, List.getElem?_eq_getElem h]
  rfl
def upL (L : List Bool) (j : Nat) : List Bool := List.replicate j true ++ L.drop j
theorem upL_length (L : List Bool) {j : Nat} (h : j ≤ L.length) : (upL L j).length = L.length := by unfold upL; simp; omega
theorem upL_get (L : List Bool) (j i : Nat) : (upL L j).getD i false = if i < j then true else L.getD i false := by
  unfold upL
  rw [List.getD_eq_getElem?_getD, List.getD_eq_getElem?_getD]
  by_cases h : i < j
  · rw [List.getElem?_append_left (by simpa using h), List.getElem?_replicate, if_pos h, if_pos h]; rfl
  · rw [List.getElem?_append_right (by simp; omega), if_neg h, List.length_replicate, List.getElem?_drop]
    congr 2
    omega
theorem bools_eq {a b : List Bool} (hl : a.length = b.length) (h : ∀ i, a.getD i false = b.getD i false) : a = b := by
  refine List.ext_getElem hl fun i h1 h2 => ?_
  have := h i
  rw [List.getD_eq_getElem?_getD, List.getD_eq_getElem?_getD, List.getElem?_eq_getElem h1, List.getElem?_eq_getElem h2] at this
  exact this
theorem upL_true (L : List Bool) {j : Nat} (h : j < L.length) (h1 : L.getD j false = true) : upL L j = upL L (j + 1) :=
  bools_eq (by rw [upL_length L (by omega), upL_length L (by omega)]) fun i => by
    rw [upL_get, upL_get]
    by_cases e : i = j
    · subst e; simp only [Nat.lt_irrefl, if_false, if_pos (Nat.lt_succ_self i)]; exact h1
    · by_cases hi : i < j
      · rw [if_pos hi, if_pos (by omega)]
      · rw [if_neg hi, if_neg (by omega)]
theorem upL_false (L : List Bool) {j : Nat} (h : j < L.length) (h1 : L.getD j false = false) : ff (upL L j) = j ∧ (upL L j).set j true = upL L (j + 1) := by
  refine ⟨ff_of (by rw [upL_length L (by omega)]; exact h) (by rw [upL_get, if_neg (Nat.lt_irrefl j)]; exact h1) (fun i hi => by rw [upL_get, if_pos hi]), bools_eq (by rw [List.length_set, upL_length L (by omega), upL_length L (by omega)]) fun i => ?_⟩
  rw [upL_get]
  by_cases e : i = j
  · subst e
    rw [if_pos (Nat.lt_succ_self i), List.getD_eq_getElem?_getD, List.getElem?_set_self (by rw [upL_length L (by omega)]; exact h)]
    rfl
  · rw [List.getD_eq_getElem?_getD, List.getElem?_set_ne (fun h => e h.symm), ← List.getD_eq_getElem?_getD, upL_get]
    by_cases hi : i < j
    · rw [if_pos hi, if_pos (by omega)]
    · rw [if_neg hi, if_neg (by omega)]
theorem upL_zero (L : List Bool) : upL L 0 = L := by unfold upL; simp
theorem upL_full (L : List Bool) : upL L L.length = List.replicate L.length true := by unfold upL; simp
theorem full_take (m : Nat) : takeR (List.replicate m true) = -1 ∧ (List.replicate m true).set (ff (List.replicate m true)) true = List.replicate m true ∧ (leftN (List.replicate m true) : Int) = 0 := by
  have hf : ff (List.replicate m true) = (List.replicate m true).length := ff_none fun j hj => by
    rw [List.getD_eq_getElem?_getD, List.getElem?_eq_getElem hj]; simp
  refine ⟨by unfold takeR; rw [if_neg (by rw [hf]; omega)], set_ff_none hf true, ?_⟩
  unfold leftN
  rw [List.countP_replicate]
  rfl
set_option maxHeartbeats 4000000 in
set_option maxRecDepth 100000 in
theorem takes_calls (n : Int) (hn : -9223372036854775808 ≤ n ∧ n < 9223372036854775808) (us : List Int) (A : Option Addr) (c : Nat) (w : World) (h : Ok0 w) (hr : (Kd.int .i64).C w A us.length us) (hc : us.length ≤ c) :
    Calls Tryd.prog 3 #[.int .i64 n, .slice A us.length c] w (TruePost w) := by
  have hw := Aside0.mk h
  have hr2 := Aside0.mk hr
  have hc2 := Aside0.mk hc
  clear h hr hc
  obtain ⟨m, hm, h1, h2⟩ := clamp n
  replace hm := Aside0.mk hm
  go_enter Tryd.func3, Tryd.ntmps3
  go_upto_region 2 with fail
  rw [hm.out]
  clear hm
  obtain ⟨z, hz⟩ : ∃ z : Int, (if 1024 < n then 1024 else n) = z := ⟨_, rfl⟩
  rw [hz]
  clear hz
  have hmk := make_bools m (by omega)
  have hb1 : (1 : Int) ≤ (m : Int) := by omega
  have hb2 : (m : Int) ≤ 1024 := by omega
  go_wp2_with (go_at_call 7; (with_reducible refine (new_at hw.out (Below.refl _ _) m h1 h2).mono ?_); rintro e w1 ⟨b, g, rfl, hS⟩; replace hS := Aside0.mk hS)
  have hS1 := Aside0.mk (hS.out.alloc (.cells (madeCells #[.bool false] m) 4))
  have hF1 : FB w (w1.alloc (.cells (madeCells #[.bool false] m) 4)) w1.heap.size (trueL m 0) := by
    have hb := blk_new w1 (.cells (madeCells #[.bool false] m) 4)
    rw [cb_made] at hb
    refine ⟨?_, hS.out.bel.size⟩
    unfold trueL
    rw [cb_made]
    exact hb
  replace hF1 := Aside0.mk hF1
  obtain ⟨gf, hgf⟩ : ∃ gf, w1.heap.size = gf := ⟨_, rfl⟩
  rw [hgf] at hF1 ⊢
  clear hgf hmk hS
  go_loopg [7] m (fun k v7 wx => ∃ j : Nat, v7 = .int .i64 j ∧ j + k = m ∧ Sc w wx b g m (List.replicate m false) ∧ FB w wx gf (trueL m j))
  case atStart => exact ⟨0, rfl, by omega, hS1.out, hF1.out⟩
  case round =>
    clear hS1 hF1
    obtain ⟨j, rfl, hjk, hS, hF⟩ := hrel
    cases gk with
    | succ gk =>
      have hjm : j < m := by omega
      have hlt : (j : Int) < (m : Int) := by omega
      have hc := hF.at_ (i := j) (by rw [trueL_length (by omega)]; exact hjm)
      have hz := hF.fz j
      obtain ⟨y, hy⟩ : ∃ y, (trueL m j).getD j false = y := ⟨_, rfl⟩
      rw [hy] at hc
      have hst := Aside0.mk (trueL_step hjm)
      have hS2 := Aside0.mk (hS.putF hF j true)
      have hF2 := Aside0.mk (hF.put j true)
      rw [hst.out] at hF2
      replace hjk := Aside0.mk hjk
      clear hy hS hF hjm
      go_wp2
      go_roundg gk
      case measure => have := hjk.out; omega
      case rel => exact ⟨j + 1, by go_num, by have := hjk.out; omega, hS2.out, hF2.out⟩
    | zero =>
      have ej : j = m := by omega
      have hlt : ¬ (j : Int) < (m : Int) := by omega
      subst ej
      have hS2 := Aside0.mk hS
      have hF2 := Aside0.mk hF
      rw [trueL_full] at hF2
      clear hjk hS hF
      rename World => wa
      obtain ⟨Nn, hNn⟩ : ∃ Nn, min us.length 200 = Nn := ⟨_, rfl⟩
      go_wp2
      go_loopg [8] Nn (fun k v8 wx => ∃ (i : Nat) (L : List Bool), v8 = .int .i64 i ∧ i + k = Nn ∧ Sc w wx b g j L ∧ FB w wx gf (L.map fun b => !b))
      case atStart => exact ⟨0, _, rfl, by omega, hS2.out, hF2.out⟩
      case round =>
        clear hS2 hF2
        obtain ⟨i, L, rfl, hik, hS, hF⟩ := hrel
        cases gk with
        | succ gk =>
          have hiu : i < us.length := by omega
          have hi2 : i < 200 := by omega
          have d1 : decide ((i : Int) < (us.length : Int)) = true := decide_eq_true (by omega)
          have d2 : (i : Int) < 200 := by omega
          have hlt2 : (i : Int) < (us.length : Int) := by omega
          obtain ⟨ad, e, -⟩ := Kd.at_int (Kd.C_below hr2.out hS.bel) (i : Int) (by omega) (by omega)
          subst e
          have hcu := arg_at hr2.out hS.bel hiu
          have hcu2 := Aside0.mk (fun (W : World) (hb : Below w.heap.size w W) => arg_at hr2.out hb hiu)
          obtain ⟨u, hu⟩ : ∃ u, us.getD i 0 = u := ⟨_, rfl⟩
          rw [hu] at hcu hcu2
          replace hik := Aside0.mk hik
          replace hNn := Aside0.mk hNn
          clear hu hiu hi2
          by_cases hin : 0 ≤ u ∧ u < (j : Int)
          · obtain ⟨k, rfl⟩ := Int.eq_ofNat_of_zero_le hin.1
            have hkj : k < j := by omega
            have d3 : decide ((k : Int) < 0) = false := decide_eq_false (by omega)
            have d4 : decide ((j : Int) ≤ (k : Int)) = false := decide_eq_false (by omega)
            have hkL := Aside0.mk (show k < (L.map fun b => !b).length by rw [List.length_map, hS.ln]; exact hkj)
            have hkj2 : (k : Int) < (j : Int) := by omega
            have hF2 := Aside0.mk hF
            have hS2 := Aside0.mk hS
            have hkj3 := Aside0.mk hkj
            have hns := Aside0.mk (not_set L k)
            clear hin hS hF hkj
            go_wp2_with (go_at_call 8; (with_reducible refine (hS2.out.mark _ k rfl hkj3.out true).mono ?_); rintro e w2 ⟨rfl, hS3, hg3⟩; (have hcu3 := hcu2.out _ hS3.bel); (have hF3 := hF2.out.grown hg3 (by have := (hF2.out.ne_w hS2.out).2; simpa using this)); (have hcf := hF3.at_ hkL.out); (have hzf := hF3.fz k); replace hF3 := Aside0.mk hF3; replace hS3 := Aside0.mk hS3; clear hg3)
            have hF4 := hF3.out.put k false
            rw [hns.out] at hF4
            go_roundg gk
            case measure => have := hik.out; omega
            case rel => exact ⟨i + 1, _, by go_num, by have := hik.out; omega, hS3.out.putF hF3.out k false, hF4⟩
          · have hout := Aside0.mk (show inB j u = false from decide_eq_false hin)
            have hF2 := Aside0.mk hF
            have hS2 := Aside0.mk hS
            clear hin hS hF
            go_wp2_with (go_at_call 8; (with_reducible refine (hS2.out.mark_out _ hout.out true).mono ?_); rintro e w2 ⟨rfl, rfl⟩)
            go_roundg gk
            case measure => have := hik.out; omega
            case rel => exact ⟨i + 1, L, by go_num, by have := hik.out; omega, hS2.out, hF2.out⟩
        | zero =>
          have hS2 := Aside0.mk hS
          have hF2 := Aside0.mk hF
          have hL0 := Aside0.mk hS.ln
          clear hS hF
          have hcond : (decide ((i : Int) < (us.length : Int)) = true ∧ decide (i < us.length) = true ∧ ¬ (i : Int) < 200) ∨ (decide ((i : Int) < (us.length : Int)) = false ∧ decide (i < us.length) = false) := by
            by_cases hiu : i < us.length
            · exact .inl ⟨decide_eq_true (by omega), decide_eq_true hiu, by omega⟩
            · exact .inr ⟨decide_eq_false (by omega), decide_eq_false hiu⟩
          clear hik hNn
          rcases hcond with ⟨d1, d1n, d2⟩ | ⟨d1, d1n⟩
          all_goals
            go_wp2
            go_loopg [9] j (fun k v9 wx => ∃ q : Nat, v9 = .int .i64 q ∧ q + k = j ∧ Sc w wx b g j (upL L q) ∧ FB w wx gf (L.map fun b => !b))
            case atStart => exact ⟨0, rfl, by omega, by rw [upL_zero]; exact hS2.out, hF2.out⟩
            case round =>
              clear hS2 hF2
              obtain ⟨q, rfl, hqk, hS, hF⟩ := hrel
              cases gk with
              | succ gk =>
                have hqj : q < j := by omega
                have hqL : q < L.length := by rw [hL0.out]; exact hqj
                have hlt3 : (q : Int) < (j : Int) := by omega
                have hc := hF.at_ (i := q) (by rw [List.length_map]; exact hqL)
                rw [not_get L hqL] at hc
                replace hqk := Aside0.mk hqk
                have hF2 := Aside0.mk hF
                have hS2 := Aside0.mk hS
                cases hx : L.getD q false with
                | true =>
                  rw [hx] at hc
                  have hup := Aside0.mk (upL_true L hqL hx)
                  clear hx hS hF hqj hqL
                  go_wp2
                  go_roundg gk
                  case measure => have := hqk.out; omega
                  case rel => exact ⟨q + 1, by go_num, by have := hqk.out; omega, by rw [← hup.out]; exact hS2.out, hF2.out⟩
                | false =>
                  rw [hx] at hc
                  have hup := Aside0.mk (upL_false L hqL hx)
                  have htk := Aside0.mk (show takeR (upL L q) = (q : Int) by unfold takeR; rw [hup.out.1, if_pos (by rw [upL_length L (by omega)]; exact hqL)])
                  have hset := Aside0.mk (show (upL L q).set (ff (upL L q)) true = upL L (q + 1) by rw [hup.out.1]; exact hup.out.2)
                  clear hx hS hF hqj hqL hup
                  go_wp2_with (go_at_call 9; (with_reducible refine (hS2.out.take _ _ htk.out hset.out).mono ?_); rintro e w2 ⟨rfl, hS3, hg3⟩; (have hF3 := Aside0.mk (hF2.out.grown hg3 (by have := (hF2.out.ne_w hS2.out).2; simpa using this))); replace hS3 := Aside0.mk hS3; clear hg3)
                  go_roundg gk
                  case measure => have := hqk.out; omega
                  case rel => exact ⟨q + 1, by go_num, by have := hqk.out; omega, hS3.out, hF3.out⟩
              | zero =>
                have eq : q = j := by omega
                have hlt3 : ¬ (q : Int) < (j : Int) := by omega
                have hfull := full_take j
                have hul : upL L q = List.replicate j true := by rw [eq, ← hL0.out]; exact upL_full L
                have hSf := hS
                rw [hul] at hSf
                replace hSf := Aside0.mk hSf
                replace hfull := Aside0.mk hfull
                clear hS hF hqk eq hul
                go_wp2_with (first
                  | (go_at_call 9; (with_reducible refine (hSf.out.take _ _ hfull.out.1 hfull.out.2.1).mono ?_); rintro e w2 ⟨rfl, hS3, -⟩; replace hS3 := Aside0.mk hS3)
                  | (go_at_call 10; (with_reducible refine (hS3.out.left _ hfull.out.2.2).mono ?_); rintro e w3 ⟨rfl, rfl⟩)
                  | (go_at_call 11; (with_reducible refine (awake_at hw.out hS3.out.bel).mono ?_); rintro e w4 ⟨rfl, hB⟩; replace hB := Aside0.mk hB))
                go_ret
                exact ⟨rfl, hB.out⟩
end Go.Proofs.YtmfabgdgpdgdiaaDoor.Q
