/- The reference's bitmap, walked. -/
import Derived.Test.YtmfabgdgpdgdiaaDoorBitE
namespace Go.Proofs.YtmfabgdgpdgdiaaDoor.Q
open Go.RowKit Go.Proofs.YtmfabgdgpdgdiaaDoor.Bit Go.Proofs.YtmfabgdgpdgdiaaDoorW.PrintWords Go.Proofs.YtmfabgdgpdgdiaaDoorW.PrintLast Go.Proofs.YtmfabgdgpdgdiaaDoorW.PrintMore
set_option linter.unusedVariables false
set_option linter.unusedSimpArgs false
theorem make_bools (m : Nat) (hm : m ≤ 281474976710656) (W : World) : (Instr.makeSlice 25 (.int .i64 (m : Int)) (.int .i64 (m : Int))).run Tryd.prog W = .ok (.slice (some ⟨W.heap.size, 0, none⟩) m m) (W.alloc (.cells (madeCells #[.bool false] m) 4)) :=
  run_make_row' 25 4 (.bool false) 1 Tryd.underlying25 info4 rfl .i64 .i64 m (by omega) (by omega) W
def RNewPost (w : World) (n : Int) (e : Ending) (w' : World) : Prop :=
  Below w.heap.size w w' ∧ (((n < 1 ∨ 1024 < n) ∧ e = .returned (.pointer none)) ∨ ∃ (m b g : Nat), n = m ∧ 1 ≤ m ∧ m ≤ 1024 ∧ e = .returned (.pointer (some ⟨b, 0, none⟩)) ∧ RW w' w.heap.size b g (List.replicate m false))
set_option maxRecDepth 100000 in
theorem rnew_calls (n : Int) (w : World) : Calls Tryd.prog 12 #[.int .i64 n] w (RNewPost w n) := by
  by_cases h1 : n < 1
  · have d1 : decide (n < 1) = true := decide_eq_true h1
    have H := Aside0.mk h1
    clear h1
    go_enter Tryd.func12, Tryd.ntmps12
    go_wp2
    go_ret
    exact ⟨Below.refl _ _, .inl ⟨.inl H.out, rfl⟩⟩
  · have d1 : decide (n < 1) = false := decide_eq_false h1
    by_cases h2 : 1024 < n
    · have d2 : decide (1024 < n) = true := decide_eq_true h2
      have H := Aside0.mk h2
      clear h1 h2
      go_enter Tryd.func12, Tryd.ntmps12
      go_wp2
      go_ret
      exact ⟨Below.refl _ _, .inl ⟨.inr H.out, rfl⟩⟩
    · have d2 : decide (1024 < n) = false := decide_eq_false h2
      obtain ⟨m, rfl⟩ := Int.eq_ofNat_of_zero_le (show 0 ≤ n by omega)
      have H := Aside0.mk (show 1 ≤ m ∧ m ≤ 1024 by omega)
      have hmk := make_bools m (by omega)
      clear h1 h2
      go_enter Tryd.func12, Tryd.ntmps12
      go_wp2
      go_ret
      have e1 : (List.replicate m false).length = m := List.length_replicate ..
      have b1 := blk_alloc (blk_new w (.cells (madeCells #[.bool false] m) 4)) (.cells #[.slice (some ⟨w.heap.size, 0, none⟩) m m] 39)
      have b2 := blk_new (w.alloc (.cells (madeCells #[.bool false] m) 4)) (.cells #[.slice (some ⟨w.heap.size, 0, none⟩) m m] 39)
      rw [cb_made] at b1
      refine ⟨below_alloc (below_alloc (Below.refl _ _) _) _, .inr ⟨m, w.heap.size + 1, w.heap.size, rfl, H.out.1, H.out.2, rfl, ⟨?_, ?_, by omega, Nat.le_refl _⟩⟩⟩
      · rw [e1]
        simpa using b2
      · rw [cb_made]
        exact b1
theorem rused_calls (B b g : Nat) (L : List Bool) (i : Int) (w : World) (h : RW w B b g L) (h1024 : L.length ≤ 1024) :
    Calls Tryd.prog 16 #[.pointer (some ⟨b, 0, none⟩), .int .i64 i] w fun e w' => e = .returned (.bool (inB L.length i && L.getD i.toNat false)) ∧ w' = w := by
  have h0 := h.c0
  by_cases h1 : 0 ≤ i
  · have d1 : decide (0 ≤ i) = true := decide_eq_true h1
    by_cases h2 : i < (L.length : Int)
    · obtain ⟨k, rfl⟩ := Int.eq_ofNat_of_zero_le h1
      have H := Aside0.mk (show inB L.length (k : Int) = true from decide_eq_true ⟨h1, h2⟩)
      have hc := h.at_ (i := k) (by omega)
      have d2 : decide ((k : Int) < (L.length : Int)) = true := decide_eq_true h2
      obtain ⟨x, hx⟩ : ∃ x, L.getD k false = x := ⟨_, rfl⟩
      rw [hx] at hc
      replace hx := Aside0.mk hx
      replace h := Aside0.mk h
      clear h1 d1
      go_enter Tryd.func16, Tryd.ntmps16
      go_wp2
      go_ret
      exact ⟨by rw [H.out, Int.toNat_natCast, hx.out]; rfl, rfl⟩
    · have H := Aside0.mk (show inB L.length i = false from decide_eq_false (fun h => h2 h.2))
      have d2 : decide (i < (L.length : Int)) = false := decide_eq_false h2
      replace h := Aside0.mk h
      clear h1 h2
      go_enter Tryd.func16, Tryd.ntmps16
      go_wp2
      go_ret
      exact ⟨by rw [H.out]; rfl, rfl⟩
  · have d1 : decide (0 ≤ i) = false := decide_eq_false h1
    have H := Aside0.mk (show inB L.length i = false from decide_eq_false (fun h => h1 h.1))
    replace h := Aside0.mk h
    clear h1
    go_enter Tryd.func16, Tryd.ntmps16
    go_wp2
    go_ret
    exact ⟨by rw [H.out]; rfl, rfl⟩
theorem rmark_out (B b g : Nat) (L : List Bool) (i : Int) (u : Bool) (w : World) (h : RW w B b g L) (hi : inB L.length i = false) :
    Calls Tryd.prog 14 #[.pointer (some ⟨b, 0, none⟩), .int .i64 i, .bool u] w fun e w' => e = .returned (.int .i64 101) ∧ w' = w := by
  have h0 := h.c0
  have hno : ¬ (0 ≤ i ∧ i < (L.length : Int)) := of_decide_eq_false hi
  replace h := Aside0.mk h
  replace hi := Aside0.mk hi
  by_cases h1 : 0 ≤ i
  · have d1 : decide (i < 0) = false := decide_eq_false (by omega)
    have d2 : decide ((L.length : Int) ≤ i) = true := decide_eq_true (by omega)
    clear hno h1
    go_enter Tryd.func14, Tryd.ntmps14
    go_wp2
    go_ret
    exact ⟨rfl, rfl⟩
  · have d1 : decide (i < 0) = true := decide_eq_true (by omega)
    clear hno h1
    go_enter Tryd.func14, Tryd.ntmps14
    go_wp2
    go_ret
    exact ⟨rfl, rfl⟩
theorem rmark_calls (B b g : Nat) (L : List Bool) (k : Nat) (u : Bool) (w : World) (h : RW w B b g L) (hk : k < L.length) (h1024 : L.length ≤ 1024) :
    Calls Tryd.prog 14 #[.pointer (some ⟨b, 0, none⟩), .int .i64 (k : Int), .bool u] w fun e w' => e = .returned (.int .i64 0) ∧ RW w' B b g (L.set k u) ∧ w.grownBy w' (some g) := by
  have h0 := h.c0
  have hc := h.at_ hk
  have hz := h.fz k
  obtain ⟨x, hx⟩ : ∃ x, L.getD k false = x := ⟨_, rfl⟩
  rw [hx] at hc
  clear hx
  replace h := Aside0.mk h
  have d1 : decide ((k : Int) < 0) = false := decide_eq_false (by omega)
  have d2 : decide ((L.length : Int) ≤ (k : Int)) = false := decide_eq_false (by omega)
  have hk2 : (k : Int) < (L.length : Int) := by omega
  clear hk
  go_enter Tryd.func14, Tryd.ntmps14
  go_wp2
  go_ret
  exact ⟨rfl, h.out.put k u, gr_set⟩
def RTakePost (w : World) (B b g : Nat) (L : List Bool) (e : Ending) (w' : World) : Prop :=
  e = .returned (.int .i64 (takeR L)) ∧ RW w' B b g (L.set (ff L) true) ∧ w.grownBy w' (some g)
set_option maxHeartbeats 1000000 in
set_option maxRecDepth 100000 in
theorem rtake_calls (B b g : Nat) (L : List Bool) (w : World) (h : RW w B b g L) (h1024 : L.length ≤ 1024) :
    Calls Tryd.prog 13 #[.pointer (some ⟨b, 0, none⟩)] w (RTakePost w B b g L) := by
  have h0 := h.c0
  have hl : (L.length : Int) ≤ 1024 := by omega
  replace h := Aside0.mk h
  go_enter Tryd.func13, Tryd.ntmps13
  go_wp2
  go_loopg [3] L.length (fun k v3 wx => ∃ j : Nat, v3 = .int .i64 j ∧ j + k = L.length ∧ Aside0 (∀ i, i < j → L.getD i false = true) ∧ w = wx)
  case atStart => exact ⟨0, rfl, by omega, ⟨fun i hi => by omega⟩, rfl⟩
  case round =>
    obtain ⟨j, rfl, hjk, hu, rfl⟩ := hrel
    cases gk with
    | zero =>
      have ej : j = L.length := by omega
      have hall := Aside0.mk (ff_none (fun i hi => hu.out i (by omega)))
      have hlt : ¬ (j : Int) < (L.length : Int) := by omega
      clear ej hjk
      go_wp2
      go_ret
      exact ⟨by unfold takeR; rw [if_neg (by rw [hall.out]; omega)]; rfl, by rw [set_ff_none hall.out]; exact h.out, World.grownBy.refl _ _⟩
    | succ gk =>
      have hjl : j < L.length := by omega
      have hlt : (j : Int) < (L.length : Int) := by omega
      have hc := h.out.at_ hjl
      have hz := h.out.fz j
      cases hx : L.getD j false with
      | false =>
        rw [hx] at hc
        have hff := Aside0.mk (ff_of hjl hx hu.out)
        have hjl2 := Aside0.mk hjl
        clear hx hjk hjl
        go_wp2
        go_ret
        exact ⟨ret_i64 (by unfold takeR; rw [hff.out, if_pos hjl2.out]), by rw [hff.out]; exact h.out.put j true, gr_set⟩
      | true =>
        rw [hx] at hc
        have hu2 := Aside0.mk (show ∀ i, i < j + 1 → L.getD i false = true from fun i hi => by
          by_cases e : i = j
          · rw [e]; exact hx
          · exact hu.out i (by omega))
        replace hjk := Aside0.mk hjk
        clear hx hjl
        go_wp2
        go_roundg gk
        case measure => have := hjk.out; omega
        case rel => exact ⟨j + 1, by go_num, by have := hjk.out; omega, hu2, rfl⟩
set_option maxHeartbeats 1000000 in
set_option maxRecDepth 100000 in
theorem rleft_calls (B b g : Nat) (L : List Bool) (w : World) (h : RW w B b g L) (h1024 : L.length ≤ 1024) :
    Calls Tryd.prog 18 #[.pointer (some ⟨b, 0, none⟩)] w fun e w' => e = .returned (.int .i64 (leftN L : Nat)) ∧ w' = w := by
  have h0 := h.c0
  have hl : (L.length : Int) ≤ 1024 := by omega
  replace h := Aside0.mk h
  go_enter Tryd.func18, Tryd.ntmps18
  go_wp2
  go_loopg [3, 4] L.length (fun k v3 v4 wx => ∃ j s : Nat, v4 = .int .i64 j ∧ j + k = L.length ∧ v3 = .int .i64 (s : Int) ∧ leftN (L.take j) = s ∧ w = wx)
  case atStart => exact ⟨0, 0, rfl, by omega, rfl, rfl, rfl⟩
  case round =>
    obtain ⟨j, s, rfl, hjk, rfl, hs, rfl⟩ := hrel
    cases gk with
    | zero =>
      have ej : j = L.length := by omega
      have hlt : ¬ (j : Int) < (L.length : Int) := by omega
      rw [ej, List.take_length] at hs
      replace hs := Aside0.mk hs
      clear ej hjk
      go_wp2
      go_ret
      exact ⟨ret_i64 (by rw [hs.out]), rfl⟩
    | succ gk =>
      have hjl : j < L.length := by omega
      have hlt : (j : Int) < (L.length : Int) := by omega
      have hc := h.out.at_ hjl
      have hsj : s ≤ j := by
        rw [← hs]; unfold leftN
        have := List.countP_le_length (p := fun b => !b) (l := L.take j)
        rw [List.length_take] at this; omega
      have hs1 : leftN (L.take (j + 1)) = s + (if L.getD j false = true then 0 else 1) := by
        rw [← hs, List.take_succ_eq_append_getElem hjl, leftN, leftN, List.countP_append, List.getD_eq_getElem?_getD, List.getElem?_eq_getElem hjl]
        cases hb : L[j] <;> simp [hb]
      have hs2 : (s : Int) ≤ 1024 := by omega
      have hs3 : (0 : Int) ≤ (s : Int) := by omega
      clear hs
      cases hx : L.getD j false with
      | false =>
        rw [hx] at hc hs1
        replace hs1 := Aside0.mk hs1
        replace hjk := Aside0.mk hjk
        clear hx hjl hsj
        go_wp2
        go_roundg gk
        case measure => have := hjk.out; omega
        case rel => exact ⟨j + 1, s + 1, by go_num, by have := hjk.out; omega, by go_num, hs1.out, rfl⟩
      | true =>
        rw [hx] at hc hs1
        replace hs1 := Aside0.mk hs1
        replace hjk := Aside0.mk hjk
        clear hx hjl hsj
        go_wp2
        go_roundg gk
        case measure => have := hjk.out; omega
        case rel => exact ⟨j + 1, s, by go_num, by have := hjk.out; omega, rfl, hs1.out, rfl⟩
end Go.Proofs.YtmfabgdgpdgdiaaDoor.Q
