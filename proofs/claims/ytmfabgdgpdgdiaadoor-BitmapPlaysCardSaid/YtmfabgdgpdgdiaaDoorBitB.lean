/- A bitmap in memory; its short methods, walked. -/
import Derived.Test.YtmfabgdgpdgdiaaDoorBitA
import Derived.StillTailTactics
namespace Go.Proofs.YtmfabgdgpdgdiaaDoor.Q
open Go.RowKit Go.Proofs.YtmfabgdgpdgdiaaDoor.Bit Go.Proofs.YtmfabgdgpdgdiaaDoorW.PrintWords Go.Proofs.YtmfabgdgpdgdiaaDoorW.PrintLast Go.Proofs.YtmfabgdgpdgdiaaDoorW.PrintMore
set_option linter.unusedVariables false
set_option linter.unusedSimpArgs false
def cw (ws : List Nat) : Array Value := (ws.map fun n : Nat => Value.int .u64 (n : Int)).toArray
def cb (L : List Bool) : Array Value := (L.map Value.bool).toArray
theorem cw_at {ws : List Nat} {i : Nat} (h : i < ws.length) : (cw ws)[i]? = some (.int .u64 (ws.getD i 0 : Nat)) := by
  unfold cw
  rw [List.getElem?_toArray, List.getElem?_map, List.getElem?_eq_getElem h, List.getD_eq_getElem?_getD, List.getElem?_eq_getElem h]
  rfl
theorem cb_at {L : List Bool} {i : Nat} (h : i < L.length) : (cb L)[i]? = some (.bool (L.getD i false)) := by
  unfold cb
  rw [List.getElem?_toArray, List.getElem?_map, List.getElem?_eq_getElem h, List.getD_eq_getElem?_getD, List.getElem?_eq_getElem h]
  rfl
theorem cw_set (ws : List Nat) (i x : Nat) : (cw ws).setIfInBounds i (.int .u64 (x : Int)) = cw (ws.set i x) := by
  unfold cw
  rw [List.setIfInBounds_toArray, List.map_set]
theorem cb_set (L : List Bool) (i : Nat) (b : Bool) : (cb L).setIfInBounds i (.bool b) = cb (L.set i b) := by
  unfold cb
  rw [List.setIfInBounds_toArray, List.map_set]
theorem cw_made (m : Nat) : madeCells #[.int .u64 0] m = cw (List.replicate m 0) := by
  apply Array.ext
  · simp [madeCells, cw]
  · intro i h1 h2
    simp [madeCells, cw, Nat.mod_one]
theorem cb_made (m : Nat) : madeCells #[.bool false] m = cb (List.replicate m false) := by
  apply Array.ext
  · simp [madeCells, cb]
  · intro i h1 h2
    simp [madeCells, cb, Nat.mod_one]
/-- A bitmap: its struct at block b, its words at block g. -/
structure BW (W : World) (B b g n : Nat) (ws : List Nat) : Prop where
  pb : W.heap[b]? = some (.cells #[.int .i64 (n : Int), .slice (some ⟨g, 0, none⟩) ws.length ws.length] 52 (0, 0))
  wb : W.heap[g]? = some (.cells (cw ws) 54 (0, 0))
  hb : B ≤ b
  hg : B ≤ g
/-- The reference's. -/
structure RW (W : World) (B b g : Nat) (L : List Bool) : Prop where
  pb : W.heap[b]? = some (.cells #[.slice (some ⟨g, 0, none⟩) L.length L.length] 39 (0, 0))
  wb : W.heap[g]? = some (.cells (cb L) 4 (0, 0))
  hb : B ≤ b
  hg : B ≤ g
section
variable {W W' : World} {B b g n : Nat} {ws : List Nat} {L : List Bool}
theorem BW.c0 (h : BW W B b g n ws) : W.cell? ⟨b, 0, none⟩ = some (.int .i64 (n : Int)) := (blk_cell h.pb 0).trans rfl
theorem BW.c1 (h : BW W B b g n ws) : W.cell? ⟨b, 1, none⟩ = some (.slice (some ⟨g, 0, none⟩) ws.length ws.length) := (blk_cell h.pb 1).trans rfl
theorem BW.at_ (h : BW W B b g n ws) {i : Nat} (hi : i < ws.length) : W.cell? ⟨g, i, none⟩ = some (.int .u64 (ws.getD i 0 : Nat)) := (blk_cell h.wb i).trans (cw_at hi)
theorem BW.fz (h : BW W B b g n ws) (i : Nat) : W.frozen? ⟨g, i, none⟩ = false := blk_frozen h.wb i
theorem BW.ne (h : BW W B b g n ws) : b ≠ g := blk_ne h.pb h.wb (by decide)
theorem BW.grown (h : BW W B b g n ws) {row : Option Nat} (hw : W.grownBy W' row) (h1 : some b ≠ row) (h2 : some g ≠ row) : BW W' B b g n ws :=
  ⟨blk_grown h.pb hw h1, blk_grown h.wb hw h2, h.hb, h.hg⟩
theorem BW.below (h : BW W B b g n ws) (hw : Below W.heap.size W W') : BW W' B b g n ws := h.grown (grown_of_below hw none) (by simp) (by simp)
theorem BW.alloc (h : BW W B b g n ws) (o : Obj) : BW (W.alloc o) B b g n ws := h.below (below_alloc (Below.refl _ _) o)
theorem BW.drewN (h : BW W B b g n ws) (m : Nat) : BW (W.drewN m) B b g n ws := ⟨h.pb, h.wb, h.hb, h.hg⟩
theorem BW.drew (h : BW W B b g n ws) : BW W.drew B b g n ws := ⟨h.pb, h.wb, h.hb, h.hg⟩
theorem BW.put (h : BW W B b g n ws) (i x : Nat) : BW (W.setCell ⟨g, i, none⟩ (.int .u64 (x : Int))) B b g n (ws.set i x) := by
  have e : (ws.set i x).length = ws.length := List.length_set ..
  refine ⟨by rw [e]; exact blk_far h.pb (p := ⟨g, i, none⟩) h.ne _, ?_, h.hb, h.hg⟩
  have := blk_set h.wb i (.int .u64 (x : Int))
  rwa [cw_set] at this
theorem BW.lt (h : BW W B b g n ws) : b < W.heap.size ∧ g < W.heap.size := ⟨blk_lt h.pb, blk_lt h.wb⟩
theorem RW.c0 (h : RW W B b g L) : W.cell? ⟨b, 0, none⟩ = some (.slice (some ⟨g, 0, none⟩) L.length L.length) := (blk_cell h.pb 0).trans rfl
theorem RW.at_ (h : RW W B b g L) {i : Nat} (hi : i < L.length) : W.cell? ⟨g, i, none⟩ = some (.bool (L.getD i false)) := (blk_cell h.wb i).trans (cb_at hi)
theorem RW.fz (h : RW W B b g L) (i : Nat) : W.frozen? ⟨g, i, none⟩ = false := blk_frozen h.wb i
theorem RW.ne (h : RW W B b g L) : b ≠ g := blk_ne h.pb h.wb (by decide)
theorem RW.grown (h : RW W B b g L) {row : Option Nat} (hw : W.grownBy W' row) (h1 : some b ≠ row) (h2 : some g ≠ row) : RW W' B b g L :=
  ⟨blk_grown h.pb hw h1, blk_grown h.wb hw h2, h.hb, h.hg⟩
theorem RW.below (h : RW W B b g L) (hw : Below W.heap.size W W') : RW W' B b g L := h.grown (grown_of_below hw none) (by simp) (by simp)
theorem RW.alloc (h : RW W B b g L) (o : Obj) : RW (W.alloc o) B b g L := h.below (below_alloc (Below.refl _ _) o)
theorem RW.drewN (h : RW W B b g L) (m : Nat) : RW (W.drewN m) B b g L := ⟨h.pb, h.wb, h.hb, h.hg⟩
theorem RW.drew (h : RW W B b g L) : RW W.drew B b g L := ⟨h.pb, h.wb, h.hb, h.hg⟩
theorem RW.put (h : RW W B b g L) (i : Nat) (x : Bool) : RW (W.setCell ⟨g, i, none⟩ (.bool x)) B b g (L.set i x) := by
  have e : (L.set i x).length = L.length := List.length_set ..
  refine ⟨by rw [e]; exact blk_far h.pb (p := ⟨g, i, none⟩) h.ne _, ?_, h.hb, h.hg⟩
  have := blk_set h.wb i (.bool x)
  rwa [cb_set] at this
theorem RW.lt (h : RW W B b g L) : b < W.heap.size ∧ g < W.heap.size := ⟨blk_lt h.pb, blk_lt h.wb⟩
end
theorem gr_set {w : World} {g i : Nat} {v : Value} : w.grownBy (w.setCell ⟨g, i, none⟩ v) (some g) :=
  ⟨rfl, rfl, rfl, by simp [World.setCell], fun j hj hne => Below.heap_setCell _ _ _ _ (fun e => hne (by rw [e]))⟩
theorem gr_drew {w w1 : World} {row : Option Nat} (h : w.grownBy w1 row) : w.grownBy w1.drew row := ⟨h.os, h.tape, h.output, h.size, h.block⟩
theorem gr_drewN {w w1 : World} {row : Option Nat} (h : w.grownBy w1 row) (m : Nat) : w.grownBy (w1.drewN m) row := ⟨h.os, h.tape, h.output, h.size, h.block⟩
theorem gr_below {w w1 w2 : World} {row : Option Nat} (h : w.grownBy w1 row) (hb : Below w1.heap.size w1 w2) : w.grownBy w2 row := h.trans (grown_of_below hb row)
theorem tab_grown {w w1 : World} {row : Option Nat} {tab : List Nat} (h : TabAt 0 tab w) (hg : w.grownBy w1 row) (hne : some 0 ≠ row) : TabAt 0 tab w1 := fun j hj => hg.cell (h j hj) hne
theorem tab_below {w w1 : World} {tab : List Nat} (h : TabAt 0 tab w) (hb : Below w.heap.size w w1) : TabAt 0 tab w1 := tab_grown h (grown_of_below hb none) (by simp)
/-! ### New -/
theorem info54 : (Tryd.prog.info? 54).map (fun i => (i.zero, i.size, i.bytes)) = some (some (.int .u64 0), 1, 8) := by kernel_rfl
theorem info4 : (Tryd.prog.info? 4).map (fun i => (i.zero, i.size, i.bytes)) = some (some (.bool false), 1, 1) := by kernel_rfl
def NewPost (w : World) (n : Int) (e : Ending) (w' : World) : Prop :=
  Below w.heap.size w w' ∧ (((n < 1 ∨ 1024 < n) ∧ e = .returned (.pointer none)) ∨ ∃ (m b g : Nat), n = m ∧ 1 ≤ m ∧ m ≤ 1024 ∧ e = .returned (.pointer (some ⟨b, 0, none⟩)) ∧ BW w' w.heap.size b g m (List.replicate ((m + 63) / 64) 0))
set_option maxRecDepth 100000 in
theorem new_calls (n : Int) (w : World) : Calls Tryd.prog 7 #[.int .i64 n] w (NewPost w n) := by
  by_cases h1 : n < 1
  · have d1 : decide (n < 1) = true := decide_eq_true h1
    have H := Aside0.mk h1
    clear h1
    go_enter Tryd.func7, Tryd.ntmps7
    go_wp2
    go_ret
    exact ⟨Below.refl _ _, .inl ⟨.inl H.out, rfl⟩⟩
  · have d1 : decide (n < 1) = false := decide_eq_false h1
    by_cases h2 : 1024 < n
    · have d2 : decide (1024 < n) = true := decide_eq_true h2
      have H := Aside0.mk h2
      clear h1 h2
      go_enter Tryd.func7, Tryd.ntmps7
      go_wp2
      go_ret
      exact ⟨Below.refl _ _, .inl ⟨.inr H.out, rfl⟩⟩
    · have d2 : decide (1024 < n) = false := decide_eq_false h2
      obtain ⟨m, rfl⟩ := Int.eq_ofNat_of_zero_le (show 0 ≤ n by omega)
      have H := Aside0.mk (show 1 ≤ m ∧ m ≤ 1024 by omega)
      obtain ⟨K, hK⟩ : ∃ K, (m + 63) / 64 = K := ⟨_, rfl⟩
      have hq : ((m : Int) + 63) / 64 = (K : Int) := by omega
      have hmk := print_make (P := Tryd.prog) 50 54 .u64 8 Tryd.underlying50 info54 (by decide) K (by omega)
      replace hK := Aside0.mk hK
      have b1 : 1 ≤ (m : Int) := by omega
      have b2 : (m : Int) ≤ 1024 := by omega
      clear h1 h2
      go_enter Tryd.func7, Tryd.ntmps7
      go_wp2
      go_ret
      have e1 : (List.replicate ((m + 63) / 64) 0).length = K := by rw [List.length_replicate, hK.out]
      have b1 := blk_alloc (blk_new w (.cells (madeCells #[.int .u64 0] K) 54)) (.cells #[.int .i64 (m : Int), .slice (some ⟨w.heap.size, 0, none⟩) K K] 52)
      have b2 := blk_new (w.alloc (.cells (madeCells #[.int .u64 0] K) 54)) (.cells #[.int .i64 (m : Int), .slice (some ⟨w.heap.size, 0, none⟩) K K] 52)
      rw [cw_made] at b1
      refine ⟨below_alloc (below_alloc (Below.refl _ _) _) _, .inr ⟨m, w.heap.size + 1, w.heap.size, rfl, H.out.1, H.out.2, rfl, ⟨?_, ?_, by omega, Nat.le_refl _⟩⟩⟩
      · rw [e1]
        simpa using b2
      · rw [hK.out, cw_made]
        exact b1
/-! ### in, Len, Used -/
def inB (n : Nat) (i : Int) : Bool := decide (0 ≤ i ∧ i < n)
theorem in_calls (b n : Nat) (i : Int) (w : World) (hc : w.cell? ⟨b, 0, none⟩ = some (.int .i64 (n : Int))) :
    Calls Tryd.prog 24 #[.pointer (some ⟨b, 0, none⟩), .int .i64 i] w fun e w' => e = .returned (.bool (inB n i)) ∧ w' = w := by
  by_cases h1 : 0 ≤ i
  · have d1 : decide (0 ≤ i) = true := decide_eq_true h1
    by_cases h2 : i < n
    · have d2 : decide (i < (n : Int)) = true := decide_eq_true h2
      have H := Aside0.mk (show inB n i = true from decide_eq_true ⟨h1, h2⟩)
      clear h1 h2
      go_enter Tryd.func24, Tryd.ntmps24
      go_wp2
      go_ret
      exact ⟨by rw [H.out]; rfl, rfl⟩
    · have d2 : decide (i < (n : Int)) = false := decide_eq_false h2
      have H := Aside0.mk (show inB n i = false from decide_eq_false (fun h => h2 h.2))
      clear h1 h2
      go_enter Tryd.func24, Tryd.ntmps24
      go_wp2
      go_ret
      exact ⟨by rw [H.out]; rfl, rfl⟩
  · have d1 : decide (0 ≤ i) = false := decide_eq_false h1
    have H := Aside0.mk (show inB n i = false from decide_eq_false (fun h => h1 h.1))
    clear h1
    go_enter Tryd.func24, Tryd.ntmps24
    go_wp2
    go_ret
    exact ⟨by rw [H.out]; rfl, rfl⟩
theorem in_nil (i : Int) (w : World) : Calls Tryd.prog 24 #[.pointer none, .int .i64 i] w fun e w' => e = .returned (.bool false) ∧ w' = w := by
  go_enter Tryd.func24, Tryd.ntmps24
  go_wp2
  go_ret
  exact ⟨rfl, rfl⟩
theorem len_calls (b n : Nat) (w : World) (hc : w.cell? ⟨b, 0, none⟩ = some (.int .i64 (n : Int))) :
    Calls Tryd.prog 17 #[.pointer (some ⟨b, 0, none⟩)] w fun e w' => e = .returned (.int .i64 (n : Int)) ∧ w' = w := by
  go_enter Tryd.func17, Tryd.ntmps17
  go_wp2
  go_ret
  exact ⟨rfl, rfl⟩
theorem len_nil (w : World) : Calls Tryd.prog 17 #[.pointer none] w fun e w' => e = .returned (.int .i64 0) ∧ w' = w := by
  go_enter Tryd.func17, Tryd.ntmps17
  go_wp2
  go_ret
  exact ⟨rfl, rfl⟩
theorem used_nil (i : Int) (w : World) : Calls Tryd.prog 15 #[.pointer none, .int .i64 i] w fun e w' => e = .returned (.bool false) ∧ w' = w := by
  go_enter Tryd.func15, Tryd.ntmps15
  go_wp2_with (first | (go_at_call 24; (with_reducible refine (in_nil _ _).mono ?_); rintro e w' ⟨rfl, rfl⟩))
  go_ret
  exact ⟨rfl, rfl⟩
theorem used_calls (B b g n : Nat) (ws : List Nat) (L : List Bool) (i : Int) (w : World) (h : BW w B b g n ws) (hR : Rep ws L) (hn : L.length = n) (h1024 : n ≤ 1024) :
    Calls Tryd.prog 15 #[.pointer (some ⟨b, 0, none⟩), .int .i64 i] w fun e w' => e = .returned (.bool (inB n i && L.getD i.toNat false)) ∧ w' = w := by
  have h0 := h.c0
  have h1 := h.c1
  by_cases hi : 0 ≤ i ∧ i < n
  · obtain ⟨k, rfl⟩ := Int.eq_ofNat_of_zero_le hi.1
    have hkn : k < n := by omega
    obtain ⟨q, hq⟩ : ∃ q, k / 64 = q := ⟨_, rfl⟩
    obtain ⟨r, hr⟩ : ∃ r, k % 64 = r := ⟨_, rfl⟩
    have hql : q < ws.length := by have := hR.len; omega
    have hr64 : r < 64 := by omega
    have hl1 : ws.length ≤ 16 := by have := hR.len; omega
    have hc := h.at_ hql
    have hin := Aside0.mk (show inB n (k : Int) = true from decide_eq_true hi)
    have hbit := Aside0.mk (show (ws.getD q 0).testBit r = L.getD k false by rw [← hq, ← hr]; exact hR.at_ (by omega))
    have hlt := Aside0.mk (hR.getD_lt q)
    have e1 : (k : Int) / 64 = (q : Int) := by omega
    have e2 : (k : Int) % 64 = (r : Int) := by omega
    have hb1 : (0 : Int) ≤ (k : Int) := by omega
    have hb2 : (k : Int) ≤ 1024 := by omega
    have hq2 : (q : Int) < (ws.length : Int) := by omega
    obtain ⟨x, hx⟩ : ∃ x, ws.getD q 0 = x := ⟨_, rfl⟩
    rw [hx] at hc hbit hlt
    clear hi hkn hq hr hql hx h1024
    replace hn := Aside0.mk hn
    replace h := Aside0.mk h
    replace hR := Aside0.mk hR
    go_enter Tryd.func15, Tryd.ntmps15
    go_wp2_with (first
      | (go_at_call 24; (with_reducible refine (in_calls _ _ _ _ h0).mono ?_); rintro e w' ⟨rfl, rfl⟩; rw [hin.out])
      | (go_at_call 28; (with_reducible refine (has_calls _ _ hlt.out hr64 _).mono ?_); rintro e w' ⟨rfl, rfl⟩))
    go_ret
    exact ⟨by rw [hin.out]; show Ending.returned (Value.bool (x.testBit r)) = _; rw [hbit.out]; rfl, rfl⟩
  · have hin := Aside0.mk (show inB n i = false from decide_eq_false hi)
    clear hi
    go_enter Tryd.func15, Tryd.ntmps15
    go_wp2_with (first
      | (go_at_call 24; (with_reducible refine (in_calls _ _ _ _ h0).mono ?_); rintro e w' ⟨rfl, rfl⟩; rw [hin.out]))
    go_ret
    exact ⟨by rw [hin.out]; rfl, rfl⟩
/-! ### Mark -/
theorem mark_nil (i : Int) (u : Bool) (w : World) : Calls Tryd.prog 8 #[.pointer none, .int .i64 i, .bool u] w fun e w' => e = .returned (.int .i64 101) ∧ w' = w := by
  go_enter Tryd.func8, Tryd.ntmps8
  go_wp2_with (first | (go_at_call 24; (with_reducible refine (in_nil _ _).mono ?_); rintro e w' ⟨rfl, rfl⟩))
  go_ret
  exact ⟨rfl, rfl⟩
theorem mark_out (b n : Nat) (i : Int) (u : Bool) (w : World) (h0 : w.cell? ⟨b, 0, none⟩ = some (.int .i64 (n : Int))) (hi : inB n i = false) :
    Calls Tryd.prog 8 #[.pointer (some ⟨b, 0, none⟩), .int .i64 i, .bool u] w fun e w' => e = .returned (.int .i64 101) ∧ w' = w := by
  replace hi := Aside0.mk hi
  go_enter Tryd.func8, Tryd.ntmps8
  go_wp2_with (first | (go_at_call 24; (with_reducible refine (in_calls _ _ _ _ h0).mono ?_); rintro e w' ⟨rfl, rfl⟩; rw [hi.out]))
  go_ret
  exact ⟨rfl, rfl⟩
set_option maxHeartbeats 400000 in
set_option maxRecDepth 100000 in
theorem mark_calls (B b g n : Nat) (ws : List Nat) (L : List Bool) (k : Nat) (u : Bool) (w : World) (h : BW w B b g n ws) (hR : Rep ws L) (hn : L.length = n) (h1024 : n ≤ 1024) (hk : k < n) :
    Calls Tryd.prog 8 #[.pointer (some ⟨b, 0, none⟩), .int .i64 (k : Int), .bool u] w fun e w' => e = .returned (.int .i64 0) ∧ (∃ ws', BW w' B b g n ws' ∧ Rep ws' (L.set k u)) ∧ w.grownBy w' (some g) := by
  have h0 := h.c0
  have h1 := h.c1
  obtain ⟨q, hq⟩ : ∃ q, k / 64 = q := ⟨_, rfl⟩
  obtain ⟨r, hr⟩ : ∃ r, k % 64 = r := ⟨_, rfl⟩
  have hql : q < ws.length := by have := hR.len; omega
  have hr64 : r < 64 := by omega
  have hl1 : ws.length ≤ 16 := by have := hR.len; omega
  have hc := h.at_ hql
  have hz := h.fz q
  have hin := Aside0.mk (show inB n (k : Int) = true from decide_eq_true ⟨by omega, by omega⟩)
  have hset := Aside0.mk (show Rep (ws.set q (setN (ws.getD q 0) r u)) (L.set k u) by rw [← hq, ← hr]; exact hR.set (by omega) u)
  have hlt := Aside0.mk (hR.getD_lt q)
  have e1 : (k : Int) / 64 = (q : Int) := by omega
  have e2 : (k : Int) % 64 = (r : Int) := by omega
  have hb1 : (0 : Int) ≤ (k : Int) := by omega
  have hb2 : (k : Int) ≤ 1024 := by omega
  have hq2 : (q : Int) < (ws.length : Int) := by omega
  obtain ⟨x, hx⟩ : ∃ x, ws.getD q 0 = x := ⟨_, rfl⟩
  rw [hx] at hc hset hlt
  have hwq : IntKind.i64.wrap (q : Int) = (q : Int) := by rw [IntKind.wrap_i64]; omega
  have hwr : IntKind.i64.wrap (r : Int) = (r : Int) := by rw [IntKind.wrap_i64]; omega
  have e3 : (k : Int).tmod 64 = (r : Int) := by rw [Int.tmod_eq_emod_of_nonneg (by omega)]; exact e2
  clear hq hr hql hx h1024 hk
  replace hn := Aside0.mk hn
  replace h := Aside0.mk h
  replace hR := Aside0.mk hR
  go_enter Tryd.func8, Tryd.ntmps8
  go_wp2_with (first
    | (go_at_call 24; (with_reducible refine (in_calls _ _ _ _ h0).mono ?_); rintro e w' ⟨rfl, rfl⟩; rw [hin.out]))
  refine wp_region_still_tail 19 (by kernel_rfl) (by kernel_rfl) ?_
  simp only [List.take_succ_cons, List.take_zero, List.drop_succ_cons, List.drop_zero]
  repeat still_step
  still_call (set_calls x r u hlt.out hr64 _)
  repeat still_step
  try refine wpStill_nil ?_
  go_wp2
  go_ret
  exact ⟨rfl, ⟨_, h.out.drew.put q (setN x r u), hset.out⟩, (gr_drew (World.grownBy.refl _ _)).trans gr_set⟩
end Go.Proofs.YtmfabgdgpdgdiaaDoor.Q
