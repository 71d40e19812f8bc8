/- A bitmap that a call holds; chapter 14's examples (awake), walked. -/
import Derived.Test.YtmfabgdgpdgdiaaDoorBitG
namespace Go.Proofs.YtmfabgdgpdgdiaaDoor.Q
open Go.RowKit Go.Proofs.YtmfabgdgpdgdiaaDoor.Bit Go.Proofs.YtmfabgdgpdgdiaaDoorW.PrintWords Go.Proofs.YtmfabgdgpdgdiaaDoorW.PrintLast Go.Proofs.YtmfabgdgpdgdiaaDoorW.PrintMore
set_option linter.unusedVariables false
set_option linter.unusedSimpArgs false
/-- A bitmap of a call that began in w: the bits that it says. -/
structure Sc (w W : World) (b g n : Nat) (L : List Bool) : Prop where
  bm : ∃ ws, BW W w.heap.size b g n ws ∧ Rep ws L
  ln : L.length = n
  le : n ≤ 1024
  bel : Below w.heap.size w W
  tab : TabAt 0 Lib.deBruijn64tab W
  pos : 0 < w.heap.size
section
variable {w W W' : World} {b g n : Nat} {L L' : List Bool}
theorem Sc.gpos (h : Sc w W b g n L) : g ≠ 0 ∧ w.heap.size ≤ g ∧ w.heap.size ≤ b := by
  obtain ⟨ws, hb, _⟩ := h.bm
  have := hb.hg; have := hb.hb; have := h.pos
  exact ⟨by omega, by omega, by omega⟩
theorem Sc.below (h : Sc w W b g n L) (hb : Below W.heap.size W W') : Sc w W' b g n L := by
  obtain ⟨ws, h1, h2⟩ := h.bm
  exact ⟨⟨ws, h1.below hb, h2⟩, h.ln, h.le, below_step h.bel hb, tab_below h.tab hb, h.pos⟩
theorem Sc.alloc (h : Sc w W b g n L) (o : Obj) : Sc w (W.alloc o) b g n L := h.below (below_alloc (Below.refl _ _) o)
theorem Sc.drewN (h : Sc w W b g n L) (m : Nat) : Sc w (W.drewN m) b g n L := h.below (pw_below_drewN (Below.refl _ _) m)
theorem Sc.drew (h : Sc w W b g n L) : Sc w W.drew b g n L := h.below (below_drew1 (Below.refl _ _))
/-- another block of the call's own was written -/
theorem Sc.other (h : Sc w W b g n L) {row : Nat} (hg : W.grownBy W' (some row)) (hr : w.heap.size ≤ row) (h1 : b ≠ row) (h2 : g ≠ row) : Sc w W' b g n L := by
  obtain ⟨ws, k1, k2⟩ := h.bm
  have hp := h.pos
  exact ⟨⟨ws, k1.grown hg (by simpa using h1) (by simpa using h2), k2⟩, h.ln, h.le, pw_below_grown h.bel _ h.bel.size hg (fun k hk => by cases hk; exact hr), tab_grown h.tab hg (by simp; omega), hp⟩
theorem Sc.wrote (h : Sc w W b g n L) (hb : ∃ ws, BW W' w.heap.size b g n ws ∧ Rep ws L') (hl : L'.length = n) (hg : W.grownBy W' (some g)) : Sc w W' b g n L' := by
  obtain ⟨g1, g2, g3⟩ := h.gpos
  exact ⟨hb, hl, h.le, pw_below_grown h.bel _ h.bel.size hg (fun k hk => by cases hk; exact g2), tab_grown h.tab hg (by simp; omega), h.pos⟩
theorem Sc.take (h : Sc w W b g n L) (v : Int) (L' : List Bool) (hv : takeR L = v) (hL : L.set (ff L) true = L') :
    Calls Tryd.prog 9 #[.pointer (some ⟨b, 0, none⟩)] W fun e W' => e = .returned (.int .i64 v) ∧ Sc w W' b g n L' ∧ W.grownBy W' (some g) := by
  subst hv
  obtain ⟨ws, h1, h2⟩ := h.bm
  refine (take_calls _ b g n ws L W h1 h2 h.ln h.le h.tab).mono fun e W' ⟨he, hb, hg⟩ => ⟨he, ?_, hg⟩
  rw [hL] at hb
  exact h.wrote hb (by rw [← hL, List.length_set]; exact h.ln) hg
theorem Sc.mark (h : Sc w W b g n L) (i : Int) (k : Nat) (hik : i = (k : Int)) (hk : k < n) (u : Bool) :
    Calls Tryd.prog 8 #[.pointer (some ⟨b, 0, none⟩), .int .i64 i, .bool u] W fun e W' => e = .returned (.int .i64 0) ∧ Sc w W' b g n (L.set k u) ∧ W.grownBy W' (some g) := by
  obtain ⟨ws, h1, h2⟩ := h.bm
  refine (mark_any _ b g n ws L i k hik u W h1 h2 h.ln h.le hk).mono fun e W' ⟨he, hb, hg⟩ => ⟨he, ?_, hg⟩
  exact h.wrote hb (by rw [List.length_set]; exact h.ln) hg
theorem Sc.mark_out (h : Sc w W b g n L) (i : Int) (hi : inB n i = false) (u : Bool) :
    Calls Tryd.prog 8 #[.pointer (some ⟨b, 0, none⟩), .int .i64 i, .bool u] W fun e W' => e = .returned (.int .i64 101) ∧ W' = W := by
  obtain ⟨ws, h1, h2⟩ := h.bm
  exact Q.mark_out b n i u W h1.c0 hi
theorem Sc.used (h : Sc w W b g n L) (i : Int) (v : Bool) (hv : (inB n i && L.getD i.toNat false) = v) :
    Calls Tryd.prog 15 #[.pointer (some ⟨b, 0, none⟩), .int .i64 i] W fun e W' => e = .returned (.bool v) ∧ W' = W := by
  subst hv
  obtain ⟨ws, h1, h2⟩ := h.bm
  exact used_calls _ b g n ws L i W h1 h2 h.ln h.le
theorem Sc.left (h : Sc w W b g n L) (v : Int) (hv : (leftN L : Int) = v) :
    Calls Tryd.prog 10 #[.pointer (some ⟨b, 0, none⟩)] W fun e W' => e = .returned (.int .i64 v) ∧ W' = W := by
  subst hv
  obtain ⟨ws, h1, h2⟩ := h.bm
  exact left_calls _ b g n ws L W h1 h2 h.ln h.le
theorem Sc.len (h : Sc w W b g n L) : Calls Tryd.prog 17 #[.pointer (some ⟨b, 0, none⟩)] W fun e W' => e = .returned (.int .i64 (n : Int)) ∧ W' = W := by
  obtain ⟨ws, h1, h2⟩ := h.bm
  exact len_calls b n W h1.c0
theorem Sc.words (h : Sc w W b g n L) (vs : List Nat) (hv : Rep vs L) (k : Nat) (hk : vs.length = k) :
    Calls Tryd.prog 20 #[.pointer (some ⟨b, 0, none⟩)] W fun e W' => ∃ A c, e = .returned (.slice A k c) ∧ k ≤ c ∧ (Kd.int .u64).C W' A k (nw vs) ∧ Below W.heap.size W W' := by
  obtain ⟨ws, h1, h2⟩ := h.bm
  obtain rfl := h2.uniq hv
  subst hk
  exact words_calls _ b g n ws W h1 (by have := h2.len; have := h.ln; have := h.le; omega)
theorem Sc.of_new {m : Nat} (hb : Below w.heap.size w W) (hm : m ≤ 1024) (hbw : BW W w.heap.size b g m (List.replicate ((m + 63) / 64) 0)) (hT : TabAt 0 Lib.deBruijn64tab w) (hp : 0 < w.heap.size) : Sc w W b g m (List.replicate m false) :=
  ⟨⟨_, hbw, Rep.new m⟩, List.length_replicate .., hm, hb, tab_below hT hb, hp⟩
end
theorem new3 (w : World) (hT : TabAt 0 Lib.deBruijn64tab w) (hp : 0 < w.heap.size) : Calls Tryd.prog 7 #[.int .i64 3] w fun e W => ∃ b g, e = .returned (.pointer (some ⟨b, 0, none⟩)) ∧ Sc w W b g 3 [false, false, false] := by
  refine (new_calls 3 w).mono fun e W ⟨hb, hc⟩ => ?_
  rcases hc with ⟨h, _⟩ | ⟨m, b, g, hm, _, _, he, hbw⟩
  · omega
  · obtain rfl : m = 3 := by omega
    exact ⟨b, g, he, Sc.of_new hb (by decide) hbw hT hp⟩
theorem rep7 : Rep [7] [true, true, true] where
  len := rfl
  lt x hx := by
    rcases List.mem_cons.1 hx with rfl | hx
    · decide
    · cases hx
  bit k i hk hi := by
    obtain rfl : k = 0 := by simp at hk; omega
    have : ∀ i, i < 64 → ([7].getD 0 0).testBit i = [true, true, true].getD (64 * 0 + i) false := by decide +kernel
    exact this i hi
theorem not8 : ¬ OkN 3 [8] := fun h => h.over (by decide)
theorem of8 (W : World) (B : Nat) (hB : W.heap.size = B) : Calls Tryd.prog 22 #[.int .i64 3, .slice (some ⟨B, 0, none⟩) 1 1] (W.alloc (.cells #[.int .u64 8] 53)) fun e W' => e = .returned (.tuple #[.pointer none, .int .i64 101]) ∧ Below W.heap.size W W' := by
  subst hB
  have hc : (W.alloc (.cells #[.int .u64 8] 53)).heap[W.heap.size]? = some (.cells (cw [8]) 53 (0, 0)) := blk_new _ _
  refine (of_calls 3 (by decide) [8] (by decide) (some ⟨W.heap.size, 0, none⟩) 1 _ (C_blk hc (by decide)) (by decide)).mono fun e W' ⟨hb, h⟩ => ?_
  rcases h with ⟨_, he⟩ | ⟨h, _⟩
  · exact ⟨he, below_step (below_alloc (Below.refl _ _) _) hb⟩
  · exact absurd h not8
theorem cmp7 (W : World) (A : Option Addr) (c B : Nat) (hc : 1 ≤ c) (h : (Kd.int .u64).C W A 1 (nw [7])) (hB : W.heap.size = B) : Calls Tryd.prog 19 #[.slice A 1 c, .slice (some ⟨B, 0, none⟩) 1 1] (W.alloc (.cells #[.int .u64 7] 53)) fun e W' => e = .returned (.bool true) ∧ Below W.heap.size W W' := by
  subst hB
  have hb : (W.alloc (.cells #[.int .u64 7] 53)).heap[W.heap.size]? = some (.cells (cw [7]) 53 (0, 0)) := blk_new _ _
  exact (cmp_calls [7] (by decide) A _ c 1 _ (Kd.C_alloc h _) hc (C_blk hb (by decide)) (by decide)).mono fun e W' ⟨he, hb⟩ => ⟨he, below_step (below_alloc (Below.refl _ _) _) hb⟩
set_option maxHeartbeats 4000000 in
set_option maxRecDepth 100000 in
theorem awake_calls (w : World) (hT : TabAt 0 Lib.deBruijn64tab w) (hp : 0 < w.heap.size) : Calls Tryd.prog 11 #[] w fun e w' => e = .returned (.bool true) ∧ Below w.heap.size w w' := by
  have hn := Aside0.mk (new3 w hT hp)
  clear hT hp
  go_enter Tryd.func11, Tryd.ntmps11
  go_wp2_with (first
    | (go_at_call 7; (with_reducible refine hn.out.mono ?_); rintro e w1 ⟨b, g, rfl, hS⟩; replace hS := Aside0.mk hS; clear hn)
    | (go_at_call 9; (with_reducible refine (Sc.take (L := [false, false, false]) hS.out 0 [true, false, false] (by decide) (by decide)).mono ?_); rintro e w1 ⟨rfl, hS1, -⟩; replace hS := Aside0.mk hS1; clear hS1)
    | (go_at_call 9; (with_reducible refine (Sc.take (L := [true, false, false]) hS.out 1 [true, true, false] (by decide) (by decide)).mono ?_); rintro e w1 ⟨rfl, hS1, -⟩; replace hS := Aside0.mk hS1; clear hS1)
    | (go_at_call 8; (with_reducible refine (Sc.mark (L := [true, true, false]) hS.out 0 0 rfl (by decide) false).mono ?_); rintro e w1 ⟨rfl, hS1, -⟩; replace hS := Aside0.mk (show Sc _ _ _ _ _ [false, true, false] from hS1); clear hS1)
    | (go_at_call 9; (with_reducible refine (Sc.take (L := [false, true, false]) hS.out 0 [true, true, false] (by decide) (by decide)).mono ?_); rintro e w1 ⟨rfl, hS1, -⟩; replace hS := Aside0.mk hS1; clear hS1; have hM := Aside0.mk True.intro)
    | (go_at_call 9; (with_reducible refine (Sc.take (L := [true, true, false]) hS.out 2 [true, true, true] (by decide) (by decide)).mono ?_); rintro e w1 ⟨rfl, hS1, -⟩; replace hS := Aside0.mk hS1; clear hS1)
    | (go_at_call 9; (with_reducible refine (Sc.take (L := [true, true, true]) hS.out (-1) [true, true, true] (by decide) (by decide)).mono ?_); rintro e w1 ⟨rfl, hS1, -⟩; replace hS := Aside0.mk hS1; clear hS1)
    | (go_at_call 22; (with_reducible refine (of8 _ _ rfl).mono ?_); rintro e w1 ⟨rfl, hB⟩; replace hS := Aside0.mk (hS.out.below hB); clear hB)
    | (go_at_call 20; (with_reducible refine (Sc.words hS.out [7] rep7 1 rfl).mono ?_); rintro e w1 ⟨A, c, rfl, hc1, hC1, hB⟩; replace hS := Aside0.mk (hS.out.below hB); clear hB; replace hc1 := Aside0.mk hc1; replace hC1 := Aside0.mk hC1)
    | (go_at_call 19; (with_reducible refine (cmp7 _ _ _ _ hc1.out hC1.out rfl).mono ?_); rintro e w1 ⟨rfl, hB⟩; replace hS := Aside0.mk (hS.out.below hB); clear hB)
    | (go_at_call 10; (with_reducible refine (Sc.left hS.out 0 (by decide)).mono ?_); rintro e w1 ⟨rfl, rfl⟩)
    | (go_at_call 15; (with_reducible refine (Sc.used hS.out 2 true (by decide)).mono ?_); rintro e w1 ⟨rfl, rfl⟩)
    | (go_at_call 15; (with_reducible refine (Sc.used hS.out 3 false (by decide)).mono ?_); rintro e w1 ⟨rfl, rfl⟩))
  go_ret
  exact ⟨rfl, hS.out.bel⟩
end Go.Proofs.YtmfabgdgpdgdiaaDoor.Q
