/- januslaw14.BitmapNone and BitmapBack, walked. -/
import Derived.Test.YtmfabgdgpdgdiaaDoorBitH
namespace Go.Proofs.YtmfabgdgpdgdiaaDoor.Q
open Go.RowKit Go.Proofs.YtmfabgdgpdgdiaaDoor.Bit Go.Proofs.YtmfabgdgpdgdiaaDoorW.PrintWords Go.Proofs.YtmfabgdgpdgdiaaDoorW.PrintLast Go.Proofs.YtmfabgdgpdgdiaaDoorW.PrintMore
set_option linter.unusedVariables false
set_option linter.unusedSimpArgs false
/-- what a law needs of the world in which it is called -/
structure Ok0 (w : World) : Prop where
  tab : TabAt 0 Lib.deBruijn64tab w
  pos : 0 < w.heap.size
theorem Ok0.below {w W : World} (h : Ok0 w) (hb : Below w.heap.size w W) : Ok0 W := ⟨tab_below h.tab hb, Nat.lt_of_lt_of_le h.pos hb.size⟩
theorem awake_at {w W : World} (h : Ok0 w) (hb : Below w.heap.size w W) : Calls Tryd.prog 11 #[] W fun e w' => e = .returned (.bool true) ∧ Below w.heap.size w w' :=
  (awake_calls W (h.below hb).tab (h.below hb).pos).mono fun e w' ⟨he, hb'⟩ => ⟨he, below_step hb hb'⟩
def TruePost (w : World) (e : Ending) (w' : World) : Prop := e = .returned (.bool true) ∧ Below w.heap.size w w'
set_option maxHeartbeats 4000000 in
set_option maxRecDepth 100000 in
theorem none_calls (k i : Int) (on : Bool) (w : World) (h : Ok0 w) : Calls Tryd.prog 6 #[.agg #[.int .i64 k, .int .i64 i, .bool on]] w (TruePost w) := by
  have hw := Aside0.mk h
  clear h
  have hu35 := Tryd.underlying35
  go_enter Tryd.func6, Tryd.ntmps6
  go_wp2_with (first
    | (go_at_call 17; (with_reducible refine (len_nil _).mono ?_); rintro e w1 ⟨rfl, rfl⟩)
    | (go_at_call 15; (with_reducible refine (used_nil _ _).mono ?_); rintro e w1 ⟨rfl, rfl⟩)
    | (go_at_call 9; (with_reducible refine (take_nil _).mono ?_); rintro e w1 ⟨rfl, rfl⟩)
    | (go_at_call 8; (with_reducible refine (mark_nil _ _ _).mono ?_); rintro e w1 ⟨rfl, rfl⟩)
    | (go_at_call 10; (with_reducible refine (left_nil _).mono ?_); rintro e w1 ⟨rfl, rfl⟩)
    | (go_at_call 20; (with_reducible refine (words_nil _).mono ?_); rintro e w1 ⟨rfl, rfl⟩)
    | (go_at_call 11; (with_reducible refine (awake_at hw.out (below_alloc (Below.refl _ _) _)).mono ?_); rintro e w1 ⟨rfl, hB⟩; replace hB := Aside0.mk hB))
  go_ret
  exact ⟨rfl, hB.out⟩
theorem of_ok {n : Int} (hn : -9223372036854775808 ≤ n ∧ n < 9223372036854775808) {ws : List Nat} (hlt : ∀ x ∈ ws, x < 18446744073709551616) {A : Option Addr} {c : Nat} {w : World} (hr : (Kd.int .u64).C w A ws.length (nw ws)) (hc : ws.length ≤ c) (hok : OkN n ws) : Calls Tryd.prog 22 #[.int .i64 n, .slice A ws.length c] w fun e w' => ∃ b g, e = .returned (.tuple #[.pointer (some ⟨b, 0, none⟩), .int .i64 0]) ∧ BW w' w.heap.size b g n.toNat ws ∧ Below w.heap.size w w' :=
  (of_calls n hn ws hlt A c w hr hc).mono fun e w' ⟨hB, h⟩ => by
    rcases h with ⟨h, _⟩ | ⟨_, b, g, he, hb⟩
    · exact absurd hok h
    · exact ⟨b, g, he, hb, hB⟩
theorem of_bad {n : Int} (hn : -9223372036854775808 ≤ n ∧ n < 9223372036854775808) {ws : List Nat} (hlt : ∀ x ∈ ws, x < 18446744073709551616) {A : Option Addr} {c : Nat} {w : World} (hr : (Kd.int .u64).C w A ws.length (nw ws)) (hc : ws.length ≤ c) (hok : ¬ OkN n ws) : Calls Tryd.prog 22 #[.int .i64 n, .slice A ws.length c] w fun e w' => e = .returned (.tuple #[.pointer none, .int .i64 101]) ∧ Below w.heap.size w w' :=
  (of_calls n hn ws hlt A c w hr hc).mono fun e w' ⟨hB, h⟩ => by
    rcases h with ⟨_, he⟩ | ⟨h, _⟩
    · exact ⟨he, hB⟩
    · exact absurd h hok
theorem rof_ok {n : Int} (hn : -9223372036854775808 ≤ n ∧ n < 9223372036854775808) {ws : List Nat} (hlt : ∀ x ∈ ws, x < 18446744073709551616) {A : Option Addr} {c : Nat} {w : World} (hr : (Kd.int .u64).C w A ws.length (nw ws)) (hc : ws.length ≤ c) (hok : OkN n ws) : Calls Tryd.prog 23 #[.int .i64 n, .slice A ws.length c] w fun e w' => ∃ v, e = .returned (.tuple #[v, .int .i64 0]) ∧ Below w.heap.size w w' :=
  (rof_calls n hn ws hlt A c w hr hc).mono fun e w' ⟨hB, h⟩ => by
    rcases h with ⟨h, _⟩ | ⟨_, v, he⟩
    · exact absurd hok h
    · exact ⟨v, he, hB⟩
theorem rof_bad {n : Int} (hn : -9223372036854775808 ≤ n ∧ n < 9223372036854775808) {ws : List Nat} (hlt : ∀ x ∈ ws, x < 18446744073709551616) {A : Option Addr} {c : Nat} {w : World} (hr : (Kd.int .u64).C w A ws.length (nw ws)) (hc : ws.length ≤ c) (hok : ¬ OkN n ws) : Calls Tryd.prog 23 #[.int .i64 n, .slice A ws.length c] w fun e w' => ∃ v, e = .returned (.tuple #[v, .int .i64 101]) ∧ Below w.heap.size w w' :=
  (rof_calls n hn ws hlt A c w hr hc).mono fun e w' ⟨hB, h⟩ => by
    rcases h with ⟨_, v, he⟩ | ⟨h, _⟩
    · exact ⟨v, he, hB⟩
    · exact absurd h hok
set_option maxHeartbeats 4000000 in
set_option maxRecDepth 100000 in
theorem back_calls (n : Int) (hn : -9223372036854775808 ≤ n ∧ n < 9223372036854775808) (ws : List Nat) (hlt : ∀ x ∈ ws, x < 18446744073709551616) (A : Option Addr) (c : Nat) (w : World) (h : Ok0 w) (hr : (Kd.int .u64).C w A ws.length (nw ws)) (hc : ws.length ≤ c) :
    Calls Tryd.prog 5 #[.int .i64 n, .slice A ws.length c] w (TruePost w) := by
  have hw := Aside0.mk h
  have hr2 := Aside0.mk hr
  have hc2 := Aside0.mk hc
  have hlt2 := Aside0.mk hlt
  have hn2 := Aside0.mk hn
  clear h hr hc hlt hn
  by_cases h100 : (100 : Int) < (ws.length : Int)
  · have d1 : decide ((100 : Int) < (ws.length : Int)) = true := decide_eq_true h100
    clear h100
    go_enter Tryd.func5, Tryd.ntmps5
    go_wp2_with (first
      | (go_at_call 11; (with_reducible refine (awake_at hw.out (Below.refl _ _)).mono ?_); rintro e w1 ⟨rfl, hB⟩; replace hB := Aside0.mk hB))
    go_ret
    exact ⟨rfl, hB.out⟩
  · have d1 : decide ((100 : Int) < (ws.length : Int)) = false := decide_eq_false h100
    have h1m := Aside0.mk (show ws.length ≤ 1000000 by omega)
    clear h100
    by_cases hok : OkN n ws
    · obtain ⟨m, rfl⟩ := Int.eq_ofNat_of_zero_le (show 0 ≤ n by have := hok.lo; omega)
      have hl16 := Aside0.mk (show ws.length ≤ 16 by have := hok.len; have := hok.hi; rw [Int.toNat_natCast] at *; omega)
      have hok2 := Aside0.mk hok
      clear hok
      go_enter Tryd.func5, Tryd.ntmps5
      go_wp2_with (first
        | (go_at_call 22; (with_reducible refine (of_ok hn2.out hlt2.out hr2.out hc2.out hok2.out).mono ?_); rintro e w1 ⟨b, g, rfl, hbw, hB⟩; replace hB := Aside0.mk hB; replace hbw := Aside0.mk (show BW _ _ b g m ws from hbw))
        | (go_at_call 23; (with_reducible refine (rof_ok hn2.out hlt2.out (Kd.C_below hr2.out hB.out) hc2.out hok2.out).mono ?_); rintro e w2 ⟨v, rfl, hB2⟩; replace hbw := Aside0.mk (hbw.out.below hB2); replace hB := Aside0.mk (below_step hB.out hB2); clear hB2)
        | (go_at_call 20; (with_reducible refine (words_calls _ b g m ws _ hbw.out hl16.out).mono ?_); rintro e w3 ⟨A3, c3, rfl, hc3, hC3, hB3⟩; replace hbw := Aside0.mk (hbw.out.below hB3); replace hB := Aside0.mk (below_step hB.out hB3); clear hB3; replace hc3 := Aside0.mk hc3; replace hC3 := Aside0.mk hC3)
        | (go_at_call 19; (with_reducible refine (cmp_calls ws h1m.out _ _ _ _ _ hC3.out hc3.out (Kd.C_below hr2.out hB.out) hc2.out).mono ?_); rintro e w4 ⟨rfl, hB4⟩; replace hbw := Aside0.mk (hbw.out.below hB4); replace hB := Aside0.mk (below_step hB.out hB4); clear hB4)
        | (go_at_call 17; (with_reducible refine (len_calls b m _ hbw.out.c0).mono ?_); rintro e w5 ⟨rfl, rfl⟩)
        | (go_at_call 11; (with_reducible refine (awake_at hw.out hB.out).mono ?_); rintro e w6 ⟨rfl, hB6⟩; replace hB6 := Aside0.mk hB6))
      go_ret
      exact ⟨rfl, hB6.out⟩
    · have hok2 := Aside0.mk hok
      clear hok
      go_enter Tryd.func5, Tryd.ntmps5
      go_wp2_with (first
        | (go_at_call 22; (with_reducible refine (of_bad hn2.out hlt2.out hr2.out hc2.out hok2.out).mono ?_); rintro e w1 ⟨rfl, hB⟩; replace hB := Aside0.mk hB)
        | (go_at_call 23; (with_reducible refine (rof_bad hn2.out hlt2.out (Kd.C_below hr2.out hB.out) hc2.out hok2.out).mono ?_); rintro e w2 ⟨v, rfl, hB2⟩; replace hB := Aside0.mk (below_step hB.out hB2); clear hB2)
        | (go_at_call 11; (with_reducible refine (awake_at hw.out hB.out).mono ?_); rintro e w6 ⟨rfl, hB6⟩; replace hB6 := Aside0.mk hB6))
      go_ret
      exact ⟨rfl, hB6.out⟩
end Go.Proofs.YtmfabgdgpdgdiaaDoor.Q
