/- januslaw07.VmSafe: part 4 of 7: what the walks and the plain law need, in order. -/
import Derived.Test.YtjbpljcfogekhaaVs3
import Derived.Deep.RegionHeld3
import Derived.StillTailTactics
set_option linter.unusedVariables false
set_option linter.unusedSimpArgs false
namespace Go.Proofs.Ytjbpljcfogekhaa.Q
open Go.RowKit YtjbpljcfogekhaaW.PrintWords YtjbpljcfogekhaaW.PrintLast YtjbpljcfogekhaaW.PrintMore
set_option maxHeartbeats 4000000 in
set_option maxRecDepth 100000 in
theorem step_push (k : Nat) (s : ByteArray) (pc : Int) (A : Option Addr) (c : Nat) (bs : List Int) (t2 t3 t4 q : Int) (w : World) (hr : Kd.C (Kd.int .u64) w A (bs.length) bs) (hc : bs.length ≤ c) (hl : bs.length < 1000000)
  (h : code_One.f k s pc = some (0, t2, t3, t4, 0)) (h2 : code_Moves.f k 0 t2 t3 t4 = some (0, q)) (hq0 : 0 ≤ q) (hq1 : q ≤ 10) (hfit : (bs.length : Int) + q ≤ 32) :
  Calls Try.prog 45 #[.string s, .agg #[.int .i64 pc, .slice A (bs.length) c]] w fun e w' => ∃ v1_ : Value, e = .returned (.tuple #[.agg #[.int .i64 (wrap64 (t3 + t4)), v1_], .agg #[.int .i64 0, .int .u64 0, .int .u64 0, .int .i64 0]]) ∧ Kd.R (Kd.int .u64) 34 w' w.heap.size (fun _ => True) v1_ (bs ++ [t2]) ∧ Below w.heap.size w w' := by
 have hu59 := Try.underlying59
 have hu61 := Try.underlying61
 have hu36 := Try.underlying36
 have HO := Aside0.mk h
 have HM := Aside0.mk h2
 have HR := Aside0.mk hr
 have HRb := Aside0.mk (id hr)
 have HL := Aside0.mk (show bs.length < 17592186044416 by omega)
 have hcb : (bs.length : Int) ≤ (c : Int) := by omega
 have hcb0 : (0 : Int) ≤ (bs.length : Int) := by omega
 clear h h2 hr
 go_enter Try.func45, Try.ntmps45
 go_wp2_with (first
  | (go_at_call 20; refine (code_One.calls k s pc 0 t2 t3 t4 0 _ HO.out).mono ?_; rintro e w4 ⟨rfl, hb⟩; obtain ⟨b0, b1, b2, hB, hz4⟩ := three_blocks hb; have z0 : w.heap.size < w4.heap.size := (by omega); have z1 : w.heap.size + 1 < w4.heap.size := (by omega); have z2 : w.heap.size + 1 + 1 < w4.heap.size := (by omega); clear hz4; obtain ⟨⟨c00, c01⟩, f00, f01⟩ := cells2 b0; obtain ⟨⟨c10, c11⟩, f10, f11⟩ := cells2 b1; obtain ⟨⟨c20, c21, c22, c23⟩, f20, f21, f22, f23⟩ := cells4 b2; have B0 := Aside0.mk b0; have B1 := Aside0.mk b1; have B2 := Aside0.mk b2; have HB := Aside0.mk hB; clear b0 b1 b2 hB hb)
  | (go_at_call 23; refine (code_Moves.calls k 0 t2 t3 t4 0 q _ HM.out).mono ?_; rintro e w5 ⟨rfl, hb⟩; have b0 := blk_below (blk_alloc B0.out _) hb; have b1 := blk_below (blk_alloc B1.out _) hb; have b2 := blk_below (blk_alloc B2.out _) hb; have b6 := blk_below (blk_new w4 _) hb; have HB5 := Aside0.mk (below_step (below_alloc HB.out _) hb); have y6 : w4.heap.size < w5.heap.size := (blk_lt b6); have y0 : w.heap.size < w5.heap.size := (blk_lt b0); have y1 : w.heap.size + 1 < w5.heap.size := (blk_lt b1); have y2 : w.heap.size + 1 + 1 < w5.heap.size := (blk_lt b2); have n6 : ¬ w4.heap.size = w5.heap.size := (Nat.ne_of_lt y6); have n0 : ¬ w.heap.size = w5.heap.size := (Nat.ne_of_lt y0); have n1 : ¬ w.heap.size + 1 = w5.heap.size := (Nat.ne_of_lt y1); have n2 : ¬ w.heap.size + 1 + 1 = w5.heap.size := (Nat.ne_of_lt y2); have m6 : ¬ w5.heap.size = w4.heap.size := (Nat.ne_of_gt y6); have m0 : ¬ w5.heap.size = w.heap.size := (Nat.ne_of_gt y0); have m1 : ¬ w5.heap.size = w.heap.size + 1 := (Nat.ne_of_gt y1); have m2 : ¬ w5.heap.size = w.heap.size + 1 + 1 := (Nat.ne_of_gt y2); clear c00 c01 f00 f01 c10 c11 f10 f11 c20 c21 c22 c23 f20 f21 f22 f23; obtain ⟨⟨c00, c01⟩, f00, f01⟩ := cells2 b0; obtain ⟨⟨c10, c11⟩, f10, f11⟩ := cells2 b1; obtain ⟨⟨c20, c21, c22, c23⟩, f20, f21, f22, f23⟩ := cells4 b2; obtain ⟨⟨c60, c61, c62, c63⟩, f60, f61, f62, f63⟩ := cells4 b6; have B0' := Aside0.mk b0; have B1' := Aside0.mk b1; have B2' := Aside0.mk b2; have B6' := Aside0.mk b6; clear b0 b1 b2 b6 hb))
 go_cut [11] (fun v11 wc => ∃ (g : Nat) (vv : Value), v11 = .pointer (some ⟨g, 0, none⟩) ∧ Aside0 (StepMid w wc w4.heap.size g pc A (bs.length) c 0 t2 t3 t4 (wrap64 (t3 + t4)) vv bs))
 case first =>
  go_region_held3 (fun w' => w'.cell? ⟨w4.heap.size, 2, none⟩ = some (.int .i64 t3) ∧ w'.cell? ⟨w4.heap.size, 3, none⟩ = some (.int .i64 t4) ∧ w'.cell? ⟨w.heap.size, 1, none⟩ = some (.slice A (bs.length) c))
   (first | go_keep | ((try dsimp only); (repeat' apply And.intro); all_goals go_keep))
   ((go_at_call 47; go_must (refine (clone_row A c bs _ (Kd.C_below HRb.out (by repeat (first | (with_reducible exact HB5.out) | (with_reducible apply below_alloc) | (with_reducible apply below_drew)))) (by omega) HL.out).mono ?_; rintro e w6 ⟨vv, rfl, hR, hb⟩; obtain ⟨A5, c5, rfl⟩ := Kd.R_slice hR; have hB56 : Below w5.heap.size w5 w6 := (by refine below_step ?_ hb; repeat (first | (with_reducible exact Below.refl _ _) | (with_reducible apply below_alloc) | (with_reducible apply below_drew))); have b0 := blk_below B0'.out hB56; have b1 := blk_below B1'.out hB56; have b2 := blk_below B2'.out hB56; have b6 := blk_below B6'.out hB56; have v0 := blk_lt b0; have v1 := blk_lt b1; have v2 := blk_lt b2; have v6 := blk_lt b6; clear c00 c01 f00 f01 c10 c11 f10 f11 c20 c21 c22 c23 f20 f21 f22 f23 c60 c61 c62 c63 f60 f61 f62 f63; obtain ⟨⟨c00, c01⟩, f00, f01⟩ := cells2 b0; obtain ⟨⟨c10, c11⟩, f10, f11⟩ := cells2 b1; obtain ⟨⟨c20, c21, c22, c23⟩, f20, f21, f22, f23⟩ := cells4 b2; obtain ⟨⟨c60, c61, c62, c63⟩, f60, f61, f62, f63⟩ := cells4 b6; have E0 := Aside0.mk b0; have E1 := Aside0.mk b1; have E2 := Aside0.mk b2; have E6 := Aside0.mk b6; clear b0 b1 b2 b6; have ER := Aside0.mk hR; have EB := Aside0.mk hB56; (try (have b11 : w6.heap[w5.heap.size]? = some (.cells #[.int .i64 0, .slice none 0 0] 59 (0, 0)) := (by with_reducible exact blk_below (blk_drew (blk_new w5 _)) hb); obtain ⟨⟨d0, d1⟩, e0, e1⟩ := cells2 b11; have y11 := blk_lt b11; have E11 := Aside0.mk b11; clear b11)); clear hR)))
  all_goals go_wp2
  all_goals go_meet
  all_goals simp only [i64_w]
  case rel => exact ⟨_, _, rfl, ⟨mid_new E0.out E1.out E2.out E6.out ER.out (by simp; omega) HB5.out EB.out (by omega)⟩⟩
  case rel => exact ⟨_, _, rfl, ⟨mid_old E0.out E1.out E2.out E6.out E11.out ER.out (by simp) HB5.out EB.out (by omega) (by omega)⟩⟩
 case rest =>
  obtain ⟨g, vv, rfl, HC⟩ := hcut
  have m := HC.out
  obtain ⟨A5, c5, rfl⟩ := Kd.R_slice m.row
  clear c00 c01 f00 f01 c10 c11 f10 f11 c20 c21 c22 c23 f20 f21 f22 f23 c60 c61 c62 c63 f60 f61 f62 f63 y6 y0 y1 y2 n6 n0 n1 n2 m6 m0 m1 m2 z0 z1 z2 HB HB5 B0 B1 B2 B0' B1' B2' B6'
  obtain ⟨⟨c00, c01⟩, f00, f01⟩ := cells2 m.b0
  obtain ⟨⟨c10, c11⟩, f10, f11⟩ := cells2 m.b1
  obtain ⟨⟨c20, c21, c22, c23⟩, f20, f21, f22, f23⟩ := cells4 m.b2
  obtain ⟨⟨c60, c61, c62, c63⟩, f60, f61, f62, f63⟩ := cells4 m.b6
  obtain ⟨⟨cg0, cg1⟩, fg0, fg1⟩ := cells2 m.bg
  have LB := m.bel.size
  have L6 := m.n6
  have LG := m.ng
  clear m
  go_wp2_with (first | (go_at_call 50; go_must (refine (push_mid HC.out _ (by repeat (first | (with_reducible exact Below.refl _ _) | (with_reducible apply below_alloc) | (with_reducible apply below_drew) | (with_reducible refine pw_below_drewN ?_ _))) [t2] _ _ (lit_row [t2] (by simp) (by repeat (first | (with_reducible exact blk_new _ _) | (with_reducible refine blk_drew ?_) | (with_reducible refine blk_drewN ?_ _) | exact blk_new _ _))) (by simp; omega)).mono ?_; rintro e w7 ⟨rfl, v7, hm⟩; obtain ⟨A7, c7, rfl⟩ := Kd.R_slice hm.row; clear c00 c01 f00 f01 c10 c11 f10 f11 c20 c21 c22 c23 f20 f21 f22 f23 c60 c61 c62 c63 f60 f61 f62 f63 cg0 cg1 fg0 fg1; obtain ⟨⟨c10, c11⟩, f10, f11⟩ := cells2 hm.b1; obtain ⟨⟨c20, c21, c22, c23⟩, f20, f21, f22, f23⟩ := cells4 hm.b2; obtain ⟨⟨cg0, cg1⟩, fg0, fg1⟩ := cells2 hm.bg; have HM7 := Aside0.mk hm; clear hm)))
  all_goals refine bodyPost_ret (v := .tuple #[.agg #[.int .i64 (wrap64 (t3 + t4)), .slice A7 (bs ++ [t2]).length c7], .agg #[.int .i64 0, .int .u64 0, .int .u64 0, .int .i64 0]]) (by simp [results, Try.results45, go_sem, c10, c11, c20, c21, c22, c23, i64_w, List.length_append]) rfl ⟨_, rfl, end_row HM7.out.row HM7.out.b1 HM7.out.b2 _ _ _ _ _ _, end_below HM7.out.bel _ _ _ _ _ _⟩
set_option maxHeartbeats 4000000 in
set_option maxRecDepth 100000 in
theorem step_word (k : Nat) (s : ByteArray) (pc : Int) (A : Option Addr) (c : Nat) (bs : List Int) (t2 t3 t4 q : Int) (w : World) (hr : Kd.C (Kd.int .u64) w A (bs.length) bs) (hc : bs.length ≤ c) (hl : bs.length < 1000000)
  (h : code_One.f k s pc = some (1, t2, t3, t4, 0)) (h2 : code_Moves.f k 1 t2 t3 t4 = some (0, q)) (hq0 : 0 ≤ q) (hq1 : q ≤ 10) (hfit : (bs.length : Int) + q ≤ 32) :
  Calls Try.prog 45 #[.string s, .agg #[.int .i64 pc, .slice A (bs.length) c]] w fun e w' => ∃ v1_ : Value, e = .returned (.tuple #[.agg #[.int .i64 (wrap64 (t3 + t4)), v1_], .agg #[.int .i64 0, .int .u64 0, .int .u64 0, .int .i64 0]]) ∧ Kd.R (Kd.int .u64) 34 w' w.heap.size (fun _ => True) v1_ (bs ++ [t2]) ∧ Below w.heap.size w w' := by
 have hu59 := Try.underlying59
 have hu61 := Try.underlying61
 have hu36 := Try.underlying36
 have HO := Aside0.mk h
 have HM := Aside0.mk h2
 have HR := Aside0.mk hr
 have HRb := Aside0.mk (id hr)
 have HL := Aside0.mk (show bs.length < 17592186044416 by omega)
 have hcb : (bs.length : Int) ≤ (c : Int) := by omega
 have hcb0 : (0 : Int) ≤ (bs.length : Int) := by omega
 clear h h2 hr
 go_enter Try.func45, Try.ntmps45
 go_wp2_with (first
  | (go_at_call 20; refine (code_One.calls k s pc 1 t2 t3 t4 0 _ HO.out).mono ?_; rintro e w4 ⟨rfl, hb⟩; obtain ⟨b0, b1, b2, hB, hz4⟩ := three_blocks hb; have z0 : w.heap.size < w4.heap.size := (by omega); have z1 : w.heap.size + 1 < w4.heap.size := (by omega); have z2 : w.heap.size + 1 + 1 < w4.heap.size := (by omega); clear hz4; obtain ⟨⟨c00, c01⟩, f00, f01⟩ := cells2 b0; obtain ⟨⟨c10, c11⟩, f10, f11⟩ := cells2 b1; obtain ⟨⟨c20, c21, c22, c23⟩, f20, f21, f22, f23⟩ := cells4 b2; have B0 := Aside0.mk b0; have B1 := Aside0.mk b1; have B2 := Aside0.mk b2; have HB := Aside0.mk hB; clear b0 b1 b2 hB hb)
  | (go_at_call 23; refine (code_Moves.calls k 1 t2 t3 t4 0 q _ HM.out).mono ?_; rintro e w5 ⟨rfl, hb⟩; have b0 := blk_below (blk_alloc B0.out _) hb; have b1 := blk_below (blk_alloc B1.out _) hb; have b2 := blk_below (blk_alloc B2.out _) hb; have b6 := blk_below (blk_new w4 _) hb; have HB5 := Aside0.mk (below_step (below_alloc HB.out _) hb); have y6 : w4.heap.size < w5.heap.size := (blk_lt b6); have y0 : w.heap.size < w5.heap.size := (blk_lt b0); have y1 : w.heap.size + 1 < w5.heap.size := (blk_lt b1); have y2 : w.heap.size + 1 + 1 < w5.heap.size := (blk_lt b2); have n6 : ¬ w4.heap.size = w5.heap.size := (Nat.ne_of_lt y6); have n0 : ¬ w.heap.size = w5.heap.size := (Nat.ne_of_lt y0); have n1 : ¬ w.heap.size + 1 = w5.heap.size := (Nat.ne_of_lt y1); have n2 : ¬ w.heap.size + 1 + 1 = w5.heap.size := (Nat.ne_of_lt y2); have m6 : ¬ w5.heap.size = w4.heap.size := (Nat.ne_of_gt y6); have m0 : ¬ w5.heap.size = w.heap.size := (Nat.ne_of_gt y0); have m1 : ¬ w5.heap.size = w.heap.size + 1 := (Nat.ne_of_gt y1); have m2 : ¬ w5.heap.size = w.heap.size + 1 + 1 := (Nat.ne_of_gt y2); clear c00 c01 f00 f01 c10 c11 f10 f11 c20 c21 c22 c23 f20 f21 f22 f23; obtain ⟨⟨c00, c01⟩, f00, f01⟩ := cells2 b0; obtain ⟨⟨c10, c11⟩, f10, f11⟩ := cells2 b1; obtain ⟨⟨c20, c21, c22, c23⟩, f20, f21, f22, f23⟩ := cells4 b2; obtain ⟨⟨c60, c61, c62, c63⟩, f60, f61, f62, f63⟩ := cells4 b6; have B0' := Aside0.mk b0; have B1' := Aside0.mk b1; have B2' := Aside0.mk b2; have B6' := Aside0.mk b6; clear b0 b1 b2 b6 hb))
 go_cut [11] (fun v11 wc => ∃ (g : Nat) (vv : Value), v11 = .pointer (some ⟨g, 0, none⟩) ∧ Aside0 (StepMid w wc w4.heap.size g pc A (bs.length) c 1 t2 t3 t4 (wrap64 (t3 + t4)) vv bs))
 case first =>
  go_region_held3 (fun w' => w'.cell? ⟨w4.heap.size, 2, none⟩ = some (.int .i64 t3) ∧ w'.cell? ⟨w4.heap.size, 3, none⟩ = some (.int .i64 t4) ∧ w'.cell? ⟨w.heap.size, 1, none⟩ = some (.slice A (bs.length) c))
   (first | go_keep | ((try dsimp only); (repeat' apply And.intro); all_goals go_keep))
   ((go_at_call 47; go_must (refine (clone_row A c bs _ (Kd.C_below HRb.out (by repeat (first | (with_reducible exact HB5.out) | (with_reducible apply below_alloc) | (with_reducible apply below_drew)))) (by omega) HL.out).mono ?_; rintro e w6 ⟨vv, rfl, hR, hb⟩; obtain ⟨A5, c5, rfl⟩ := Kd.R_slice hR; have hB56 : Below w5.heap.size w5 w6 := (by refine below_step ?_ hb; repeat (first | (with_reducible exact Below.refl _ _) | (with_reducible apply below_alloc) | (with_reducible apply below_drew))); have b0 := blk_below B0'.out hB56; have b1 := blk_below B1'.out hB56; have b2 := blk_below B2'.out hB56; have b6 := blk_below B6'.out hB56; have v0 := blk_lt b0; have v1 := blk_lt b1; have v2 := blk_lt b2; have v6 := blk_lt b6; clear c00 c01 f00 f01 c10 c11 f10 f11 c20 c21 c22 c23 f20 f21 f22 f23 c60 c61 c62 c63 f60 f61 f62 f63; obtain ⟨⟨c00, c01⟩, f00, f01⟩ := cells2 b0; obtain ⟨⟨c10, c11⟩, f10, f11⟩ := cells2 b1; obtain ⟨⟨c20, c21, c22, c23⟩, f20, f21, f22, f23⟩ := cells4 b2; obtain ⟨⟨c60, c61, c62, c63⟩, f60, f61, f62, f63⟩ := cells4 b6; have E0 := Aside0.mk b0; have E1 := Aside0.mk b1; have E2 := Aside0.mk b2; have E6 := Aside0.mk b6; clear b0 b1 b2 b6; have ER := Aside0.mk hR; have EB := Aside0.mk hB56; (try (have b11 : w6.heap[w5.heap.size]? = some (.cells #[.int .i64 0, .slice none 0 0] 59 (0, 0)) := (by with_reducible exact blk_below (blk_drew (blk_new w5 _)) hb); obtain ⟨⟨d0, d1⟩, e0, e1⟩ := cells2 b11; have y11 := blk_lt b11; have E11 := Aside0.mk b11; clear b11)); clear hR)))
  all_goals go_wp2
  all_goals go_meet
  all_goals simp only [i64_w]
  case rel => exact ⟨_, _, rfl, ⟨mid_new E0.out E1.out E2.out E6.out ER.out (by simp; omega) HB5.out EB.out (by omega)⟩⟩
  case rel => exact ⟨_, _, rfl, ⟨mid_old E0.out E1.out E2.out E6.out E11.out ER.out (by simp) HB5.out EB.out (by omega) (by omega)⟩⟩
 case rest =>
  obtain ⟨g, vv, rfl, HC⟩ := hcut
  have m := HC.out
  obtain ⟨A5, c5, rfl⟩ := Kd.R_slice m.row
  clear c00 c01 f00 f01 c10 c11 f10 f11 c20 c21 c22 c23 f20 f21 f22 f23 c60 c61 c62 c63 f60 f61 f62 f63 y6 y0 y1 y2 n6 n0 n1 n2 m6 m0 m1 m2 z0 z1 z2 HB HB5 B0 B1 B2 B0' B1' B2' B6'
  obtain ⟨⟨c00, c01⟩, f00, f01⟩ := cells2 m.b0
  obtain ⟨⟨c10, c11⟩, f10, f11⟩ := cells2 m.b1
  obtain ⟨⟨c20, c21, c22, c23⟩, f20, f21, f22, f23⟩ := cells4 m.b2
  obtain ⟨⟨c60, c61, c62, c63⟩, f60, f61, f62, f63⟩ := cells4 m.b6
  obtain ⟨⟨cg0, cg1⟩, fg0, fg1⟩ := cells2 m.bg
  have LB := m.bel.size
  have L6 := m.n6
  have LG := m.ng
  clear m
  go_wp2_with (first | (go_at_call 50; go_must (refine (push_mid HC.out _ (by repeat (first | (with_reducible exact Below.refl _ _) | (with_reducible apply below_alloc) | (with_reducible apply below_drew) | (with_reducible refine pw_below_drewN ?_ _))) [t2] _ _ (lit_row [t2] (by simp) (by repeat (first | (with_reducible exact blk_new _ _) | (with_reducible refine blk_drew ?_) | (with_reducible refine blk_drewN ?_ _) | exact blk_new _ _))) (by simp; omega)).mono ?_; rintro e w7 ⟨rfl, v7, hm⟩; obtain ⟨A7, c7, rfl⟩ := Kd.R_slice hm.row; clear c00 c01 f00 f01 c10 c11 f10 f11 c20 c21 c22 c23 f20 f21 f22 f23 c60 c61 c62 c63 f60 f61 f62 f63 cg0 cg1 fg0 fg1; obtain ⟨⟨c10, c11⟩, f10, f11⟩ := cells2 hm.b1; obtain ⟨⟨c20, c21, c22, c23⟩, f20, f21, f22, f23⟩ := cells4 hm.b2; obtain ⟨⟨cg0, cg1⟩, fg0, fg1⟩ := cells2 hm.bg; have HM7 := Aside0.mk hm; clear hm)))
  all_goals refine bodyPost_ret (v := .tuple #[.agg #[.int .i64 (wrap64 (t3 + t4)), .slice A7 (bs ++ [t2]).length c7], .agg #[.int .i64 0, .int .u64 0, .int .u64 0, .int .i64 0]]) (by simp [results, Try.results45, go_sem, c10, c11, c20, c21, c22, c23, i64_w, List.length_append]) rfl ⟨_, rfl, end_row HM7.out.row HM7.out.b1 HM7.out.b2 _ _ _ _ _ _, end_below HM7.out.bel _ _ _ _ _ _⟩
end Go.Proofs.Ytjbpljcfogekhaa.Q
namespace Go.Proofs.Ytjbpljcfogekhaa.Q
open Go.RowKit YtjbpljcfogekhaaW.PrintWords YtjbpljcfogekhaaW.PrintLast YtjbpljcfogekhaaW.PrintMore
set_option maxHeartbeats 4000000 in
set_option maxRecDepth 100000 in
theorem step_jump (k : Nat) (s : ByteArray) (pc : Int) (A : Option Addr) (c : Nat) (bs : List Int) (t2 t3 t4 q : Int) (w : World) (hr : Kd.C (Kd.int .u64) w A (bs.length) bs) (hc : bs.length ≤ c) (hl : bs.length < 1000000)
  (h : code_One.f k s pc = some (21, t2, t3, t4, 0)) (h2 : code_Moves.f k 21 t2 t3 t4 = some (0, q)) (hq0 : 0 ≤ q) (hq1 : q ≤ 10) (hfit : (bs.length : Int) + q ≤ 32) :
  Calls Try.prog 45 #[.string s, .agg #[.int .i64 pc, .slice A (bs.length) c]] w fun e w' => ∃ v1_ : Value, e = .returned (.tuple #[.agg #[.int .i64 (wrap64 t2), v1_], .agg #[.int .i64 0, .int .u64 0, .int .u64 0, .int .i64 0]]) ∧ Kd.R (Kd.int .u64) 34 w' w.heap.size (fun _ => True) v1_ (bs) ∧ Below w.heap.size w w' := by
 have hu59 := Try.underlying59
 have hu61 := Try.underlying61
 have hu36 := Try.underlying36
 have HO := Aside0.mk h
 have HM := Aside0.mk h2
 have HR := Aside0.mk hr
 have HRb := Aside0.mk (id hr)
 have HL := Aside0.mk (show bs.length < 17592186044416 by omega)
 have hcb : (bs.length : Int) ≤ (c : Int) := by omega
 have hcb0 : (0 : Int) ≤ (bs.length : Int) := by omega
 clear h h2 hr
 go_enter Try.func45, Try.ntmps45
 go_wp2_with (first
  | (go_at_call 20; refine (code_One.calls k s pc 21 t2 t3 t4 0 _ HO.out).mono ?_; rintro e w4 ⟨rfl, hb⟩; obtain ⟨b0, b1, b2, hB, hz4⟩ := three_blocks hb; have z0 : w.heap.size < w4.heap.size := (by omega); have z1 : w.heap.size + 1 < w4.heap.size := (by omega); have z2 : w.heap.size + 1 + 1 < w4.heap.size := (by omega); clear hz4; obtain ⟨⟨c00, c01⟩, f00, f01⟩ := cells2 b0; obtain ⟨⟨c10, c11⟩, f10, f11⟩ := cells2 b1; obtain ⟨⟨c20, c21, c22, c23⟩, f20, f21, f22, f23⟩ := cells4 b2; have B0 := Aside0.mk b0; have B1 := Aside0.mk b1; have B2 := Aside0.mk b2; have HB := Aside0.mk hB; clear b0 b1 b2 hB hb)
  | (go_at_call 23; refine (code_Moves.calls k 21 t2 t3 t4 0 q _ HM.out).mono ?_; rintro e w5 ⟨rfl, hb⟩; have b0 := blk_below (blk_alloc B0.out _) hb; have b1 := blk_below (blk_alloc B1.out _) hb; have b2 := blk_below (blk_alloc B2.out _) hb; have b6 := blk_below (blk_new w4 _) hb; have HB5 := Aside0.mk (below_step (below_alloc HB.out _) hb); have y6 : w4.heap.size < w5.heap.size := (blk_lt b6); have y0 : w.heap.size < w5.heap.size := (blk_lt b0); have y1 : w.heap.size + 1 < w5.heap.size := (blk_lt b1); have y2 : w.heap.size + 1 + 1 < w5.heap.size := (blk_lt b2); have n6 : ¬ w4.heap.size = w5.heap.size := (Nat.ne_of_lt y6); have n0 : ¬ w.heap.size = w5.heap.size := (Nat.ne_of_lt y0); have n1 : ¬ w.heap.size + 1 = w5.heap.size := (Nat.ne_of_lt y1); have n2 : ¬ w.heap.size + 1 + 1 = w5.heap.size := (Nat.ne_of_lt y2); have m6 : ¬ w5.heap.size = w4.heap.size := (Nat.ne_of_gt y6); have m0 : ¬ w5.heap.size = w.heap.size := (Nat.ne_of_gt y0); have m1 : ¬ w5.heap.size = w.heap.size + 1 := (Nat.ne_of_gt y1); have m2 : ¬ w5.heap.size = w.heap.size + 1 + 1 := (Nat.ne_of_gt y2); clear c00 c01 f00 f01 c10 c11 f10 f11 c20 c21 c22 c23 f20 f21 f22 f23; obtain ⟨⟨c00, c01⟩, f00, f01⟩ := cells2 b0; obtain ⟨⟨c10, c11⟩, f10, f11⟩ := cells2 b1; obtain ⟨⟨c20, c21, c22, c23⟩, f20, f21, f22, f23⟩ := cells4 b2; obtain ⟨⟨c60, c61, c62, c63⟩, f60, f61, f62, f63⟩ := cells4 b6; have B0' := Aside0.mk b0; have B1' := Aside0.mk b1; have B2' := Aside0.mk b2; have B6' := Aside0.mk b6; clear b0 b1 b2 b6 hb))
 go_cut [11] (fun v11 wc => ∃ (g : Nat) (vv : Value), v11 = .pointer (some ⟨g, 0, none⟩) ∧ Aside0 (StepMid w wc w4.heap.size g pc A (bs.length) c 21 t2 t3 t4 (wrap64 (t3 + t4)) vv bs))
 case first =>
  go_region_held3 (fun w' => w'.cell? ⟨w4.heap.size, 2, none⟩ = some (.int .i64 t3) ∧ w'.cell? ⟨w4.heap.size, 3, none⟩ = some (.int .i64 t4) ∧ w'.cell? ⟨w.heap.size, 1, none⟩ = some (.slice A (bs.length) c))
   (first | go_keep | ((try dsimp only); (repeat' apply And.intro); all_goals go_keep))
   ((go_at_call 47; go_must (refine (clone_row A c bs _ (Kd.C_below HRb.out (by repeat (first | (with_reducible exact HB5.out) | (with_reducible apply below_alloc) | (with_reducible apply below_drew)))) (by omega) HL.out).mono ?_; rintro e w6 ⟨vv, rfl, hR, hb⟩; obtain ⟨A5, c5, rfl⟩ := Kd.R_slice hR; have hB56 : Below w5.heap.size w5 w6 := (by refine below_step ?_ hb; repeat (first | (with_reducible exact Below.refl _ _) | (with_reducible apply below_alloc) | (with_reducible apply below_drew))); have b0 := blk_below B0'.out hB56; have b1 := blk_below B1'.out hB56; have b2 := blk_below B2'.out hB56; have b6 := blk_below B6'.out hB56; have v0 := blk_lt b0; have v1 := blk_lt b1; have v2 := blk_lt b2; have v6 := blk_lt b6; clear c00 c01 f00 f01 c10 c11 f10 f11 c20 c21 c22 c23 f20 f21 f22 f23 c60 c61 c62 c63 f60 f61 f62 f63; obtain ⟨⟨c00, c01⟩, f00, f01⟩ := cells2 b0; obtain ⟨⟨c10, c11⟩, f10, f11⟩ := cells2 b1; obtain ⟨⟨c20, c21, c22, c23⟩, f20, f21, f22, f23⟩ := cells4 b2; obtain ⟨⟨c60, c61, c62, c63⟩, f60, f61, f62, f63⟩ := cells4 b6; have E0 := Aside0.mk b0; have E1 := Aside0.mk b1; have E2 := Aside0.mk b2; have E6 := Aside0.mk b6; clear b0 b1 b2 b6; have ER := Aside0.mk hR; have EB := Aside0.mk hB56; (try (have b11 : w6.heap[w5.heap.size]? = some (.cells #[.int .i64 0, .slice none 0 0] 59 (0, 0)) := (by with_reducible exact blk_below (blk_drew (blk_new w5 _)) hb); obtain ⟨⟨d0, d1⟩, e0, e1⟩ := cells2 b11; have y11 := blk_lt b11; have E11 := Aside0.mk b11; clear b11)); clear hR)))
  all_goals go_wp2
  all_goals go_meet
  all_goals simp only [i64_w]
  case rel => exact ⟨_, _, rfl, ⟨mid_new E0.out E1.out E2.out E6.out ER.out (by simp; omega) HB5.out EB.out (by omega)⟩⟩
  case rel => exact ⟨_, _, rfl, ⟨mid_old E0.out E1.out E2.out E6.out E11.out ER.out (by simp) HB5.out EB.out (by omega) (by omega)⟩⟩
 case rest =>
  obtain ⟨g, vv, rfl, HC⟩ := hcut
  have m := HC.out
  obtain ⟨A5, c5, rfl⟩ := Kd.R_slice m.row
  clear c00 c01 f00 f01 c10 c11 f10 f11 c20 c21 c22 c23 f20 f21 f22 f23 c60 c61 c62 c63 f60 f61 f62 f63 y6 y0 y1 y2 n6 n0 n1 n2 m6 m0 m1 m2 z0 z1 z2 HB HB5 B0 B1 B2 B0' B1' B2' B6'
  obtain ⟨⟨c00, c01⟩, f00, f01⟩ := cells2 m.b0
  obtain ⟨⟨c10, c11⟩, f10, f11⟩ := cells2 m.b1
  obtain ⟨⟨c20, c21, c22, c23⟩, f20, f21, f22, f23⟩ := cells4 m.b2
  obtain ⟨⟨c60, c61, c62, c63⟩, f60, f61, f62, f63⟩ := cells4 m.b6
  obtain ⟨⟨cg0, cg1⟩, fg0, fg1⟩ := cells2 m.bg
  have LB := m.bel.size
  have L6 := m.n6
  have LG := m.ng
  clear m
  have ng1 : ¬ g = w.heap.size + 1 := by omega
  have ng2 : ¬ g = w.heap.size + 1 + 1 := by omega
  have ng1' : ¬ w.heap.size + 1 = g := by omega
  have ng2' : ¬ w.heap.size + 1 + 1 = g := by omega
  go_wp2
  all_goals refine bodyPost_ret (v := .tuple #[.agg #[.int .i64 (wrap64 t2), .slice A5 bs.length c5], .agg #[.int .i64 0, .int .u64 0, .int .u64 0, .int .i64 0]]) (by simp [results, Try.results45, go_sem, c10, c11, c20, c21, c22, c23, i64_w]) rfl ⟨_, rfl, end_row (mid_row HC.out _) (mid_b1 HC.out _) (mid_b2 HC.out _) _ _ _ _ _ _, end_below (mid_bel HC.out _) _ _ _ _ _ _⟩
end Go.Proofs.Ytjbpljcfogekhaa.Q
namespace Go.Proofs.Ytjbpljcfogekhaa.Q
open Go.RowKit YtjbpljcfogekhaaW.PrintWords YtjbpljcfogekhaaW.PrintLast YtjbpljcfogekhaaW.PrintMore
set_option maxHeartbeats 4000000 in
set_option maxRecDepth 100000 in
theorem step_op6 (k : Nat) (s : ByteArray) (pc : Int) (a : Addr) (c : Nat) (bs : List Int) (x0 x1 t2 t3 t4 q : Int) (w : World) (hr : Kd.C (Kd.int .u64) w (some a) (bs.length + 2) (bs ++ [x0, x1])) (hc : bs.length + 2 ≤ c) (hl : bs.length < 1000000)
  (h : code_One.f k s pc = some (6, t2, t3, t4, 0)) (h2 : code_Moves.f k 6 t2 t3 t4 = some (2, q)) (hq0 : 0 ≤ q) (hq1 : q ≤ 10) (hfit : (bs.length : Int) + q ≤ 32)
  (hx0' : 0 ≤ x0) (hx0'' : x0 < 18446744073709551616) (hx1' : 0 ≤ x1) (hx1'' : x1 < 18446744073709551616) :
  Calls Try.prog 45 #[.string s, .agg #[.int .i64 pc, .slice (some a) (bs.length + 2) c]] w fun e w' => ∃ v1_ : Value, e = .returned (.tuple #[.agg #[.int .i64 (wrap64 (t3 + t4)), v1_], .agg #[.int .i64 0, .int .u64 0, .int .u64 0, .int .i64 0]]) ∧ Kd.R (Kd.int .u64) 34 w' w.heap.size (fun _ => True) v1_ (bs ++ [binY 6 x0 x1]) ∧ Below w.heap.size w w' := by
 have hu59 := Try.underlying59
 have hu61 := Try.underlying61
 have hu36 := Try.underlying36
 have HO := Aside0.mk h
 have HM := Aside0.mk h2
 have HR := Aside0.mk hr
 have HRb := Aside0.mk (row_front hr)
 have HL := Aside0.mk (show bs.length < 17592186044416 by omega)
 have hcb : (bs.length : Int) ≤ (c : Int) := by omega
 have hcb0 : (0 : Int) ≤ (bs.length : Int) := by omega
 clear h h2 hr
 go_enter Try.func45, Try.ntmps45
 go_wp2_with (first
  | (go_at_call 20; refine (code_One.calls k s pc 6 t2 t3 t4 0 _ HO.out).mono ?_; rintro e w4 ⟨rfl, hb⟩; obtain ⟨b0, b1, b2, hB, hz4⟩ := three_blocks hb; have z0 : w.heap.size < w4.heap.size := (by omega); have z1 : w.heap.size + 1 < w4.heap.size := (by omega); have z2 : w.heap.size + 1 + 1 < w4.heap.size := (by omega); clear hz4; obtain ⟨⟨c00, c01⟩, f00, f01⟩ := cells2 b0; obtain ⟨⟨c10, c11⟩, f10, f11⟩ := cells2 b1; obtain ⟨⟨c20, c21, c22, c23⟩, f20, f21, f22, f23⟩ := cells4 b2; have B0 := Aside0.mk b0; have B1 := Aside0.mk b1; have B2 := Aside0.mk b2; have HB := Aside0.mk hB; clear b0 b1 b2 hB hb)
  | (go_at_call 23; refine (code_Moves.calls k 6 t2 t3 t4 2 q _ HM.out).mono ?_; rintro e w5 ⟨rfl, hb⟩; have b0 := blk_below (blk_alloc B0.out _) hb; have b1 := blk_below (blk_alloc B1.out _) hb; have b2 := blk_below (blk_alloc B2.out _) hb; have b6 := blk_below (blk_new w4 _) hb; have HB5 := Aside0.mk (below_step (below_alloc HB.out _) hb); have y6 : w4.heap.size < w5.heap.size := (blk_lt b6); have y0 : w.heap.size < w5.heap.size := (blk_lt b0); have y1 : w.heap.size + 1 < w5.heap.size := (blk_lt b1); have y2 : w.heap.size + 1 + 1 < w5.heap.size := (blk_lt b2); have n6 : ¬ w4.heap.size = w5.heap.size := (Nat.ne_of_lt y6); have n0 : ¬ w.heap.size = w5.heap.size := (Nat.ne_of_lt y0); have n1 : ¬ w.heap.size + 1 = w5.heap.size := (Nat.ne_of_lt y1); have n2 : ¬ w.heap.size + 1 + 1 = w5.heap.size := (Nat.ne_of_lt y2); have m6 : ¬ w5.heap.size = w4.heap.size := (Nat.ne_of_gt y6); have m0 : ¬ w5.heap.size = w.heap.size := (Nat.ne_of_gt y0); have m1 : ¬ w5.heap.size = w.heap.size + 1 := (Nat.ne_of_gt y1); have m2 : ¬ w5.heap.size = w.heap.size + 1 + 1 := (Nat.ne_of_gt y2); clear c00 c01 f00 f01 c10 c11 f10 f11 c20 c21 c22 c23 f20 f21 f22 f23; obtain ⟨⟨c00, c01⟩, f00, f01⟩ := cells2 b0; obtain ⟨⟨c10, c11⟩, f10, f11⟩ := cells2 b1; obtain ⟨⟨c20, c21, c22, c23⟩, f20, f21, f22, f23⟩ := cells4 b2; obtain ⟨⟨c60, c61, c62, c63⟩, f60, f61, f62, f63⟩ := cells4 b6; have B0' := Aside0.mk b0; have B1' := Aside0.mk b1; have B2' := Aside0.mk b2; have B6' := Aside0.mk b6; clear b0 b1 b2 b6 hb))
 go_cut [11] (fun v11 wc => ∃ (g : Nat) (vv : Value), v11 = .pointer (some ⟨g, 0, none⟩) ∧ Aside0 (StepMid w wc w4.heap.size g pc (some a) (bs.length + 2) c 6 t2 t3 t4 (wrap64 (t3 + t4)) vv bs))
 case first =>
  go_region_held3 (fun w' => w'.cell? ⟨w4.heap.size, 2, none⟩ = some (.int .i64 t3) ∧ w'.cell? ⟨w4.heap.size, 3, none⟩ = some (.int .i64 t4) ∧ w'.cell? ⟨w.heap.size, 1, none⟩ = some (.slice (some a) (bs.length + 2) c))
   (first | go_keep | ((try dsimp only); (repeat' apply And.intro); all_goals go_keep))
   ((go_at_call 47; go_must (refine (clone_row (some a) c bs _ (Kd.C_below HRb.out (by repeat (first | (with_reducible exact HB5.out) | (with_reducible apply below_alloc) | (with_reducible apply below_drew)))) (by omega) HL.out).mono ?_; rintro e w6 ⟨vv, rfl, hR, hb⟩; obtain ⟨A5, c5, rfl⟩ := Kd.R_slice hR; have hB56 : Below w5.heap.size w5 w6 := (by refine below_step ?_ hb; repeat (first | (with_reducible exact Below.refl _ _) | (with_reducible apply below_alloc) | (with_reducible apply below_drew))); have b0 := blk_below B0'.out hB56; have b1 := blk_below B1'.out hB56; have b2 := blk_below B2'.out hB56; have b6 := blk_below B6'.out hB56; have v0 := blk_lt b0; have v1 := blk_lt b1; have v2 := blk_lt b2; have v6 := blk_lt b6; clear c00 c01 f00 f01 c10 c11 f10 f11 c20 c21 c22 c23 f20 f21 f22 f23 c60 c61 c62 c63 f60 f61 f62 f63; obtain ⟨⟨c00, c01⟩, f00, f01⟩ := cells2 b0; obtain ⟨⟨c10, c11⟩, f10, f11⟩ := cells2 b1; obtain ⟨⟨c20, c21, c22, c23⟩, f20, f21, f22, f23⟩ := cells4 b2; obtain ⟨⟨c60, c61, c62, c63⟩, f60, f61, f62, f63⟩ := cells4 b6; have E0 := Aside0.mk b0; have E1 := Aside0.mk b1; have E2 := Aside0.mk b2; have E6 := Aside0.mk b6; clear b0 b1 b2 b6; have ER := Aside0.mk hR; have EB := Aside0.mk hB56; (try (have b11 : w6.heap[w5.heap.size]? = some (.cells #[.int .i64 0, .slice none 0 0] 59 (0, 0)) := (by with_reducible exact blk_below (blk_drew (blk_new w5 _)) hb); obtain ⟨⟨d0, d1⟩, e0, e1⟩ := cells2 b11; have y11 := blk_lt b11; have E11 := Aside0.mk b11; clear b11)); clear hR)))
  all_goals go_wp2
  all_goals go_meet
  all_goals simp only [i64_w]
  case rel => exact ⟨_, _, rfl, ⟨mid_new E0.out E1.out E2.out E6.out ER.out (by simp; omega) HB5.out EB.out (by omega)⟩⟩
  case rel => exact ⟨_, _, rfl, ⟨mid_old E0.out E1.out E2.out E6.out E11.out ER.out (by simp) HB5.out EB.out (by omega) (by omega)⟩⟩
 case rest =>
  obtain ⟨g, vv, rfl, HC⟩ := hcut
  have m := HC.out
  obtain ⟨A5, c5, rfl⟩ := Kd.R_slice m.row
  clear c00 c01 f00 f01 c10 c11 f10 f11 c20 c21 c22 c23 f20 f21 f22 f23 c60 c61 c62 c63 f60 f61 f62 f63 y6 y0 y1 y2 n6 n0 n1 n2 m6 m0 m1 m2 z0 z1 z2 HB HB5 B0 B1 B2 B0' B1' B2' B6'
  obtain ⟨⟨c00, c01⟩, f00, f01⟩ := cells2 m.b0
  obtain ⟨⟨c10, c11⟩, f10, f11⟩ := cells2 m.b1
  obtain ⟨⟨c20, c21, c22, c23⟩, f20, f21, f22, f23⟩ := cells4 m.b2
  obtain ⟨⟨c60, c61, c62, c63⟩, f60, f61, f62, f63⟩ := cells4 m.b6
  obtain ⟨⟨cg0, cg1⟩, fg0, fg1⟩ := cells2 m.bg
  have hx0 : wc.cell? (a.add bs.length) = some (.int .u64 x0) := row_at0 (Kd.C_below HR.out m.bel)
  have hx1 : wc.cell? ⟨(a.add bs.length).block, (a.add bs.length).off + 1, none⟩ = some (.int .u64 x1) := row_at1f (Kd.C_below HR.out m.bel)
  have LB := m.bel.size
  have L6 := m.n6
  have LG := m.ng
  clear m
  have hfl : ∀ (W : World), (Instr.field 91 (.agg #[.func (Fn.func 53) #[] #[]]) 0).run Try.prog W = .ok (.func (Fn.func 53) #[] #[]) W := fun W => by kernel_rfl
  have RX := Aside0.mk (show 0 ≤ x0 ∧ x0 < 18446744073709551616 ∧ 0 ≤ x1 ∧ x1 < 18446744073709551616 from ⟨hx0', hx0'', hx1', hx1''⟩)
  clear hx0' hx0'' hx1' hx1''
  go_wp2_with fail
  have hok : binOk 6 x1 = true := rfl
  go_region_held3 (fun w' => w'.cell? ⟨w4.heap.size, 0, none⟩ = some (.int .i64 6) ∧ w'.cell? (a.add bs.length) = some (.int .u64 x0) ∧ w'.cell? ⟨(a.add bs.length).block, (a.add bs.length).off + 1, none⟩ = some (.int .u64 x1))
   (first | go_keep | ((try dsimp only); (repeat' apply And.intro); all_goals go_keep))
   (first | ((go_at_call 52; go_must (refine (show Calls Try.prog 52 #[.int .i64 6] _ (fun e w' => e = .returned (.agg #[.func (Fn.func 53) #[] #[]]) ∧ Below _ _ w') from find_any 6 (by omega) (by omega) _).mono ?_; rintro e w8 ⟨rfl, hb⟩; have hB8 : Below wc.heap.size wc w8 := (by refine below_step ?_ hb; repeat (first | (with_reducible exact Below.refl _ _) | (with_reducible apply below_alloc) | (with_reducible apply below_drew))); have k6 := cells4 (blk_below HC.out.b6 hB8); have k60 := k6.1.1; have kx0 : w8.cell? (a.add bs.length) = some (.int .u64 x0) := row_at0 (Kd.C_below HR.out (below_step HC.out.bel hB8)); have kx1 : w8.cell? ⟨(a.add bs.length).block, (a.add bs.length).off + 1, none⟩ = some (.int .u64 x1) := row_at1f (Kd.C_below HR.out (below_step HC.out.bel hB8)); have EB8 := Aside0.mk hB8; clear k6 hb hB8))) | ((go_at_call 53; go_must (refine (show Calls Try.prog 53 #[.int .u64 x0, .int .u64 x1] _ (fun e w' => e = .returned (.tuple #[.int .u64 (binY 6 x0 x1), .bool (binOk 6 x1)]) ∧ Below _ _ w') from bin_any 6 (by omega) (by omega) x0 x1 RX.out.1 RX.out.2.1 RX.out.2.2.1 RX.out.2.2.2 _).mono ?_; rintro e w9 ⟨rfl, hb⟩; have hB9 : Below wc.heap.size wc w9 := (by refine below_step ?_ hb; repeat (first | (with_reducible exact EB8.out) | (with_reducible apply below_alloc) | (with_reducible apply below_drew))); have k6 := cells4 (blk_below HC.out.b6 hB9); have j60 := k6.1.1; have jx0 : w9.cell? (a.add bs.length) = some (.int .u64 x0) := row_at0 (Kd.C_below HR.out (below_step HC.out.bel hB9)); have jx1 : w9.cell? ⟨(a.add bs.length).block, (a.add bs.length).off + 1, none⟩ = some (.int .u64 x1) := row_at1f (Kd.C_below HR.out (below_step HC.out.bel hB9)); clear c00 c01 f00 f01 c10 c11 f10 f11 c20 c21 c22 c23 f20 f21 f22 f23 c60 c61 c62 c63 f60 f61 f62 f63 cg0 cg1 fg0 fg1; obtain ⟨⟨c00, c01⟩, f00, f01⟩ := cells2 (blk_below HC.out.b0 hB9); obtain ⟨⟨c10, c11⟩, f10, f11⟩ := cells2 (blk_below HC.out.b1 hB9); obtain ⟨⟨c20, c21, c22, c23⟩, f20, f21, f22, f23⟩ := cells4 (blk_below HC.out.b2 hB9); obtain ⟨⟨c60, c61, c62, c63⟩, f60, f61, f62, f63⟩ := cells4 (blk_below HC.out.b6 hB9); obtain ⟨⟨cg0, cg1⟩, fg0, fg1⟩ := cells2 (blk_below HC.out.bg hB9); have EB9 := Aside0.mk hB9; clear k6 hb hB9))))
  go_wp2_with (first | (go_at_call 50; go_must (refine (push_mid HC.out _ (by repeat (first | (with_reducible exact EB9.out) | (with_reducible apply below_alloc) | (with_reducible apply below_drew) | (with_reducible refine pw_below_drewN ?_ _))) [binY 6 x0 x1] _ _ (lit_row [binY 6 x0 x1] (by simp) (by repeat (first | (with_reducible exact blk_new _ _) | (with_reducible refine blk_drew ?_) | (with_reducible refine blk_drewN ?_ _) | exact blk_new _ _))) (by simp; omega)).mono ?_; rintro e w7 ⟨rfl, v7, hm⟩; obtain ⟨A7, c7, rfl⟩ := Kd.R_slice hm.row; clear c00 c01 f00 f01 c10 c11 f10 f11 c20 c21 c22 c23 f20 f21 f22 f23 c60 c61 c62 c63 f60 f61 f62 f63 cg0 cg1 fg0 fg1; obtain ⟨⟨c10, c11⟩, f10, f11⟩ := cells2 hm.b1; obtain ⟨⟨c20, c21, c22, c23⟩, f20, f21, f22, f23⟩ := cells4 hm.b2; obtain ⟨⟨cg0, cg1⟩, fg0, fg1⟩ := cells2 hm.bg; have HM7 := Aside0.mk hm; clear hm)))
  refine bodyPost_ret (v := .tuple #[.agg #[.int .i64 (wrap64 (t3 + t4)), .slice A7 (bs ++ [binY 6 x0 x1]).length c7], .agg #[.int .i64 0, .int .u64 0, .int .u64 0, .int .i64 0]]) (by simp [results, Try.results45, go_sem, c10, c11, c20, c21, c22, c23, i64_w, List.length_append]) rfl ⟨_, rfl, end_row HM7.out.row HM7.out.b1 HM7.out.b2 _ _ _ _ _ _, end_below HM7.out.bel _ _ _ _ _ _⟩
end Go.Proofs.Ytjbpljcfogekhaa.Q
namespace Go.Proofs.Ytjbpljcfogekhaa.Q
open Go.RowKit YtjbpljcfogekhaaW.PrintWords YtjbpljcfogekhaaW.PrintLast YtjbpljcfogekhaaW.PrintMore
set_option maxHeartbeats 4000000 in
set_option maxRecDepth 100000 in
theorem step_op7 (k : Nat) (s : ByteArray) (pc : Int) (a : Addr) (c : Nat) (bs : List Int) (x0 x1 t2 t3 t4 q : Int) (w : World) (hr : Kd.C (Kd.int .u64) w (some a) (bs.length + 2) (bs ++ [x0, x1])) (hc : bs.length + 2 ≤ c) (hl : bs.length < 1000000)
  (h : code_One.f k s pc = some (7, t2, t3, t4, 0)) (h2 : code_Moves.f k 7 t2 t3 t4 = some (2, q)) (hq0 : 0 ≤ q) (hq1 : q ≤ 10) (hfit : (bs.length : Int) + q ≤ 32)
  (hx0' : 0 ≤ x0) (hx0'' : x0 < 18446744073709551616) (hx1' : 0 ≤ x1) (hx1'' : x1 < 18446744073709551616) :
  Calls Try.prog 45 #[.string s, .agg #[.int .i64 pc, .slice (some a) (bs.length + 2) c]] w fun e w' => ∃ v1_ : Value, e = .returned (.tuple #[.agg #[.int .i64 (wrap64 (t3 + t4)), v1_], .agg #[.int .i64 0, .int .u64 0, .int .u64 0, .int .i64 0]]) ∧ Kd.R (Kd.int .u64) 34 w' w.heap.size (fun _ => True) v1_ (bs ++ [binY 7 x0 x1]) ∧ Below w.heap.size w w' := by
 have hu59 := Try.underlying59
 have hu61 := Try.underlying61
 have hu36 := Try.underlying36
 have HO := Aside0.mk h
 have HM := Aside0.mk h2
 have HR := Aside0.mk hr
 have HRb := Aside0.mk (row_front hr)
 have HL := Aside0.mk (show bs.length < 17592186044416 by omega)
 have hcb : (bs.length : Int) ≤ (c : Int) := by omega
 have hcb0 : (0 : Int) ≤ (bs.length : Int) := by omega
 clear h h2 hr
 go_enter Try.func45, Try.ntmps45
 go_wp2_with (first
  | (go_at_call 20; refine (code_One.calls k s pc 7 t2 t3 t4 0 _ HO.out).mono ?_; rintro e w4 ⟨rfl, hb⟩; obtain ⟨b0, b1, b2, hB, hz4⟩ := three_blocks hb; have z0 : w.heap.size < w4.heap.size := (by omega); have z1 : w.heap.size + 1 < w4.heap.size := (by omega); have z2 : w.heap.size + 1 + 1 < w4.heap.size := (by omega); clear hz4; obtain ⟨⟨c00, c01⟩, f00, f01⟩ := cells2 b0; obtain ⟨⟨c10, c11⟩, f10, f11⟩ := cells2 b1; obtain ⟨⟨c20, c21, c22, c23⟩, f20, f21, f22, f23⟩ := cells4 b2; have B0 := Aside0.mk b0; have B1 := Aside0.mk b1; have B2 := Aside0.mk b2; have HB := Aside0.mk hB; clear b0 b1 b2 hB hb)
  | (go_at_call 23; refine (code_Moves.calls k 7 t2 t3 t4 2 q _ HM.out).mono ?_; rintro e w5 ⟨rfl, hb⟩; have b0 := blk_below (blk_alloc B0.out _) hb; have b1 := blk_below (blk_alloc B1.out _) hb; have b2 := blk_below (blk_alloc B2.out _) hb; have b6 := blk_below (blk_new w4 _) hb; have HB5 := Aside0.mk (below_step (below_alloc HB.out _) hb); have y6 : w4.heap.size < w5.heap.size := (blk_lt b6); have y0 : w.heap.size < w5.heap.size := (blk_lt b0); have y1 : w.heap.size + 1 < w5.heap.size := (blk_lt b1); have y2 : w.heap.size + 1 + 1 < w5.heap.size := (blk_lt b2); have n6 : ¬ w4.heap.size = w5.heap.size := (Nat.ne_of_lt y6); have n0 : ¬ w.heap.size = w5.heap.size := (Nat.ne_of_lt y0); have n1 : ¬ w.heap.size + 1 = w5.heap.size := (Nat.ne_of_lt y1); have n2 : ¬ w.heap.size + 1 + 1 = w5.heap.size := (Nat.ne_of_lt y2); have m6 : ¬ w5.heap.size = w4.heap.size := (Nat.ne_of_gt y6); have m0 : ¬ w5.heap.size = w.heap.size := (Nat.ne_of_gt y0); have m1 : ¬ w5.heap.size = w.heap.size + 1 := (Nat.ne_of_gt y1); have m2 : ¬ w5.heap.size = w.heap.size + 1 + 1 := (Nat.ne_of_gt y2); clear c00 c01 f00 f01 c10 c11 f10 f11 c20 c21 c22 c23 f20 f21 f22 f23; obtain ⟨⟨c00, c01⟩, f00, f01⟩ := cells2 b0; obtain ⟨⟨c10, c11⟩, f10, f11⟩ := cells2 b1; obtain ⟨⟨c20, c21, c22, c23⟩, f20, f21, f22, f23⟩ := cells4 b2; obtain ⟨⟨c60, c61, c62, c63⟩, f60, f61, f62, f63⟩ := cells4 b6; have B0' := Aside0.mk b0; have B1' := Aside0.mk b1; have B2' := Aside0.mk b2; have B6' := Aside0.mk b6; clear b0 b1 b2 b6 hb))
 go_cut [11] (fun v11 wc => ∃ (g : Nat) (vv : Value), v11 = .pointer (some ⟨g, 0, none⟩) ∧ Aside0 (StepMid w wc w4.heap.size g pc (some a) (bs.length + 2) c 7 t2 t3 t4 (wrap64 (t3 + t4)) vv bs))
 case first =>
  go_region_held3 (fun w' => w'.cell? ⟨w4.heap.size, 2, none⟩ = some (.int .i64 t3) ∧ w'.cell? ⟨w4.heap.size, 3, none⟩ = some (.int .i64 t4) ∧ w'.cell? ⟨w.heap.size, 1, none⟩ = some (.slice (some a) (bs.length + 2) c))
   (first | go_keep | ((try dsimp only); (repeat' apply And.intro); all_goals go_keep))
   ((go_at_call 47; go_must (refine (clone_row (some a) c bs _ (Kd.C_below HRb.out (by repeat (first | (with_reducible exact HB5.out) | (with_reducible apply below_alloc) | (with_reducible apply below_drew)))) (by omega) HL.out).mono ?_; rintro e w6 ⟨vv, rfl, hR, hb⟩; obtain ⟨A5, c5, rfl⟩ := Kd.R_slice hR; have hB56 : Below w5.heap.size w5 w6 := (by refine below_step ?_ hb; repeat (first | (with_reducible exact Below.refl _ _) | (with_reducible apply below_alloc) | (with_reducible apply below_drew))); have b0 := blk_below B0'.out hB56; have b1 := blk_below B1'.out hB56; have b2 := blk_below B2'.out hB56; have b6 := blk_below B6'.out hB56; have v0 := blk_lt b0; have v1 := blk_lt b1; have v2 := blk_lt b2; have v6 := blk_lt b6; clear c00 c01 f00 f01 c10 c11 f10 f11 c20 c21 c22 c23 f20 f21 f22 f23 c60 c61 c62 c63 f60 f61 f62 f63; obtain ⟨⟨c00, c01⟩, f00, f01⟩ := cells2 b0; obtain ⟨⟨c10, c11⟩, f10, f11⟩ := cells2 b1; obtain ⟨⟨c20, c21, c22, c23⟩, f20, f21, f22, f23⟩ := cells4 b2; obtain ⟨⟨c60, c61, c62, c63⟩, f60, f61, f62, f63⟩ := cells4 b6; have E0 := Aside0.mk b0; have E1 := Aside0.mk b1; have E2 := Aside0.mk b2; have E6 := Aside0.mk b6; clear b0 b1 b2 b6; have ER := Aside0.mk hR; have EB := Aside0.mk hB56; (try (have b11 : w6.heap[w5.heap.size]? = some (.cells #[.int .i64 0, .slice none 0 0] 59 (0, 0)) := (by with_reducible exact blk_below (blk_drew (blk_new w5 _)) hb); obtain ⟨⟨d0, d1⟩, e0, e1⟩ := cells2 b11; have y11 := blk_lt b11; have E11 := Aside0.mk b11; clear b11)); clear hR)))
  all_goals go_wp2
  all_goals go_meet
  all_goals simp only [i64_w]
  case rel => exact ⟨_, _, rfl, ⟨mid_new E0.out E1.out E2.out E6.out ER.out (by simp; omega) HB5.out EB.out (by omega)⟩⟩
  case rel => exact ⟨_, _, rfl, ⟨mid_old E0.out E1.out E2.out E6.out E11.out ER.out (by simp) HB5.out EB.out (by omega) (by omega)⟩⟩
 case rest =>
  obtain ⟨g, vv, rfl, HC⟩ := hcut
  have m := HC.out
  obtain ⟨A5, c5, rfl⟩ := Kd.R_slice m.row
  clear c00 c01 f00 f01 c10 c11 f10 f11 c20 c21 c22 c23 f20 f21 f22 f23 c60 c61 c62 c63 f60 f61 f62 f63 y6 y0 y1 y2 n6 n0 n1 n2 m6 m0 m1 m2 z0 z1 z2 HB HB5 B0 B1 B2 B0' B1' B2' B6'
  obtain ⟨⟨c00, c01⟩, f00, f01⟩ := cells2 m.b0
  obtain ⟨⟨c10, c11⟩, f10, f11⟩ := cells2 m.b1
  obtain ⟨⟨c20, c21, c22, c23⟩, f20, f21, f22, f23⟩ := cells4 m.b2
  obtain ⟨⟨c60, c61, c62, c63⟩, f60, f61, f62, f63⟩ := cells4 m.b6
  obtain ⟨⟨cg0, cg1⟩, fg0, fg1⟩ := cells2 m.bg
  have hx0 : wc.cell? (a.add bs.length) = some (.int .u64 x0) := row_at0 (Kd.C_below HR.out m.bel)
  have hx1 : wc.cell? ⟨(a.add bs.length).block, (a.add bs.length).off + 1, none⟩ = some (.int .u64 x1) := row_at1f (Kd.C_below HR.out m.bel)
  have LB := m.bel.size
  have L6 := m.n6
  have LG := m.ng
  clear m
  have hfl : ∀ (W : World), (Instr.field 91 (.agg #[.func (Fn.func 54) #[] #[]]) 0).run Try.prog W = .ok (.func (Fn.func 54) #[] #[]) W := fun W => by kernel_rfl
  have RX := Aside0.mk (show 0 ≤ x0 ∧ x0 < 18446744073709551616 ∧ 0 ≤ x1 ∧ x1 < 18446744073709551616 from ⟨hx0', hx0'', hx1', hx1''⟩)
  clear hx0' hx0'' hx1' hx1''
  go_wp2_with fail
  have hok : binOk 7 x1 = true := rfl
  go_region_held3 (fun w' => w'.cell? ⟨w4.heap.size, 0, none⟩ = some (.int .i64 7) ∧ w'.cell? (a.add bs.length) = some (.int .u64 x0) ∧ w'.cell? ⟨(a.add bs.length).block, (a.add bs.length).off + 1, none⟩ = some (.int .u64 x1))
   (first | go_keep | ((try dsimp only); (repeat' apply And.intro); all_goals go_keep))
   (first | ((go_at_call 52; go_must (refine (show Calls Try.prog 52 #[.int .i64 7] _ (fun e w' => e = .returned (.agg #[.func (Fn.func 54) #[] #[]]) ∧ Below _ _ w') from find_any 7 (by omega) (by omega) _).mono ?_; rintro e w8 ⟨rfl, hb⟩; have hB8 : Below wc.heap.size wc w8 := (by refine below_step ?_ hb; repeat (first | (with_reducible exact Below.refl _ _) | (with_reducible apply below_alloc) | (with_reducible apply below_drew))); have k6 := cells4 (blk_below HC.out.b6 hB8); have k60 := k6.1.1; have kx0 : w8.cell? (a.add bs.length) = some (.int .u64 x0) := row_at0 (Kd.C_below HR.out (below_step HC.out.bel hB8)); have kx1 : w8.cell? ⟨(a.add bs.length).block, (a.add bs.length).off + 1, none⟩ = some (.int .u64 x1) := row_at1f (Kd.C_below HR.out (below_step HC.out.bel hB8)); have EB8 := Aside0.mk hB8; clear k6 hb hB8))) | ((go_at_call 54; go_must (refine (show Calls Try.prog 54 #[.int .u64 x0, .int .u64 x1] _ (fun e w' => e = .returned (.tuple #[.int .u64 (binY 7 x0 x1), .bool (binOk 7 x1)]) ∧ Below _ _ w') from bin_any 7 (by omega) (by omega) x0 x1 RX.out.1 RX.out.2.1 RX.out.2.2.1 RX.out.2.2.2 _).mono ?_; rintro e w9 ⟨rfl, hb⟩; have hB9 : Below wc.heap.size wc w9 := (by refine below_step ?_ hb; repeat (first | (with_reducible exact EB8.out) | (with_reducible apply below_alloc) | (with_reducible apply below_drew))); have k6 := cells4 (blk_below HC.out.b6 hB9); have j60 := k6.1.1; have jx0 : w9.cell? (a.add bs.length) = some (.int .u64 x0) := row_at0 (Kd.C_below HR.out (below_step HC.out.bel hB9)); have jx1 : w9.cell? ⟨(a.add bs.length).block, (a.add bs.length).off + 1, none⟩ = some (.int .u64 x1) := row_at1f (Kd.C_below HR.out (below_step HC.out.bel hB9)); clear c00 c01 f00 f01 c10 c11 f10 f11 c20 c21 c22 c23 f20 f21 f22 f23 c60 c61 c62 c63 f60 f61 f62 f63 cg0 cg1 fg0 fg1; obtain ⟨⟨c00, c01⟩, f00, f01⟩ := cells2 (blk_below HC.out.b0 hB9); obtain ⟨⟨c10, c11⟩, f10, f11⟩ := cells2 (blk_below HC.out.b1 hB9); obtain ⟨⟨c20, c21, c22, c23⟩, f20, f21, f22, f23⟩ := cells4 (blk_below HC.out.b2 hB9); obtain ⟨⟨c60, c61, c62, c63⟩, f60, f61, f62, f63⟩ := cells4 (blk_below HC.out.b6 hB9); obtain ⟨⟨cg0, cg1⟩, fg0, fg1⟩ := cells2 (blk_below HC.out.bg hB9); have EB9 := Aside0.mk hB9; clear k6 hb hB9))))
  go_wp2_with (first | (go_at_call 50; go_must (refine (push_mid HC.out _ (by repeat (first | (with_reducible exact EB9.out) | (with_reducible apply below_alloc) | (with_reducible apply below_drew) | (with_reducible refine pw_below_drewN ?_ _))) [binY 7 x0 x1] _ _ (lit_row [binY 7 x0 x1] (by simp) (by repeat (first | (with_reducible exact blk_new _ _) | (with_reducible refine blk_drew ?_) | (with_reducible refine blk_drewN ?_ _) | exact blk_new _ _))) (by simp; omega)).mono ?_; rintro e w7 ⟨rfl, v7, hm⟩; obtain ⟨A7, c7, rfl⟩ := Kd.R_slice hm.row; clear c00 c01 f00 f01 c10 c11 f10 f11 c20 c21 c22 c23 f20 f21 f22 f23 c60 c61 c62 c63 f60 f61 f62 f63 cg0 cg1 fg0 fg1; obtain ⟨⟨c10, c11⟩, f10, f11⟩ := cells2 hm.b1; obtain ⟨⟨c20, c21, c22, c23⟩, f20, f21, f22, f23⟩ := cells4 hm.b2; obtain ⟨⟨cg0, cg1⟩, fg0, fg1⟩ := cells2 hm.bg; have HM7 := Aside0.mk hm; clear hm)))
  refine bodyPost_ret (v := .tuple #[.agg #[.int .i64 (wrap64 (t3 + t4)), .slice A7 (bs ++ [binY 7 x0 x1]).length c7], .agg #[.int .i64 0, .int .u64 0, .int .u64 0, .int .i64 0]]) (by simp [results, Try.results45, go_sem, c10, c11, c20, c21, c22, c23, i64_w, List.length_append]) rfl ⟨_, rfl, end_row HM7.out.row HM7.out.b1 HM7.out.b2 _ _ _ _ _ _, end_below HM7.out.bel _ _ _ _ _ _⟩
end Go.Proofs.Ytjbpljcfogekhaa.Q
namespace Go.Proofs.Ytjbpljcfogekhaa.Q
open Go.RowKit YtjbpljcfogekhaaW.PrintWords YtjbpljcfogekhaaW.PrintLast YtjbpljcfogekhaaW.PrintMore
set_option maxHeartbeats 4000000 in
set_option maxRecDepth 100000 in
theorem step_op8 (k : Nat) (s : ByteArray) (pc : Int) (a : Addr) (c : Nat) (bs : List Int) (x0 x1 t2 t3 t4 q : Int) (w : World) (hr : Kd.C (Kd.int .u64) w (some a) (bs.length + 2) (bs ++ [x0, x1])) (hc : bs.length + 2 ≤ c) (hl : bs.length < 1000000)
  (h : code_One.f k s pc = some (8, t2, t3, t4, 0)) (h2 : code_Moves.f k 8 t2 t3 t4 = some (2, q)) (hq0 : 0 ≤ q) (hq1 : q ≤ 10) (hfit : (bs.length : Int) + q ≤ 32)
  (hx0' : 0 ≤ x0) (hx0'' : x0 < 18446744073709551616) (hx1' : 0 ≤ x1) (hx1'' : x1 < 18446744073709551616) :
  Calls Try.prog 45 #[.string s, .agg #[.int .i64 pc, .slice (some a) (bs.length + 2) c]] w fun e w' => ∃ v1_ : Value, e = .returned (.tuple #[.agg #[.int .i64 (wrap64 (t3 + t4)), v1_], .agg #[.int .i64 0, .int .u64 0, .int .u64 0, .int .i64 0]]) ∧ Kd.R (Kd.int .u64) 34 w' w.heap.size (fun _ => True) v1_ (bs ++ [binY 8 x0 x1]) ∧ Below w.heap.size w w' := by
 have hu59 := Try.underlying59
 have hu61 := Try.underlying61
 have hu36 := Try.underlying36
 have HO := Aside0.mk h
 have HM := Aside0.mk h2
 have HR := Aside0.mk hr
 have HRb := Aside0.mk (row_front hr)
 have HL := Aside0.mk (show bs.length < 17592186044416 by omega)
 have hcb : (bs.length : Int) ≤ (c : Int) := by omega
 have hcb0 : (0 : Int) ≤ (bs.length : Int) := by omega
 clear h h2 hr
 go_enter Try.func45, Try.ntmps45
 go_wp2_with (first
  | (go_at_call 20; refine (code_One.calls k s pc 8 t2 t3 t4 0 _ HO.out).mono ?_; rintro e w4 ⟨rfl, hb⟩; obtain ⟨b0, b1, b2, hB, hz4⟩ := three_blocks hb; have z0 : w.heap.size < w4.heap.size := (by omega); have z1 : w.heap.size + 1 < w4.heap.size := (by omega); have z2 : w.heap.size + 1 + 1 < w4.heap.size := (by omega); clear hz4; obtain ⟨⟨c00, c01⟩, f00, f01⟩ := cells2 b0; obtain ⟨⟨c10, c11⟩, f10, f11⟩ := cells2 b1; obtain ⟨⟨c20, c21, c22, c23⟩, f20, f21, f22, f23⟩ := cells4 b2; have B0 := Aside0.mk b0; have B1 := Aside0.mk b1; have B2 := Aside0.mk b2; have HB := Aside0.mk hB; clear b0 b1 b2 hB hb)
  | (go_at_call 23; refine (code_Moves.calls k 8 t2 t3 t4 2 q _ HM.out).mono ?_; rintro e w5 ⟨rfl, hb⟩; have b0 := blk_below (blk_alloc B0.out _) hb; have b1 := blk_below (blk_alloc B1.out _) hb; have b2 := blk_below (blk_alloc B2.out _) hb; have b6 := blk_below (blk_new w4 _) hb; have HB5 := Aside0.mk (below_step (below_alloc HB.out _) hb); have y6 : w4.heap.size < w5.heap.size := (blk_lt b6); have y0 : w.heap.size < w5.heap.size := (blk_lt b0); have y1 : w.heap.size + 1 < w5.heap.size := (blk_lt b1); have y2 : w.heap.size + 1 + 1 < w5.heap.size := (blk_lt b2); have n6 : ¬ w4.heap.size = w5.heap.size := (Nat.ne_of_lt y6); have n0 : ¬ w.heap.size = w5.heap.size := (Nat.ne_of_lt y0); have n1 : ¬ w.heap.size + 1 = w5.heap.size := (Nat.ne_of_lt y1); have n2 : ¬ w.heap.size + 1 + 1 = w5.heap.size := (Nat.ne_of_lt y2); have m6 : ¬ w5.heap.size = w4.heap.size := (Nat.ne_of_gt y6); have m0 : ¬ w5.heap.size = w.heap.size := (Nat.ne_of_gt y0); have m1 : ¬ w5.heap.size = w.heap.size + 1 := (Nat.ne_of_gt y1); have m2 : ¬ w5.heap.size = w.heap.size + 1 + 1 := (Nat.ne_of_gt y2); clear c00 c01 f00 f01 c10 c11 f10 f11 c20 c21 c22 c23 f20 f21 f22 f23; obtain ⟨⟨c00, c01⟩, f00, f01⟩ := cells2 b0; obtain ⟨⟨c10, c11⟩, f10, f11⟩ := cells2 b1; obtain ⟨⟨c20, c21, c22, c23⟩, f20, f21, f22, f23⟩ := cells4 b2; obtain ⟨⟨c60, c61, c62, c63⟩, f60, f61, f62, f63⟩ := cells4 b6; have B0' := Aside0.mk b0; have B1' := Aside0.mk b1; have B2' := Aside0.mk b2; have B6' := Aside0.mk b6; clear b0 b1 b2 b6 hb))
 go_cut [11] (fun v11 wc => ∃ (g : Nat) (vv : Value), v11 = .pointer (some ⟨g, 0, none⟩) ∧ Aside0 (StepMid w wc w4.heap.size g pc (some a) (bs.length + 2) c 8 t2 t3 t4 (wrap64 (t3 + t4)) vv bs))
 case first =>
  go_region_held3 (fun w' => w'.cell? ⟨w4.heap.size, 2, none⟩ = some (.int .i64 t3) ∧ w'.cell? ⟨w4.heap.size, 3, none⟩ = some (.int .i64 t4) ∧ w'.cell? ⟨w.heap.size, 1, none⟩ = some (.slice (some a) (bs.length + 2) c))
   (first | go_keep | ((try dsimp only); (repeat' apply And.intro); all_goals go_keep))
   ((go_at_call 47; go_must (refine (clone_row (some a) c bs _ (Kd.C_below HRb.out (by repeat (first | (with_reducible exact HB5.out) | (with_reducible apply below_alloc) | (with_reducible apply below_drew)))) (by omega) HL.out).mono ?_; rintro e w6 ⟨vv, rfl, hR, hb⟩; obtain ⟨A5, c5, rfl⟩ := Kd.R_slice hR; have hB56 : Below w5.heap.size w5 w6 := (by refine below_step ?_ hb; repeat (first | (with_reducible exact Below.refl _ _) | (with_reducible apply below_alloc) | (with_reducible apply below_drew))); have b0 := blk_below B0'.out hB56; have b1 := blk_below B1'.out hB56; have b2 := blk_below B2'.out hB56; have b6 := blk_below B6'.out hB56; have v0 := blk_lt b0; have v1 := blk_lt b1; have v2 := blk_lt b2; have v6 := blk_lt b6; clear c00 c01 f00 f01 c10 c11 f10 f11 c20 c21 c22 c23 f20 f21 f22 f23 c60 c61 c62 c63 f60 f61 f62 f63; obtain ⟨⟨c00, c01⟩, f00, f01⟩ := cells2 b0; obtain ⟨⟨c10, c11⟩, f10, f11⟩ := cells2 b1; obtain ⟨⟨c20, c21, c22, c23⟩, f20, f21, f22, f23⟩ := cells4 b2; obtain ⟨⟨c60, c61, c62, c63⟩, f60, f61, f62, f63⟩ := cells4 b6; have E0 := Aside0.mk b0; have E1 := Aside0.mk b1; have E2 := Aside0.mk b2; have E6 := Aside0.mk b6; clear b0 b1 b2 b6; have ER := Aside0.mk hR; have EB := Aside0.mk hB56; (try (have b11 : w6.heap[w5.heap.size]? = some (.cells #[.int .i64 0, .slice none 0 0] 59 (0, 0)) := (by with_reducible exact blk_below (blk_drew (blk_new w5 _)) hb); obtain ⟨⟨d0, d1⟩, e0, e1⟩ := cells2 b11; have y11 := blk_lt b11; have E11 := Aside0.mk b11; clear b11)); clear hR)))
  all_goals go_wp2
  all_goals go_meet
  all_goals simp only [i64_w]
  case rel => exact ⟨_, _, rfl, ⟨mid_new E0.out E1.out E2.out E6.out ER.out (by simp; omega) HB5.out EB.out (by omega)⟩⟩
  case rel => exact ⟨_, _, rfl, ⟨mid_old E0.out E1.out E2.out E6.out E11.out ER.out (by simp) HB5.out EB.out (by omega) (by omega)⟩⟩
 case rest =>
  obtain ⟨g, vv, rfl, HC⟩ := hcut
  have m := HC.out
  obtain ⟨A5, c5, rfl⟩ := Kd.R_slice m.row
  clear c00 c01 f00 f01 c10 c11 f10 f11 c20 c21 c22 c23 f20 f21 f22 f23 c60 c61 c62 c63 f60 f61 f62 f63 y6 y0 y1 y2 n6 n0 n1 n2 m6 m0 m1 m2 z0 z1 z2 HB HB5 B0 B1 B2 B0' B1' B2' B6'
  obtain ⟨⟨c00, c01⟩, f00, f01⟩ := cells2 m.b0
  obtain ⟨⟨c10, c11⟩, f10, f11⟩ := cells2 m.b1
  obtain ⟨⟨c20, c21, c22, c23⟩, f20, f21, f22, f23⟩ := cells4 m.b2
  obtain ⟨⟨c60, c61, c62, c63⟩, f60, f61, f62, f63⟩ := cells4 m.b6
  obtain ⟨⟨cg0, cg1⟩, fg0, fg1⟩ := cells2 m.bg
  have hx0 : wc.cell? (a.add bs.length) = some (.int .u64 x0) := row_at0 (Kd.C_below HR.out m.bel)
  have hx1 : wc.cell? ⟨(a.add bs.length).block, (a.add bs.length).off + 1, none⟩ = some (.int .u64 x1) := row_at1f (Kd.C_below HR.out m.bel)
  have LB := m.bel.size
  have L6 := m.n6
  have LG := m.ng
  clear m
  have hfl : ∀ (W : World), (Instr.field 91 (.agg #[.func (Fn.func 55) #[] #[]]) 0).run Try.prog W = .ok (.func (Fn.func 55) #[] #[]) W := fun W => by kernel_rfl
  have RX := Aside0.mk (show 0 ≤ x0 ∧ x0 < 18446744073709551616 ∧ 0 ≤ x1 ∧ x1 < 18446744073709551616 from ⟨hx0', hx0'', hx1', hx1''⟩)
  clear hx0' hx0'' hx1' hx1''
  go_wp2_with fail
  have hok : binOk 8 x1 = true := rfl
  go_region_held3 (fun w' => w'.cell? ⟨w4.heap.size, 0, none⟩ = some (.int .i64 8) ∧ w'.cell? (a.add bs.length) = some (.int .u64 x0) ∧ w'.cell? ⟨(a.add bs.length).block, (a.add bs.length).off + 1, none⟩ = some (.int .u64 x1))
   (first | go_keep | ((try dsimp only); (repeat' apply And.intro); all_goals go_keep))
   (first | ((go_at_call 52; go_must (refine (show Calls Try.prog 52 #[.int .i64 8] _ (fun e w' => e = .returned (.agg #[.func (Fn.func 55) #[] #[]]) ∧ Below _ _ w') from find_any 8 (by omega) (by omega) _).mono ?_; rintro e w8 ⟨rfl, hb⟩; have hB8 : Below wc.heap.size wc w8 := (by refine below_step ?_ hb; repeat (first | (with_reducible exact Below.refl _ _) | (with_reducible apply below_alloc) | (with_reducible apply below_drew))); have k6 := cells4 (blk_below HC.out.b6 hB8); have k60 := k6.1.1; have kx0 : w8.cell? (a.add bs.length) = some (.int .u64 x0) := row_at0 (Kd.C_below HR.out (below_step HC.out.bel hB8)); have kx1 : w8.cell? ⟨(a.add bs.length).block, (a.add bs.length).off + 1, none⟩ = some (.int .u64 x1) := row_at1f (Kd.C_below HR.out (below_step HC.out.bel hB8)); have EB8 := Aside0.mk hB8; clear k6 hb hB8))) | ((go_at_call 55; go_must (refine (show Calls Try.prog 55 #[.int .u64 x0, .int .u64 x1] _ (fun e w' => e = .returned (.tuple #[.int .u64 (binY 8 x0 x1), .bool (binOk 8 x1)]) ∧ Below _ _ w') from bin_any 8 (by omega) (by omega) x0 x1 RX.out.1 RX.out.2.1 RX.out.2.2.1 RX.out.2.2.2 _).mono ?_; rintro e w9 ⟨rfl, hb⟩; have hB9 : Below wc.heap.size wc w9 := (by refine below_step ?_ hb; repeat (first | (with_reducible exact EB8.out) | (with_reducible apply below_alloc) | (with_reducible apply below_drew))); have k6 := cells4 (blk_below HC.out.b6 hB9); have j60 := k6.1.1; have jx0 : w9.cell? (a.add bs.length) = some (.int .u64 x0) := row_at0 (Kd.C_below HR.out (below_step HC.out.bel hB9)); have jx1 : w9.cell? ⟨(a.add bs.length).block, (a.add bs.length).off + 1, none⟩ = some (.int .u64 x1) := row_at1f (Kd.C_below HR.out (below_step HC.out.bel hB9)); clear c00 c01 f00 f01 c10 c11 f10 f11 c20 c21 c22 c23 f20 f21 f22 f23 c60 c61 c62 c63 f60 f61 f62 f63 cg0 cg1 fg0 fg1; obtain ⟨⟨c00, c01⟩, f00, f01⟩ := cells2 (blk_below HC.out.b0 hB9); obtain ⟨⟨c10, c11⟩, f10, f11⟩ := cells2 (blk_below HC.out.b1 hB9); obtain ⟨⟨c20, c21, c22, c23⟩, f20, f21, f22, f23⟩ := cells4 (blk_below HC.out.b2 hB9); obtain ⟨⟨c60, c61, c62, c63⟩, f60, f61, f62, f63⟩ := cells4 (blk_below HC.out.b6 hB9); obtain ⟨⟨cg0, cg1⟩, fg0, fg1⟩ := cells2 (blk_below HC.out.bg hB9); have EB9 := Aside0.mk hB9; clear k6 hb hB9))))
  go_wp2_with (first | (go_at_call 50; go_must (refine (push_mid HC.out _ (by repeat (first | (with_reducible exact EB9.out) | (with_reducible apply below_alloc) | (with_reducible apply below_drew) | (with_reducible refine pw_below_drewN ?_ _))) [binY 8 x0 x1] _ _ (lit_row [binY 8 x0 x1] (by simp) (by repeat (first | (with_reducible exact blk_new _ _) | (with_reducible refine blk_drew ?_) | (with_reducible refine blk_drewN ?_ _) | exact blk_new _ _))) (by simp; omega)).mono ?_; rintro e w7 ⟨rfl, v7, hm⟩; obtain ⟨A7, c7, rfl⟩ := Kd.R_slice hm.row; clear c00 c01 f00 f01 c10 c11 f10 f11 c20 c21 c22 c23 f20 f21 f22 f23 c60 c61 c62 c63 f60 f61 f62 f63 cg0 cg1 fg0 fg1; obtain ⟨⟨c10, c11⟩, f10, f11⟩ := cells2 hm.b1; obtain ⟨⟨c20, c21, c22, c23⟩, f20, f21, f22, f23⟩ := cells4 hm.b2; obtain ⟨⟨cg0, cg1⟩, fg0, fg1⟩ := cells2 hm.bg; have HM7 := Aside0.mk hm; clear hm)))
  refine bodyPost_ret (v := .tuple #[.agg #[.int .i64 (wrap64 (t3 + t4)), .slice A7 (bs ++ [binY 8 x0 x1]).length c7], .agg #[.int .i64 0, .int .u64 0, .int .u64 0, .int .i64 0]]) (by simp [results, Try.results45, go_sem, c10, c11, c20, c21, c22, c23, i64_w, List.length_append]) rfl ⟨_, rfl, end_row HM7.out.row HM7.out.b1 HM7.out.b2 _ _ _ _ _ _, end_below HM7.out.bel _ _ _ _ _ _⟩
end Go.Proofs.Ytjbpljcfogekhaa.Q
namespace Go.Proofs.Ytjbpljcfogekhaa.Q
open Go.RowKit YtjbpljcfogekhaaW.PrintWords YtjbpljcfogekhaaW.PrintLast YtjbpljcfogekhaaW.PrintMore
set_option maxHeartbeats 4000000 in
set_option maxRecDepth 100000 in
theorem step_op9 (k : Nat) (s : ByteArray) (pc : Int) (a : Addr) (c : Nat) (bs : List Int) (x0 x1 t2 t3 t4 q : Int) (w : World) (hr : Kd.C (Kd.int .u64) w (some a) (bs.length + 2) (bs ++ [x0, x1])) (hc : bs.length + 2 ≤ c) (hl : bs.length < 1000000)
  (h : code_One.f k s pc = some (9, t2, t3, t4, 0)) (h2 : code_Moves.f k 9 t2 t3 t4 = some (2, q)) (hq0 : 0 ≤ q) (hq1 : q ≤ 10) (hfit : (bs.length : Int) + q ≤ 32)
  (hx0' : 0 ≤ x0) (hx0'' : x0 < 18446744073709551616) (hx1' : 0 ≤ x1) (hx1'' : x1 < 18446744073709551616)
  (hpos : 0 < x1) :
  Calls Try.prog 45 #[.string s, .agg #[.int .i64 pc, .slice (some a) (bs.length + 2) c]] w fun e w' => ∃ v1_ : Value, e = .returned (.tuple #[.agg #[.int .i64 (wrap64 (t3 + t4)), v1_], .agg #[.int .i64 0, .int .u64 0, .int .u64 0, .int .i64 0]]) ∧ Kd.R (Kd.int .u64) 34 w' w.heap.size (fun _ => True) v1_ (bs ++ [binY 9 x0 x1]) ∧ Below w.heap.size w w' := by
 have hu59 := Try.underlying59
 have hu61 := Try.underlying61
 have hu36 := Try.underlying36
 have HO := Aside0.mk h
 have HM := Aside0.mk h2
 have HR := Aside0.mk hr
 have HRb := Aside0.mk (row_front hr)
 have HL := Aside0.mk (show bs.length < 17592186044416 by omega)
 have hcb : (bs.length : Int) ≤ (c : Int) := by omega
 have hcb0 : (0 : Int) ≤ (bs.length : Int) := by omega
 clear h h2 hr
 go_enter Try.func45, Try.ntmps45
 go_wp2_with (first
  | (go_at_call 20; refine (code_One.calls k s pc 9 t2 t3 t4 0 _ HO.out).mono ?_; rintro e w4 ⟨rfl, hb⟩; obtain ⟨b0, b1, b2, hB, hz4⟩ := three_blocks hb; have z0 : w.heap.size < w4.heap.size := (by omega); have z1 : w.heap.size + 1 < w4.heap.size := (by omega); have z2 : w.heap.size + 1 + 1 < w4.heap.size := (by omega); clear hz4; obtain ⟨⟨c00, c01⟩, f00, f01⟩ := cells2 b0; obtain ⟨⟨c10, c11⟩, f10, f11⟩ := cells2 b1; obtain ⟨⟨c20, c21, c22, c23⟩, f20, f21, f22, f23⟩ := cells4 b2; have B0 := Aside0.mk b0; have B1 := Aside0.mk b1; have B2 := Aside0.mk b2; have HB := Aside0.mk hB; clear b0 b1 b2 hB hb)
  | (go_at_call 23; refine (code_Moves.calls k 9 t2 t3 t4 2 q _ HM.out).mono ?_; rintro e w5 ⟨rfl, hb⟩; have b0 := blk_below (blk_alloc B0.out _) hb; have b1 := blk_below (blk_alloc B1.out _) hb; have b2 := blk_below (blk_alloc B2.out _) hb; have b6 := blk_below (blk_new w4 _) hb; have HB5 := Aside0.mk (below_step (below_alloc HB.out _) hb); have y6 : w4.heap.size < w5.heap.size := (blk_lt b6); have y0 : w.heap.size < w5.heap.size := (blk_lt b0); have y1 : w.heap.size + 1 < w5.heap.size := (blk_lt b1); have y2 : w.heap.size + 1 + 1 < w5.heap.size := (blk_lt b2); have n6 : ¬ w4.heap.size = w5.heap.size := (Nat.ne_of_lt y6); have n0 : ¬ w.heap.size = w5.heap.size := (Nat.ne_of_lt y0); have n1 : ¬ w.heap.size + 1 = w5.heap.size := (Nat.ne_of_lt y1); have n2 : ¬ w.heap.size + 1 + 1 = w5.heap.size := (Nat.ne_of_lt y2); have m6 : ¬ w5.heap.size = w4.heap.size := (Nat.ne_of_gt y6); have m0 : ¬ w5.heap.size = w.heap.size := (Nat.ne_of_gt y0); have m1 : ¬ w5.heap.size = w.heap.size + 1 := (Nat.ne_of_gt y1); have m2 : ¬ w5.heap.size = w.heap.size + 1 + 1 := (Nat.ne_of_gt y2); clear c00 c01 f00 f01 c10 c11 f10 f11 c20 c21 c22 c23 f20 f21 f22 f23; obtain ⟨⟨c00, c01⟩, f00, f01⟩ := cells2 b0; obtain ⟨⟨c10, c11⟩, f10, f11⟩ := cells2 b1; obtain ⟨⟨c20, c21, c22, c23⟩, f20, f21, f22, f23⟩ := cells4 b2; obtain ⟨⟨c60, c61, c62, c63⟩, f60, f61, f62, f63⟩ := cells4 b6; have B0' := Aside0.mk b0; have B1' := Aside0.mk b1; have B2' := Aside0.mk b2; have B6' := Aside0.mk b6; clear b0 b1 b2 b6 hb))
 go_cut [11] (fun v11 wc => ∃ (g : Nat) (vv : Value), v11 = .pointer (some ⟨g, 0, none⟩) ∧ Aside0 (StepMid w wc w4.heap.size g pc (some a) (bs.length + 2) c 9 t2 t3 t4 (wrap64 (t3 + t4)) vv bs))
 case first =>
  go_region_held3 (fun w' => w'.cell? ⟨w4.heap.size, 2, none⟩ = some (.int .i64 t3) ∧ w'.cell? ⟨w4.heap.size, 3, none⟩ = some (.int .i64 t4) ∧ w'.cell? ⟨w.heap.size, 1, none⟩ = some (.slice (some a) (bs.length + 2) c))
   (first | go_keep | ((try dsimp only); (repeat' apply And.intro); all_goals go_keep))
   ((go_at_call 47; go_must (refine (clone_row (some a) c bs _ (Kd.C_below HRb.out (by repeat (first | (with_reducible exact HB5.out) | (with_reducible apply below_alloc) | (with_reducible apply below_drew)))) (by omega) HL.out).mono ?_; rintro e w6 ⟨vv, rfl, hR, hb⟩; obtain ⟨A5, c5, rfl⟩ := Kd.R_slice hR; have hB56 : Below w5.heap.size w5 w6 := (by refine below_step ?_ hb; repeat (first | (with_reducible exact Below.refl _ _) | (with_reducible apply below_alloc) | (with_reducible apply below_drew))); have b0 := blk_below B0'.out hB56; have b1 := blk_below B1'.out hB56; have b2 := blk_below B2'.out hB56; have b6 := blk_below B6'.out hB56; have v0 := blk_lt b0; have v1 := blk_lt b1; have v2 := blk_lt b2; have v6 := blk_lt b6; clear c00 c01 f00 f01 c10 c11 f10 f11 c20 c21 c22 c23 f20 f21 f22 f23 c60 c61 c62 c63 f60 f61 f62 f63; obtain ⟨⟨c00, c01⟩, f00, f01⟩ := cells2 b0; obtain ⟨⟨c10, c11⟩, f10, f11⟩ := cells2 b1; obtain ⟨⟨c20, c21, c22, c23⟩, f20, f21, f22, f23⟩ := cells4 b2; obtain ⟨⟨c60, c61, c62, c63⟩, f60, f61, f62, f63⟩ := cells4 b6; have E0 := Aside0.mk b0; have E1 := Aside0.mk b1; have E2 := Aside0.mk b2; have E6 := Aside0.mk b6; clear b0 b1 b2 b6; have ER := Aside0.mk hR; have EB := Aside0.mk hB56; (try (have b11 : w6.heap[w5.heap.size]? = some (.cells #[.int .i64 0, .slice none 0 0] 59 (0, 0)) := (by with_reducible exact blk_below (blk_drew (blk_new w5 _)) hb); obtain ⟨⟨d0, d1⟩, e0, e1⟩ := cells2 b11; have y11 := blk_lt b11; have E11 := Aside0.mk b11; clear b11)); clear hR)))
  all_goals go_wp2
  all_goals go_meet
  all_goals simp only [i64_w]
  case rel => exact ⟨_, _, rfl, ⟨mid_new E0.out E1.out E2.out E6.out ER.out (by simp; omega) HB5.out EB.out (by omega)⟩⟩
  case rel => exact ⟨_, _, rfl, ⟨mid_old E0.out E1.out E2.out E6.out E11.out ER.out (by simp) HB5.out EB.out (by omega) (by omega)⟩⟩
 case rest =>
  obtain ⟨g, vv, rfl, HC⟩ := hcut
  have m := HC.out
  obtain ⟨A5, c5, rfl⟩ := Kd.R_slice m.row
  clear c00 c01 f00 f01 c10 c11 f10 f11 c20 c21 c22 c23 f20 f21 f22 f23 c60 c61 c62 c63 f60 f61 f62 f63 y6 y0 y1 y2 n6 n0 n1 n2 m6 m0 m1 m2 z0 z1 z2 HB HB5 B0 B1 B2 B0' B1' B2' B6'
  obtain ⟨⟨c00, c01⟩, f00, f01⟩ := cells2 m.b0
  obtain ⟨⟨c10, c11⟩, f10, f11⟩ := cells2 m.b1
  obtain ⟨⟨c20, c21, c22, c23⟩, f20, f21, f22, f23⟩ := cells4 m.b2
  obtain ⟨⟨c60, c61, c62, c63⟩, f60, f61, f62, f63⟩ := cells4 m.b6
  obtain ⟨⟨cg0, cg1⟩, fg0, fg1⟩ := cells2 m.bg
  have hx0 : wc.cell? (a.add bs.length) = some (.int .u64 x0) := row_at0 (Kd.C_below HR.out m.bel)
  have hx1 : wc.cell? ⟨(a.add bs.length).block, (a.add bs.length).off + 1, none⟩ = some (.int .u64 x1) := row_at1f (Kd.C_below HR.out m.bel)
  have LB := m.bel.size
  have L6 := m.n6
  have LG := m.ng
  clear m
  have hfl : ∀ (W : World), (Instr.field 91 (.agg #[.func (Fn.func 56) #[] #[]]) 0).run Try.prog W = .ok (.func (Fn.func 56) #[] #[]) W := fun W => by kernel_rfl
  have RX := Aside0.mk (show 0 ≤ x0 ∧ x0 < 18446744073709551616 ∧ 0 ≤ x1 ∧ x1 < 18446744073709551616 from ⟨hx0', hx0'', hx1', hx1''⟩)
  clear hx0' hx0'' hx1' hx1''
  go_wp2_with fail
  have hok : binOk 9 x1 = true := decide_eq_true (by omega)
  clear hpos
  go_region_held3 (fun w' => w'.cell? ⟨w4.heap.size, 0, none⟩ = some (.int .i64 9) ∧ w'.cell? (a.add bs.length) = some (.int .u64 x0) ∧ w'.cell? ⟨(a.add bs.length).block, (a.add bs.length).off + 1, none⟩ = some (.int .u64 x1))
   (first | go_keep | ((try dsimp only); (repeat' apply And.intro); all_goals go_keep))
   (first | ((go_at_call 52; go_must (refine (show Calls Try.prog 52 #[.int .i64 9] _ (fun e w' => e = .returned (.agg #[.func (Fn.func 56) #[] #[]]) ∧ Below _ _ w') from find_any 9 (by omega) (by omega) _).mono ?_; rintro e w8 ⟨rfl, hb⟩; have hB8 : Below wc.heap.size wc w8 := (by refine below_step ?_ hb; repeat (first | (with_reducible exact Below.refl _ _) | (with_reducible apply below_alloc) | (with_reducible apply below_drew))); have k6 := cells4 (blk_below HC.out.b6 hB8); have k60 := k6.1.1; have kx0 : w8.cell? (a.add bs.length) = some (.int .u64 x0) := row_at0 (Kd.C_below HR.out (below_step HC.out.bel hB8)); have kx1 : w8.cell? ⟨(a.add bs.length).block, (a.add bs.length).off + 1, none⟩ = some (.int .u64 x1) := row_at1f (Kd.C_below HR.out (below_step HC.out.bel hB8)); have EB8 := Aside0.mk hB8; clear k6 hb hB8))) | ((go_at_call 56; go_must (refine (show Calls Try.prog 56 #[.int .u64 x0, .int .u64 x1] _ (fun e w' => e = .returned (.tuple #[.int .u64 (binY 9 x0 x1), .bool (binOk 9 x1)]) ∧ Below _ _ w') from bin_any 9 (by omega) (by omega) x0 x1 RX.out.1 RX.out.2.1 RX.out.2.2.1 RX.out.2.2.2 _).mono ?_; rintro e w9 ⟨rfl, hb⟩; have hB9 : Below wc.heap.size wc w9 := (by refine below_step ?_ hb; repeat (first | (with_reducible exact EB8.out) | (with_reducible apply below_alloc) | (with_reducible apply below_drew))); have k6 := cells4 (blk_below HC.out.b6 hB9); have j60 := k6.1.1; have jx0 : w9.cell? (a.add bs.length) = some (.int .u64 x0) := row_at0 (Kd.C_below HR.out (below_step HC.out.bel hB9)); have jx1 : w9.cell? ⟨(a.add bs.length).block, (a.add bs.length).off + 1, none⟩ = some (.int .u64 x1) := row_at1f (Kd.C_below HR.out (below_step HC.out.bel hB9)); clear c00 c01 f00 f01 c10 c11 f10 f11 c20 c21 c22 c23 f20 f21 f22 f23 c60 c61 c62 c63 f60 f61 f62 f63 cg0 cg1 fg0 fg1; obtain ⟨⟨c00, c01⟩, f00, f01⟩ := cells2 (blk_below HC.out.b0 hB9); obtain ⟨⟨c10, c11⟩, f10, f11⟩ := cells2 (blk_below HC.out.b1 hB9); obtain ⟨⟨c20, c21, c22, c23⟩, f20, f21, f22, f23⟩ := cells4 (blk_below HC.out.b2 hB9); obtain ⟨⟨c60, c61, c62, c63⟩, f60, f61, f62, f63⟩ := cells4 (blk_below HC.out.b6 hB9); obtain ⟨⟨cg0, cg1⟩, fg0, fg1⟩ := cells2 (blk_below HC.out.bg hB9); have EB9 := Aside0.mk hB9; clear k6 hb hB9))))
  go_wp2_with (first | (go_at_call 50; go_must (refine (push_mid HC.out _ (by repeat (first | (with_reducible exact EB9.out) | (with_reducible apply below_alloc) | (with_reducible apply below_drew) | (with_reducible refine pw_below_drewN ?_ _))) [binY 9 x0 x1] _ _ (lit_row [binY 9 x0 x1] (by simp) (by repeat (first | (with_reducible exact blk_new _ _) | (with_reducible refine blk_drew ?_) | (with_reducible refine blk_drewN ?_ _) | exact blk_new _ _))) (by simp; omega)).mono ?_; rintro e w7 ⟨rfl, v7, hm⟩; obtain ⟨A7, c7, rfl⟩ := Kd.R_slice hm.row; clear c00 c01 f00 f01 c10 c11 f10 f11 c20 c21 c22 c23 f20 f21 f22 f23 c60 c61 c62 c63 f60 f61 f62 f63 cg0 cg1 fg0 fg1; obtain ⟨⟨c10, c11⟩, f10, f11⟩ := cells2 hm.b1; obtain ⟨⟨c20, c21, c22, c23⟩, f20, f21, f22, f23⟩ := cells4 hm.b2; obtain ⟨⟨cg0, cg1⟩, fg0, fg1⟩ := cells2 hm.bg; have HM7 := Aside0.mk hm; clear hm)))
  refine bodyPost_ret (v := .tuple #[.agg #[.int .i64 (wrap64 (t3 + t4)), .slice A7 (bs ++ [binY 9 x0 x1]).length c7], .agg #[.int .i64 0, .int .u64 0, .int .u64 0, .int .i64 0]]) (by simp [results, Try.results45, go_sem, c10, c11, c20, c21, c22, c23, i64_w, List.length_append]) rfl ⟨_, rfl, end_row HM7.out.row HM7.out.b1 HM7.out.b2 _ _ _ _ _ _, end_below HM7.out.bel _ _ _ _ _ _⟩
end Go.Proofs.Ytjbpljcfogekhaa.Q
namespace Go.Proofs.Ytjbpljcfogekhaa.Q
open Go.RowKit YtjbpljcfogekhaaW.PrintWords YtjbpljcfogekhaaW.PrintLast YtjbpljcfogekhaaW.PrintMore
set_option maxHeartbeats 4000000 in
set_option maxRecDepth 100000 in
theorem step_op10 (k : Nat) (s : ByteArray) (pc : Int) (a : Addr) (c : Nat) (bs : List Int) (x0 x1 t2 t3 t4 q : Int) (w : World) (hr : Kd.C (Kd.int .u64) w (some a) (bs.length + 2) (bs ++ [x0, x1])) (hc : bs.length + 2 ≤ c) (hl : bs.length < 1000000)
  (h : code_One.f k s pc = some (10, t2, t3, t4, 0)) (h2 : code_Moves.f k 10 t2 t3 t4 = some (2, q)) (hq0 : 0 ≤ q) (hq1 : q ≤ 10) (hfit : (bs.length : Int) + q ≤ 32)
  (hx0' : 0 ≤ x0) (hx0'' : x0 < 18446744073709551616) (hx1' : 0 ≤ x1) (hx1'' : x1 < 18446744073709551616)
  (hpos : 0 < x1) :
  Calls Try.prog 45 #[.string s, .agg #[.int .i64 pc, .slice (some a) (bs.length + 2) c]] w fun e w' => ∃ v1_ : Value, e = .returned (.tuple #[.agg #[.int .i64 (wrap64 (t3 + t4)), v1_], .agg #[.int .i64 0, .int .u64 0, .int .u64 0, .int .i64 0]]) ∧ Kd.R (Kd.int .u64) 34 w' w.heap.size (fun _ => True) v1_ (bs ++ [binY 10 x0 x1]) ∧ Below w.heap.size w w' := by
 have hu59 := Try.underlying59
 have hu61 := Try.underlying61
 have hu36 := Try.underlying36
 have HO := Aside0.mk h
 have HM := Aside0.mk h2
 have HR := Aside0.mk hr
 have HRb := Aside0.mk (row_front hr)
 have HL := Aside0.mk (show bs.length < 17592186044416 by omega)
 have hcb : (bs.length : Int) ≤ (c : Int) := by omega
 have hcb0 : (0 : Int) ≤ (bs.length : Int) := by omega
 clear h h2 hr
 go_enter Try.func45, Try.ntmps45
 go_wp2_with (first
  | (go_at_call 20; refine (code_One.calls k s pc 10 t2 t3 t4 0 _ HO.out).mono ?_; rintro e w4 ⟨rfl, hb⟩; obtain ⟨b0, b1, b2, hB, hz4⟩ := three_blocks hb; have z0 : w.heap.size < w4.heap.size := (by omega); have z1 : w.heap.size + 1 < w4.heap.size := (by omega); have z2 : w.heap.size + 1 + 1 < w4.heap.size := (by omega); clear hz4; obtain ⟨⟨c00, c01⟩, f00, f01⟩ := cells2 b0; obtain ⟨⟨c10, c11⟩, f10, f11⟩ := cells2 b1; obtain ⟨⟨c20, c21, c22, c23⟩, f20, f21, f22, f23⟩ := cells4 b2; have B0 := Aside0.mk b0; have B1 := Aside0.mk b1; have B2 := Aside0.mk b2; have HB := Aside0.mk hB; clear b0 b1 b2 hB hb)
  | (go_at_call 23; refine (code_Moves.calls k 10 t2 t3 t4 2 q _ HM.out).mono ?_; rintro e w5 ⟨rfl, hb⟩; have b0 := blk_below (blk_alloc B0.out _) hb; have b1 := blk_below (blk_alloc B1.out _) hb; have b2 := blk_below (blk_alloc B2.out _) hb; have b6 := blk_below (blk_new w4 _) hb; have HB5 := Aside0.mk (below_step (below_alloc HB.out _) hb); have y6 : w4.heap.size < w5.heap.size := (blk_lt b6); have y0 : w.heap.size < w5.heap.size := (blk_lt b0); have y1 : w.heap.size + 1 < w5.heap.size := (blk_lt b1); have y2 : w.heap.size + 1 + 1 < w5.heap.size := (blk_lt b2); have n6 : ¬ w4.heap.size = w5.heap.size := (Nat.ne_of_lt y6); have n0 : ¬ w.heap.size = w5.heap.size := (Nat.ne_of_lt y0); have n1 : ¬ w.heap.size + 1 = w5.heap.size := (Nat.ne_of_lt y1); have n2 : ¬ w.heap.size + 1 + 1 = w5.heap.size := (Nat.ne_of_lt y2); have m6 : ¬ w5.heap.size = w4.heap.size := (Nat.ne_of_gt y6); have m0 : ¬ w5.heap.size = w.heap.size := (Nat.ne_of_gt y0); have m1 : ¬ w5.heap.size = w.heap.size + 1 := (Nat.ne_of_gt y1); have m2 : ¬ w5.heap.size = w.heap.size + 1 + 1 := (Nat.ne_of_gt y2); clear c00 c01 f00 f01 c10 c11 f10 f11 c20 c21 c22 c23 f20 f21 f22 f23; obtain ⟨⟨c00, c01⟩, f00, f01⟩ := cells2 b0; obtain ⟨⟨c10, c11⟩, f10, f11⟩ := cells2 b1; obtain ⟨⟨c20, c21, c22, c23⟩, f20, f21, f22, f23⟩ := cells4 b2; obtain ⟨⟨c60, c61, c62, c63⟩, f60, f61, f62, f63⟩ := cells4 b6; have B0' := Aside0.mk b0; have B1' := Aside0.mk b1; have B2' := Aside0.mk b2; have B6' := Aside0.mk b6; clear b0 b1 b2 b6 hb))
 go_cut [11] (fun v11 wc => ∃ (g : Nat) (vv : Value), v11 = .pointer (some ⟨g, 0, none⟩) ∧ Aside0 (StepMid w wc w4.heap.size g pc (some a) (bs.length + 2) c 10 t2 t3 t4 (wrap64 (t3 + t4)) vv bs))
 case first =>
  go_region_held3 (fun w' => w'.cell? ⟨w4.heap.size, 2, none⟩ = some (.int .i64 t3) ∧ w'.cell? ⟨w4.heap.size, 3, none⟩ = some (.int .i64 t4) ∧ w'.cell? ⟨w.heap.size, 1, none⟩ = some (.slice (some a) (bs.length + 2) c))
   (first | go_keep | ((try dsimp only); (repeat' apply And.intro); all_goals go_keep))
   ((go_at_call 47; go_must (refine (clone_row (some a) c bs _ (Kd.C_below HRb.out (by repeat (first | (with_reducible exact HB5.out) | (with_reducible apply below_alloc) | (with_reducible apply below_drew)))) (by omega) HL.out).mono ?_; rintro e w6 ⟨vv, rfl, hR, hb⟩; obtain ⟨A5, c5, rfl⟩ := Kd.R_slice hR; have hB56 : Below w5.heap.size w5 w6 := (by refine below_step ?_ hb; repeat (first | (with_reducible exact Below.refl _ _) | (with_reducible apply below_alloc) | (with_reducible apply below_drew))); have b0 := blk_below B0'.out hB56; have b1 := blk_below B1'.out hB56; have b2 := blk_below B2'.out hB56; have b6 := blk_below B6'.out hB56; have v0 := blk_lt b0; have v1 := blk_lt b1; have v2 := blk_lt b2; have v6 := blk_lt b6; clear c00 c01 f00 f01 c10 c11 f10 f11 c20 c21 c22 c23 f20 f21 f22 f23 c60 c61 c62 c63 f60 f61 f62 f63; obtain ⟨⟨c00, c01⟩, f00, f01⟩ := cells2 b0; obtain ⟨⟨c10, c11⟩, f10, f11⟩ := cells2 b1; obtain ⟨⟨c20, c21, c22, c23⟩, f20, f21, f22, f23⟩ := cells4 b2; obtain ⟨⟨c60, c61, c62, c63⟩, f60, f61, f62, f63⟩ := cells4 b6; have E0 := Aside0.mk b0; have E1 := Aside0.mk b1; have E2 := Aside0.mk b2; have E6 := Aside0.mk b6; clear b0 b1 b2 b6; have ER := Aside0.mk hR; have EB := Aside0.mk hB56; (try (have b11 : w6.heap[w5.heap.size]? = some (.cells #[.int .i64 0, .slice none 0 0] 59 (0, 0)) := (by with_reducible exact blk_below (blk_drew (blk_new w5 _)) hb); obtain ⟨⟨d0, d1⟩, e0, e1⟩ := cells2 b11; have y11 := blk_lt b11; have E11 := Aside0.mk b11; clear b11)); clear hR)))
  all_goals go_wp2
  all_goals go_meet
  all_goals simp only [i64_w]
  case rel => exact ⟨_, _, rfl, ⟨mid_new E0.out E1.out E2.out E6.out ER.out (by simp; omega) HB5.out EB.out (by omega)⟩⟩
  case rel => exact ⟨_, _, rfl, ⟨mid_old E0.out E1.out E2.out E6.out E11.out ER.out (by simp) HB5.out EB.out (by omega) (by omega)⟩⟩
 case rest =>
  obtain ⟨g, vv, rfl, HC⟩ := hcut
  have m := HC.out
  obtain ⟨A5, c5, rfl⟩ := Kd.R_slice m.row
  clear c00 c01 f00 f01 c10 c11 f10 f11 c20 c21 c22 c23 f20 f21 f22 f23 c60 c61 c62 c63 f60 f61 f62 f63 y6 y0 y1 y2 n6 n0 n1 n2 m6 m0 m1 m2 z0 z1 z2 HB HB5 B0 B1 B2 B0' B1' B2' B6'
  obtain ⟨⟨c00, c01⟩, f00, f01⟩ := cells2 m.b0
  obtain ⟨⟨c10, c11⟩, f10, f11⟩ := cells2 m.b1
  obtain ⟨⟨c20, c21, c22, c23⟩, f20, f21, f22, f23⟩ := cells4 m.b2
  obtain ⟨⟨c60, c61, c62, c63⟩, f60, f61, f62, f63⟩ := cells4 m.b6
  obtain ⟨⟨cg0, cg1⟩, fg0, fg1⟩ := cells2 m.bg
  have hx0 : wc.cell? (a.add bs.length) = some (.int .u64 x0) := row_at0 (Kd.C_below HR.out m.bel)
  have hx1 : wc.cell? ⟨(a.add bs.length).block, (a.add bs.length).off + 1, none⟩ = some (.int .u64 x1) := row_at1f (Kd.C_below HR.out m.bel)
  have LB := m.bel.size
  have L6 := m.n6
  have LG := m.ng
  clear m
  have hfl : ∀ (W : World), (Instr.field 91 (.agg #[.func (Fn.func 57) #[] #[]]) 0).run Try.prog W = .ok (.func (Fn.func 57) #[] #[]) W := fun W => by kernel_rfl
  have RX := Aside0.mk (show 0 ≤ x0 ∧ x0 < 18446744073709551616 ∧ 0 ≤ x1 ∧ x1 < 18446744073709551616 from ⟨hx0', hx0'', hx1', hx1''⟩)
  clear hx0' hx0'' hx1' hx1''
  go_wp2_with fail
  have hok : binOk 10 x1 = true := decide_eq_true (by omega)
  clear hpos
  go_region_held3 (fun w' => w'.cell? ⟨w4.heap.size, 0, none⟩ = some (.int .i64 10) ∧ w'.cell? (a.add bs.length) = some (.int .u64 x0) ∧ w'.cell? ⟨(a.add bs.length).block, (a.add bs.length).off + 1, none⟩ = some (.int .u64 x1))
   (first | go_keep | ((try dsimp only); (repeat' apply And.intro); all_goals go_keep))
   (first | ((go_at_call 52; go_must (refine (show Calls Try.prog 52 #[.int .i64 10] _ (fun e w' => e = .returned (.agg #[.func (Fn.func 57) #[] #[]]) ∧ Below _ _ w') from find_any 10 (by omega) (by omega) _).mono ?_; rintro e w8 ⟨rfl, hb⟩; have hB8 : Below wc.heap.size wc w8 := (by refine below_step ?_ hb; repeat (first | (with_reducible exact Below.refl _ _) | (with_reducible apply below_alloc) | (with_reducible apply below_drew))); have k6 := cells4 (blk_below HC.out.b6 hB8); have k60 := k6.1.1; have kx0 : w8.cell? (a.add bs.length) = some (.int .u64 x0) := row_at0 (Kd.C_below HR.out (below_step HC.out.bel hB8)); have kx1 : w8.cell? ⟨(a.add bs.length).block, (a.add bs.length).off + 1, none⟩ = some (.int .u64 x1) := row_at1f (Kd.C_below HR.out (below_step HC.out.bel hB8)); have EB8 := Aside0.mk hB8; clear k6 hb hB8))) | ((go_at_call 57; go_must (refine (show Calls Try.prog 57 #[.int .u64 x0, .int .u64 x1] _ (fun e w' => e = .returned (.tuple #[.int .u64 (binY 10 x0 x1), .bool (binOk 10 x1)]) ∧ Below _ _ w') from bin_any 10 (by omega) (by omega) x0 x1 RX.out.1 RX.out.2.1 RX.out.2.2.1 RX.out.2.2.2 _).mono ?_; rintro e w9 ⟨rfl, hb⟩; have hB9 : Below wc.heap.size wc w9 := (by refine below_step ?_ hb; repeat (first | (with_reducible exact EB8.out) | (with_reducible apply below_alloc) | (with_reducible apply below_drew))); have k6 := cells4 (blk_below HC.out.b6 hB9); have j60 := k6.1.1; have jx0 : w9.cell? (a.add bs.length) = some (.int .u64 x0) := row_at0 (Kd.C_below HR.out (below_step HC.out.bel hB9)); have jx1 : w9.cell? ⟨(a.add bs.length).block, (a.add bs.length).off + 1, none⟩ = some (.int .u64 x1) := row_at1f (Kd.C_below HR.out (below_step HC.out.bel hB9)); clear c00 c01 f00 f01 c10 c11 f10 f11 c20 c21 c22 c23 f20 f21 f22 f23 c60 c61 c62 c63 f60 f61 f62 f63 cg0 cg1 fg0 fg1; obtain ⟨⟨c00, c01⟩, f00, f01⟩ := cells2 (blk_below HC.out.b0 hB9); obtain ⟨⟨c10, c11⟩, f10, f11⟩ := cells2 (blk_below HC.out.b1 hB9); obtain ⟨⟨c20, c21, c22, c23⟩, f20, f21, f22, f23⟩ := cells4 (blk_below HC.out.b2 hB9); obtain ⟨⟨c60, c61, c62, c63⟩, f60, f61, f62, f63⟩ := cells4 (blk_below HC.out.b6 hB9); obtain ⟨⟨cg0, cg1⟩, fg0, fg1⟩ := cells2 (blk_below HC.out.bg hB9); have EB9 := Aside0.mk hB9; clear k6 hb hB9))))
  go_wp2_with (first | (go_at_call 50; go_must (refine (push_mid HC.out _ (by repeat (first | (with_reducible exact EB9.out) | (with_reducible apply below_alloc) | (with_reducible apply below_drew) | (with_reducible refine pw_below_drewN ?_ _))) [binY 10 x0 x1] _ _ (lit_row [binY 10 x0 x1] (by simp) (by repeat (first | (with_reducible exact blk_new _ _) | (with_reducible refine blk_drew ?_) | (with_reducible refine blk_drewN ?_ _) | exact blk_new _ _))) (by simp; omega)).mono ?_; rintro e w7 ⟨rfl, v7, hm⟩; obtain ⟨A7, c7, rfl⟩ := Kd.R_slice hm.row; clear c00 c01 f00 f01 c10 c11 f10 f11 c20 c21 c22 c23 f20 f21 f22 f23 c60 c61 c62 c63 f60 f61 f62 f63 cg0 cg1 fg0 fg1; obtain ⟨⟨c10, c11⟩, f10, f11⟩ := cells2 hm.b1; obtain ⟨⟨c20, c21, c22, c23⟩, f20, f21, f22, f23⟩ := cells4 hm.b2; obtain ⟨⟨cg0, cg1⟩, fg0, fg1⟩ := cells2 hm.bg; have HM7 := Aside0.mk hm; clear hm)))
  refine bodyPost_ret (v := .tuple #[.agg #[.int .i64 (wrap64 (t3 + t4)), .slice A7 (bs ++ [binY 10 x0 x1]).length c7], .agg #[.int .i64 0, .int .u64 0, .int .u64 0, .int .i64 0]]) (by simp [results, Try.results45, go_sem, c10, c11, c20, c21, c22, c23, i64_w, List.length_append]) rfl ⟨_, rfl, end_row HM7.out.row HM7.out.b1 HM7.out.b2 _ _ _ _ _ _, end_below HM7.out.bel _ _ _ _ _ _⟩
end Go.Proofs.Ytjbpljcfogekhaa.Q
namespace Go.Proofs.Ytjbpljcfogekhaa.Q
open Go.RowKit YtjbpljcfogekhaaW.PrintWords YtjbpljcfogekhaaW.PrintLast YtjbpljcfogekhaaW.PrintMore
set_option maxHeartbeats 4000000 in
set_option maxRecDepth 100000 in
theorem step_op11 (k : Nat) (s : ByteArray) (pc : Int) (a : Addr) (c : Nat) (bs : List Int) (x0 x1 t2 t3 t4 q : Int) (w : World) (hr : Kd.C (Kd.int .u64) w (some a) (bs.length + 2) (bs ++ [x0, x1])) (hc : bs.length + 2 ≤ c) (hl : bs.length < 1000000)
  (h : code_One.f k s pc = some (11, t2, t3, t4, 0)) (h2 : code_Moves.f k 11 t2 t3 t4 = some (2, q)) (hq0 : 0 ≤ q) (hq1 : q ≤ 10) (hfit : (bs.length : Int) + q ≤ 32)
  (hx0' : 0 ≤ x0) (hx0'' : x0 < 18446744073709551616) (hx1' : 0 ≤ x1) (hx1'' : x1 < 18446744073709551616) :
  Calls Try.prog 45 #[.string s, .agg #[.int .i64 pc, .slice (some a) (bs.length + 2) c]] w fun e w' => ∃ v1_ : Value, e = .returned (.tuple #[.agg #[.int .i64 (wrap64 (t3 + t4)), v1_], .agg #[.int .i64 0, .int .u64 0, .int .u64 0, .int .i64 0]]) ∧ Kd.R (Kd.int .u64) 34 w' w.heap.size (fun _ => True) v1_ (bs ++ [binY 11 x0 x1]) ∧ Below w.heap.size w w' := by
 have hu59 := Try.underlying59
 have hu61 := Try.underlying61
 have hu36 := Try.underlying36
 have HO := Aside0.mk h
 have HM := Aside0.mk h2
 have HR := Aside0.mk hr
 have HRb := Aside0.mk (row_front hr)
 have HL := Aside0.mk (show bs.length < 17592186044416 by omega)
 have hcb : (bs.length : Int) ≤ (c : Int) := by omega
 have hcb0 : (0 : Int) ≤ (bs.length : Int) := by omega
 clear h h2 hr
 go_enter Try.func45, Try.ntmps45
 go_wp2_with (first
  | (go_at_call 20; refine (code_One.calls k s pc 11 t2 t3 t4 0 _ HO.out).mono ?_; rintro e w4 ⟨rfl, hb⟩; obtain ⟨b0, b1, b2, hB, hz4⟩ := three_blocks hb; have z0 : w.heap.size < w4.heap.size := (by omega); have z1 : w.heap.size + 1 < w4.heap.size := (by omega); have z2 : w.heap.size + 1 + 1 < w4.heap.size := (by omega); clear hz4; obtain ⟨⟨c00, c01⟩, f00, f01⟩ := cells2 b0; obtain ⟨⟨c10, c11⟩, f10, f11⟩ := cells2 b1; obtain ⟨⟨c20, c21, c22, c23⟩, f20, f21, f22, f23⟩ := cells4 b2; have B0 := Aside0.mk b0; have B1 := Aside0.mk b1; have B2 := Aside0.mk b2; have HB := Aside0.mk hB; clear b0 b1 b2 hB hb)
  | (go_at_call 23; refine (code_Moves.calls k 11 t2 t3 t4 2 q _ HM.out).mono ?_; rintro e w5 ⟨rfl, hb⟩; have b0 := blk_below (blk_alloc B0.out _) hb; have b1 := blk_below (blk_alloc B1.out _) hb; have b2 := blk_below (blk_alloc B2.out _) hb; have b6 := blk_below (blk_new w4 _) hb; have HB5 := Aside0.mk (below_step (below_alloc HB.out _) hb); have y6 : w4.heap.size < w5.heap.size := (blk_lt b6); have y0 : w.heap.size < w5.heap.size := (blk_lt b0); have y1 : w.heap.size + 1 < w5.heap.size := (blk_lt b1); have y2 : w.heap.size + 1 + 1 < w5.heap.size := (blk_lt b2); have n6 : ¬ w4.heap.size = w5.heap.size := (Nat.ne_of_lt y6); have n0 : ¬ w.heap.size = w5.heap.size := (Nat.ne_of_lt y0); have n1 : ¬ w.heap.size + 1 = w5.heap.size := (Nat.ne_of_lt y1); have n2 : ¬ w.heap.size + 1 + 1 = w5.heap.size := (Nat.ne_of_lt y2); have m6 : ¬ w5.heap.size = w4.heap.size := (Nat.ne_of_gt y6); have m0 : ¬ w5.heap.size = w.heap.size := (Nat.ne_of_gt y0); have m1 : ¬ w5.heap.size = w.heap.size + 1 := (Nat.ne_of_gt y1); have m2 : ¬ w5.heap.size = w.heap.size + 1 + 1 := (Nat.ne_of_gt y2); clear c00 c01 f00 f01 c10 c11 f10 f11 c20 c21 c22 c23 f20 f21 f22 f23; obtain ⟨⟨c00, c01⟩, f00, f01⟩ := cells2 b0; obtain ⟨⟨c10, c11⟩, f10, f11⟩ := cells2 b1; obtain ⟨⟨c20, c21, c22, c23⟩, f20, f21, f22, f23⟩ := cells4 b2; obtain ⟨⟨c60, c61, c62, c63⟩, f60, f61, f62, f63⟩ := cells4 b6; have B0' := Aside0.mk b0; have B1' := Aside0.mk b1; have B2' := Aside0.mk b2; have B6' := Aside0.mk b6; clear b0 b1 b2 b6 hb))
 go_cut [11] (fun v11 wc => ∃ (g : Nat) (vv : Value), v11 = .pointer (some ⟨g, 0, none⟩) ∧ Aside0 (StepMid w wc w4.heap.size g pc (some a) (bs.length + 2) c 11 t2 t3 t4 (wrap64 (t3 + t4)) vv bs))
 case first =>
  go_region_held3 (fun w' => w'.cell? ⟨w4.heap.size, 2, none⟩ = some (.int .i64 t3) ∧ w'.cell? ⟨w4.heap.size, 3, none⟩ = some (.int .i64 t4) ∧ w'.cell? ⟨w.heap.size, 1, none⟩ = some (.slice (some a) (bs.length + 2) c))
   (first | go_keep | ((try dsimp only); (repeat' apply And.intro); all_goals go_keep))
   ((go_at_call 47; go_must (refine (clone_row (some a) c bs _ (Kd.C_below HRb.out (by repeat (first | (with_reducible exact HB5.out) | (with_reducible apply below_alloc) | (with_reducible apply below_drew)))) (by omega) HL.out).mono ?_; rintro e w6 ⟨vv, rfl, hR, hb⟩; obtain ⟨A5, c5, rfl⟩ := Kd.R_slice hR; have hB56 : Below w5.heap.size w5 w6 := (by refine below_step ?_ hb; repeat (first | (with_reducible exact Below.refl _ _) | (with_reducible apply below_alloc) | (with_reducible apply below_drew))); have b0 := blk_below B0'.out hB56; have b1 := blk_below B1'.out hB56; have b2 := blk_below B2'.out hB56; have b6 := blk_below B6'.out hB56; have v0 := blk_lt b0; have v1 := blk_lt b1; have v2 := blk_lt b2; have v6 := blk_lt b6; clear c00 c01 f00 f01 c10 c11 f10 f11 c20 c21 c22 c23 f20 f21 f22 f23 c60 c61 c62 c63 f60 f61 f62 f63; obtain ⟨⟨c00, c01⟩, f00, f01⟩ := cells2 b0; obtain ⟨⟨c10, c11⟩, f10, f11⟩ := cells2 b1; obtain ⟨⟨c20, c21, c22, c23⟩, f20, f21, f22, f23⟩ := cells4 b2; obtain ⟨⟨c60, c61, c62, c63⟩, f60, f61, f62, f63⟩ := cells4 b6; have E0 := Aside0.mk b0; have E1 := Aside0.mk b1; have E2 := Aside0.mk b2; have E6 := Aside0.mk b6; clear b0 b1 b2 b6; have ER := Aside0.mk hR; have EB := Aside0.mk hB56; (try (have b11 : w6.heap[w5.heap.size]? = some (.cells #[.int .i64 0, .slice none 0 0] 59 (0, 0)) := (by with_reducible exact blk_below (blk_drew (blk_new w5 _)) hb); obtain ⟨⟨d0, d1⟩, e0, e1⟩ := cells2 b11; have y11 := blk_lt b11; have E11 := Aside0.mk b11; clear b11)); clear hR)))
  all_goals go_wp2
  all_goals go_meet
  all_goals simp only [i64_w]
  case rel => exact ⟨_, _, rfl, ⟨mid_new E0.out E1.out E2.out E6.out ER.out (by simp; omega) HB5.out EB.out (by omega)⟩⟩
  case rel => exact ⟨_, _, rfl, ⟨mid_old E0.out E1.out E2.out E6.out E11.out ER.out (by simp) HB5.out EB.out (by omega) (by omega)⟩⟩
 case rest =>
  obtain ⟨g, vv, rfl, HC⟩ := hcut
  have m := HC.out
  obtain ⟨A5, c5, rfl⟩ := Kd.R_slice m.row
  clear c00 c01 f00 f01 c10 c11 f10 f11 c20 c21 c22 c23 f20 f21 f22 f23 c60 c61 c62 c63 f60 f61 f62 f63 y6 y0 y1 y2 n6 n0 n1 n2 m6 m0 m1 m2 z0 z1 z2 HB HB5 B0 B1 B2 B0' B1' B2' B6'
  obtain ⟨⟨c00, c01⟩, f00, f01⟩ := cells2 m.b0
  obtain ⟨⟨c10, c11⟩, f10, f11⟩ := cells2 m.b1
  obtain ⟨⟨c20, c21, c22, c23⟩, f20, f21, f22, f23⟩ := cells4 m.b2
  obtain ⟨⟨c60, c61, c62, c63⟩, f60, f61, f62, f63⟩ := cells4 m.b6
  obtain ⟨⟨cg0, cg1⟩, fg0, fg1⟩ := cells2 m.bg
  have hx0 : wc.cell? (a.add bs.length) = some (.int .u64 x0) := row_at0 (Kd.C_below HR.out m.bel)
  have hx1 : wc.cell? ⟨(a.add bs.length).block, (a.add bs.length).off + 1, none⟩ = some (.int .u64 x1) := row_at1f (Kd.C_below HR.out m.bel)
  have LB := m.bel.size
  have L6 := m.n6
  have LG := m.ng
  clear m
  have hfl : ∀ (W : World), (Instr.field 91 (.agg #[.func (Fn.func 58) #[] #[]]) 0).run Try.prog W = .ok (.func (Fn.func 58) #[] #[]) W := fun W => by kernel_rfl
  have RX := Aside0.mk (show 0 ≤ x0 ∧ x0 < 18446744073709551616 ∧ 0 ≤ x1 ∧ x1 < 18446744073709551616 from ⟨hx0', hx0'', hx1', hx1''⟩)
  clear hx0' hx0'' hx1' hx1''
  go_wp2_with fail
  have hok : binOk 11 x1 = true := rfl
  go_region_held3 (fun w' => w'.cell? ⟨w4.heap.size, 0, none⟩ = some (.int .i64 11) ∧ w'.cell? (a.add bs.length) = some (.int .u64 x0) ∧ w'.cell? ⟨(a.add bs.length).block, (a.add bs.length).off + 1, none⟩ = some (.int .u64 x1))
   (first | go_keep | ((try dsimp only); (repeat' apply And.intro); all_goals go_keep))
   (first | ((go_at_call 52; go_must (refine (show Calls Try.prog 52 #[.int .i64 11] _ (fun e w' => e = .returned (.agg #[.func (Fn.func 58) #[] #[]]) ∧ Below _ _ w') from find_any 11 (by omega) (by omega) _).mono ?_; rintro e w8 ⟨rfl, hb⟩; have hB8 : Below wc.heap.size wc w8 := (by refine below_step ?_ hb; repeat (first | (with_reducible exact Below.refl _ _) | (with_reducible apply below_alloc) | (with_reducible apply below_drew))); have k6 := cells4 (blk_below HC.out.b6 hB8); have k60 := k6.1.1; have kx0 : w8.cell? (a.add bs.length) = some (.int .u64 x0) := row_at0 (Kd.C_below HR.out (below_step HC.out.bel hB8)); have kx1 : w8.cell? ⟨(a.add bs.length).block, (a.add bs.length).off + 1, none⟩ = some (.int .u64 x1) := row_at1f (Kd.C_below HR.out (below_step HC.out.bel hB8)); have EB8 := Aside0.mk hB8; clear k6 hb hB8))) | ((go_at_call 58; go_must (refine (show Calls Try.prog 58 #[.int .u64 x0, .int .u64 x1] _ (fun e w' => e = .returned (.tuple #[.int .u64 (binY 11 x0 x1), .bool (binOk 11 x1)]) ∧ Below _ _ w') from bin_any 11 (by omega) (by omega) x0 x1 RX.out.1 RX.out.2.1 RX.out.2.2.1 RX.out.2.2.2 _).mono ?_; rintro e w9 ⟨rfl, hb⟩; have hB9 : Below wc.heap.size wc w9 := (by refine below_step ?_ hb; repeat (first | (with_reducible exact EB8.out) | (with_reducible apply below_alloc) | (with_reducible apply below_drew))); have k6 := cells4 (blk_below HC.out.b6 hB9); have j60 := k6.1.1; have jx0 : w9.cell? (a.add bs.length) = some (.int .u64 x0) := row_at0 (Kd.C_below HR.out (below_step HC.out.bel hB9)); have jx1 : w9.cell? ⟨(a.add bs.length).block, (a.add bs.length).off + 1, none⟩ = some (.int .u64 x1) := row_at1f (Kd.C_below HR.out (below_step HC.out.bel hB9)); clear c00 c01 f00 f01 c10 c11 f10 f11 c20 c21 c22 c23 f20 f21 f22 f23 c60 c61 c62 c63 f60 f61 f62 f63 cg0 cg1 fg0 fg1; obtain ⟨⟨c00, c01⟩, f00, f01⟩ := cells2 (blk_below HC.out.b0 hB9); obtain ⟨⟨c10, c11⟩, f10, f11⟩ := cells2 (blk_below HC.out.b1 hB9); obtain ⟨⟨c20, c21, c22, c23⟩, f20, f21, f22, f23⟩ := cells4 (blk_below HC.out.b2 hB9); obtain ⟨⟨c60, c61, c62, c63⟩, f60, f61, f62, f63⟩ := cells4 (blk_below HC.out.b6 hB9); obtain ⟨⟨cg0, cg1⟩, fg0, fg1⟩ := cells2 (blk_below HC.out.bg hB9); have EB9 := Aside0.mk hB9; clear k6 hb hB9))))
  go_wp2_with (first | (go_at_call 50; go_must (refine (push_mid HC.out _ (by repeat (first | (with_reducible exact EB9.out) | (with_reducible apply below_alloc) | (with_reducible apply below_drew) | (with_reducible refine pw_below_drewN ?_ _))) [binY 11 x0 x1] _ _ (lit_row [binY 11 x0 x1] (by simp) (by repeat (first | (with_reducible exact blk_new _ _) | (with_reducible refine blk_drew ?_) | (with_reducible refine blk_drewN ?_ _) | exact blk_new _ _))) (by simp; omega)).mono ?_; rintro e w7 ⟨rfl, v7, hm⟩; obtain ⟨A7, c7, rfl⟩ := Kd.R_slice hm.row; clear c00 c01 f00 f01 c10 c11 f10 f11 c20 c21 c22 c23 f20 f21 f22 f23 c60 c61 c62 c63 f60 f61 f62 f63 cg0 cg1 fg0 fg1; obtain ⟨⟨c10, c11⟩, f10, f11⟩ := cells2 hm.b1; obtain ⟨⟨c20, c21, c22, c23⟩, f20, f21, f22, f23⟩ := cells4 hm.b2; obtain ⟨⟨cg0, cg1⟩, fg0, fg1⟩ := cells2 hm.bg; have HM7 := Aside0.mk hm; clear hm)))
  refine bodyPost_ret (v := .tuple #[.agg #[.int .i64 (wrap64 (t3 + t4)), .slice A7 (bs ++ [binY 11 x0 x1]).length c7], .agg #[.int .i64 0, .int .u64 0, .int .u64 0, .int .i64 0]]) (by simp [results, Try.results45, go_sem, c10, c11, c20, c21, c22, c23, i64_w, List.length_append]) rfl ⟨_, rfl, end_row HM7.out.row HM7.out.b1 HM7.out.b2 _ _ _ _ _ _, end_below HM7.out.bel _ _ _ _ _ _⟩
end Go.Proofs.Ytjbpljcfogekhaa.Q
namespace Go.Proofs.Ytjbpljcfogekhaa.Q
open Go.RowKit YtjbpljcfogekhaaW.PrintWords YtjbpljcfogekhaaW.PrintLast YtjbpljcfogekhaaW.PrintMore
set_option maxHeartbeats 4000000 in
set_option maxRecDepth 100000 in
theorem step_op12 (k : Nat) (s : ByteArray) (pc : Int) (a : Addr) (c : Nat) (bs : List Int) (x0 x1 t2 t3 t4 q : Int) (w : World) (hr : Kd.C (Kd.int .u64) w (some a) (bs.length + 2) (bs ++ [x0, x1])) (hc : bs.length + 2 ≤ c) (hl : bs.length < 1000000)
  (h : code_One.f k s pc = some (12, t2, t3, t4, 0)) (h2 : code_Moves.f k 12 t2 t3 t4 = some (2, q)) (hq0 : 0 ≤ q) (hq1 : q ≤ 10) (hfit : (bs.length : Int) + q ≤ 32)
  (hx0' : 0 ≤ x0) (hx0'' : x0 < 18446744073709551616) (hx1' : 0 ≤ x1) (hx1'' : x1 < 18446744073709551616) :
  Calls Try.prog 45 #[.string s, .agg #[.int .i64 pc, .slice (some a) (bs.length + 2) c]] w fun e w' => ∃ v1_ : Value, e = .returned (.tuple #[.agg #[.int .i64 (wrap64 (t3 + t4)), v1_], .agg #[.int .i64 0, .int .u64 0, .int .u64 0, .int .i64 0]]) ∧ Kd.R (Kd.int .u64) 34 w' w.heap.size (fun _ => True) v1_ (bs ++ [binY 12 x0 x1]) ∧ Below w.heap.size w w' := by
 have hu59 := Try.underlying59
 have hu61 := Try.underlying61
 have hu36 := Try.underlying36
 have HO := Aside0.mk h
 have HM := Aside0.mk h2
 have HR := Aside0.mk hr
 have HRb := Aside0.mk (row_front hr)
 have HL := Aside0.mk (show bs.length < 17592186044416 by omega)
 have hcb : (bs.length : Int) ≤ (c : Int) := by omega
 have hcb0 : (0 : Int) ≤ (bs.length : Int) := by omega
 clear h h2 hr
 go_enter Try.func45, Try.ntmps45
 go_wp2_with (first
  | (go_at_call 20; refine (code_One.calls k s pc 12 t2 t3 t4 0 _ HO.out).mono ?_; rintro e w4 ⟨rfl, hb⟩; obtain ⟨b0, b1, b2, hB, hz4⟩ := three_blocks hb; have z0 : w.heap.size < w4.heap.size := (by omega); have z1 : w.heap.size + 1 < w4.heap.size := (by omega); have z2 : w.heap.size + 1 + 1 < w4.heap.size := (by omega); clear hz4; obtain ⟨⟨c00, c01⟩, f00, f01⟩ := cells2 b0; obtain ⟨⟨c10, c11⟩, f10, f11⟩ := cells2 b1; obtain ⟨⟨c20, c21, c22, c23⟩, f20, f21, f22, f23⟩ := cells4 b2; have B0 := Aside0.mk b0; have B1 := Aside0.mk b1; have B2 := Aside0.mk b2; have HB := Aside0.mk hB; clear b0 b1 b2 hB hb)
  | (go_at_call 23; refine (code_Moves.calls k 12 t2 t3 t4 2 q _ HM.out).mono ?_; rintro e w5 ⟨rfl, hb⟩; have b0 := blk_below (blk_alloc B0.out _) hb; have b1 := blk_below (blk_alloc B1.out _) hb; have b2 := blk_below (blk_alloc B2.out _) hb; have b6 := blk_below (blk_new w4 _) hb; have HB5 := Aside0.mk (below_step (below_alloc HB.out _) hb); have y6 : w4.heap.size < w5.heap.size := (blk_lt b6); have y0 : w.heap.size < w5.heap.size := (blk_lt b0); have y1 : w.heap.size + 1 < w5.heap.size := (blk_lt b1); have y2 : w.heap.size + 1 + 1 < w5.heap.size := (blk_lt b2); have n6 : ¬ w4.heap.size = w5.heap.size := (Nat.ne_of_lt y6); have n0 : ¬ w.heap.size = w5.heap.size := (Nat.ne_of_lt y0); have n1 : ¬ w.heap.size + 1 = w5.heap.size := (Nat.ne_of_lt y1); have n2 : ¬ w.heap.size + 1 + 1 = w5.heap.size := (Nat.ne_of_lt y2); have m6 : ¬ w5.heap.size = w4.heap.size := (Nat.ne_of_gt y6); have m0 : ¬ w5.heap.size = w.heap.size := (Nat.ne_of_gt y0); have m1 : ¬ w5.heap.size = w.heap.size + 1 := (Nat.ne_of_gt y1); have m2 : ¬ w5.heap.size = w.heap.size + 1 + 1 := (Nat.ne_of_gt y2); clear c00 c01 f00 f01 c10 c11 f10 f11 c20 c21 c22 c23 f20 f21 f22 f23; obtain ⟨⟨c00, c01⟩, f00, f01⟩ := cells2 b0; obtain ⟨⟨c10, c11⟩, f10, f11⟩ := cells2 b1; obtain ⟨⟨c20, c21, c22, c23⟩, f20, f21, f22, f23⟩ := cells4 b2; obtain ⟨⟨c60, c61, c62, c63⟩, f60, f61, f62, f63⟩ := cells4 b6; have B0' := Aside0.mk b0; have B1' := Aside0.mk b1; have B2' := Aside0.mk b2; have B6' := Aside0.mk b6; clear b0 b1 b2 b6 hb))
 go_cut [11] (fun v11 wc => ∃ (g : Nat) (vv : Value), v11 = .pointer (some ⟨g, 0, none⟩) ∧ Aside0 (StepMid w wc w4.heap.size g pc (some a) (bs.length + 2) c 12 t2 t3 t4 (wrap64 (t3 + t4)) vv bs))
 case first =>
  go_region_held3 (fun w' => w'.cell? ⟨w4.heap.size, 2, none⟩ = some (.int .i64 t3) ∧ w'.cell? ⟨w4.heap.size, 3, none⟩ = some (.int .i64 t4) ∧ w'.cell? ⟨w.heap.size, 1, none⟩ = some (.slice (some a) (bs.length + 2) c))
   (first | go_keep | ((try dsimp only); (repeat' apply And.intro); all_goals go_keep))
   ((go_at_call 47; go_must (refine (clone_row (some a) c bs _ (Kd.C_below HRb.out (by repeat (first | (with_reducible exact HB5.out) | (with_reducible apply below_alloc) | (with_reducible apply below_drew)))) (by omega) HL.out).mono ?_; rintro e w6 ⟨vv, rfl, hR, hb⟩; obtain ⟨A5, c5, rfl⟩ := Kd.R_slice hR; have hB56 : Below w5.heap.size w5 w6 := (by refine below_step ?_ hb; repeat (first | (with_reducible exact Below.refl _ _) | (with_reducible apply below_alloc) | (with_reducible apply below_drew))); have b0 := blk_below B0'.out hB56; have b1 := blk_below B1'.out hB56; have b2 := blk_below B2'.out hB56; have b6 := blk_below B6'.out hB56; have v0 := blk_lt b0; have v1 := blk_lt b1; have v2 := blk_lt b2; have v6 := blk_lt b6; clear c00 c01 f00 f01 c10 c11 f10 f11 c20 c21 c22 c23 f20 f21 f22 f23 c60 c61 c62 c63 f60 f61 f62 f63; obtain ⟨⟨c00, c01⟩, f00, f01⟩ := cells2 b0; obtain ⟨⟨c10, c11⟩, f10, f11⟩ := cells2 b1; obtain ⟨⟨c20, c21, c22, c23⟩, f20, f21, f22, f23⟩ := cells4 b2; obtain ⟨⟨c60, c61, c62, c63⟩, f60, f61, f62, f63⟩ := cells4 b6; have E0 := Aside0.mk b0; have E1 := Aside0.mk b1; have E2 := Aside0.mk b2; have E6 := Aside0.mk b6; clear b0 b1 b2 b6; have ER := Aside0.mk hR; have EB := Aside0.mk hB56; (try (have b11 : w6.heap[w5.heap.size]? = some (.cells #[.int .i64 0, .slice none 0 0] 59 (0, 0)) := (by with_reducible exact blk_below (blk_drew (blk_new w5 _)) hb); obtain ⟨⟨d0, d1⟩, e0, e1⟩ := cells2 b11; have y11 := blk_lt b11; have E11 := Aside0.mk b11; clear b11)); clear hR)))
  all_goals go_wp2
  all_goals go_meet
  all_goals simp only [i64_w]
  case rel => exact ⟨_, _, rfl, ⟨mid_new E0.out E1.out E2.out E6.out ER.out (by simp; omega) HB5.out EB.out (by omega)⟩⟩
  case rel => exact ⟨_, _, rfl, ⟨mid_old E0.out E1.out E2.out E6.out E11.out ER.out (by simp) HB5.out EB.out (by omega) (by omega)⟩⟩
 case rest =>
  obtain ⟨g, vv, rfl, HC⟩ := hcut
  have m := HC.out
  obtain ⟨A5, c5, rfl⟩ := Kd.R_slice m.row
  clear c00 c01 f00 f01 c10 c11 f10 f11 c20 c21 c22 c23 f20 f21 f22 f23 c60 c61 c62 c63 f60 f61 f62 f63 y6 y0 y1 y2 n6 n0 n1 n2 m6 m0 m1 m2 z0 z1 z2 HB HB5 B0 B1 B2 B0' B1' B2' B6'
  obtain ⟨⟨c00, c01⟩, f00, f01⟩ := cells2 m.b0
  obtain ⟨⟨c10, c11⟩, f10, f11⟩ := cells2 m.b1
  obtain ⟨⟨c20, c21, c22, c23⟩, f20, f21, f22, f23⟩ := cells4 m.b2
  obtain ⟨⟨c60, c61, c62, c63⟩, f60, f61, f62, f63⟩ := cells4 m.b6
  obtain ⟨⟨cg0, cg1⟩, fg0, fg1⟩ := cells2 m.bg
  have hx0 : wc.cell? (a.add bs.length) = some (.int .u64 x0) := row_at0 (Kd.C_below HR.out m.bel)
  have hx1 : wc.cell? ⟨(a.add bs.length).block, (a.add bs.length).off + 1, none⟩ = some (.int .u64 x1) := row_at1f (Kd.C_below HR.out m.bel)
  have LB := m.bel.size
  have L6 := m.n6
  have LG := m.ng
  clear m
  have hfl : ∀ (W : World), (Instr.field 91 (.agg #[.func (Fn.func 59) #[] #[]]) 0).run Try.prog W = .ok (.func (Fn.func 59) #[] #[]) W := fun W => by kernel_rfl
  have RX := Aside0.mk (show 0 ≤ x0 ∧ x0 < 18446744073709551616 ∧ 0 ≤ x1 ∧ x1 < 18446744073709551616 from ⟨hx0', hx0'', hx1', hx1''⟩)
  clear hx0' hx0'' hx1' hx1''
  go_wp2_with fail
  have hok : binOk 12 x1 = true := rfl
  go_region_held3 (fun w' => w'.cell? ⟨w4.heap.size, 0, none⟩ = some (.int .i64 12) ∧ w'.cell? (a.add bs.length) = some (.int .u64 x0) ∧ w'.cell? ⟨(a.add bs.length).block, (a.add bs.length).off + 1, none⟩ = some (.int .u64 x1))
   (first | go_keep | ((try dsimp only); (repeat' apply And.intro); all_goals go_keep))
   (first | ((go_at_call 52; go_must (refine (show Calls Try.prog 52 #[.int .i64 12] _ (fun e w' => e = .returned (.agg #[.func (Fn.func 59) #[] #[]]) ∧ Below _ _ w') from find_any 12 (by omega) (by omega) _).mono ?_; rintro e w8 ⟨rfl, hb⟩; have hB8 : Below wc.heap.size wc w8 := (by refine below_step ?_ hb; repeat (first | (with_reducible exact Below.refl _ _) | (with_reducible apply below_alloc) | (with_reducible apply below_drew))); have k6 := cells4 (blk_below HC.out.b6 hB8); have k60 := k6.1.1; have kx0 : w8.cell? (a.add bs.length) = some (.int .u64 x0) := row_at0 (Kd.C_below HR.out (below_step HC.out.bel hB8)); have kx1 : w8.cell? ⟨(a.add bs.length).block, (a.add bs.length).off + 1, none⟩ = some (.int .u64 x1) := row_at1f (Kd.C_below HR.out (below_step HC.out.bel hB8)); have EB8 := Aside0.mk hB8; clear k6 hb hB8))) | ((go_at_call 59; go_must (refine (show Calls Try.prog 59 #[.int .u64 x0, .int .u64 x1] _ (fun e w' => e = .returned (.tuple #[.int .u64 (binY 12 x0 x1), .bool (binOk 12 x1)]) ∧ Below _ _ w') from bin_any 12 (by omega) (by omega) x0 x1 RX.out.1 RX.out.2.1 RX.out.2.2.1 RX.out.2.2.2 _).mono ?_; rintro e w9 ⟨rfl, hb⟩; have hB9 : Below wc.heap.size wc w9 := (by refine below_step ?_ hb; repeat (first | (with_reducible exact EB8.out) | (with_reducible apply below_alloc) | (with_reducible apply below_drew))); have k6 := cells4 (blk_below HC.out.b6 hB9); have j60 := k6.1.1; have jx0 : w9.cell? (a.add bs.length) = some (.int .u64 x0) := row_at0 (Kd.C_below HR.out (below_step HC.out.bel hB9)); have jx1 : w9.cell? ⟨(a.add bs.length).block, (a.add bs.length).off + 1, none⟩ = some (.int .u64 x1) := row_at1f (Kd.C_below HR.out (below_step HC.out.bel hB9)); clear c00 c01 f00 f01 c10 c11 f10 f11 c20 c21 c22 c23 f20 f21 f22 f23 c60 c61 c62 c63 f60 f61 f62 f63 cg0 cg1 fg0 fg1; obtain ⟨⟨c00, c01⟩, f00, f01⟩ := cells2 (blk_below HC.out.b0 hB9); obtain ⟨⟨c10, c11⟩, f10, f11⟩ := cells2 (blk_below HC.out.b1 hB9); obtain ⟨⟨c20, c21, c22, c23⟩, f20, f21, f22, f23⟩ := cells4 (blk_below HC.out.b2 hB9); obtain ⟨⟨c60, c61, c62, c63⟩, f60, f61, f62, f63⟩ := cells4 (blk_below HC.out.b6 hB9); obtain ⟨⟨cg0, cg1⟩, fg0, fg1⟩ := cells2 (blk_below HC.out.bg hB9); have EB9 := Aside0.mk hB9; clear k6 hb hB9))))
  go_wp2_with (first | (go_at_call 50; go_must (refine (push_mid HC.out _ (by repeat (first | (with_reducible exact EB9.out) | (with_reducible apply below_alloc) | (with_reducible apply below_drew) | (with_reducible refine pw_below_drewN ?_ _))) [binY 12 x0 x1] _ _ (lit_row [binY 12 x0 x1] (by simp) (by repeat (first | (with_reducible exact blk_new _ _) | (with_reducible refine blk_drew ?_) | (with_reducible refine blk_drewN ?_ _) | exact blk_new _ _))) (by simp; omega)).mono ?_; rintro e w7 ⟨rfl, v7, hm⟩; obtain ⟨A7, c7, rfl⟩ := Kd.R_slice hm.row; clear c00 c01 f00 f01 c10 c11 f10 f11 c20 c21 c22 c23 f20 f21 f22 f23 c60 c61 c62 c63 f60 f61 f62 f63 cg0 cg1 fg0 fg1; obtain ⟨⟨c10, c11⟩, f10, f11⟩ := cells2 hm.b1; obtain ⟨⟨c20, c21, c22, c23⟩, f20, f21, f22, f23⟩ := cells4 hm.b2; obtain ⟨⟨cg0, cg1⟩, fg0, fg1⟩ := cells2 hm.bg; have HM7 := Aside0.mk hm; clear hm)))
  refine bodyPost_ret (v := .tuple #[.agg #[.int .i64 (wrap64 (t3 + t4)), .slice A7 (bs ++ [binY 12 x0 x1]).length c7], .agg #[.int .i64 0, .int .u64 0, .int .u64 0, .int .i64 0]]) (by simp [results, Try.results45, go_sem, c10, c11, c20, c21, c22, c23, i64_w, List.length_append]) rfl ⟨_, rfl, end_row HM7.out.row HM7.out.b1 HM7.out.b2 _ _ _ _ _ _, end_below HM7.out.bel _ _ _ _ _ _⟩
end Go.Proofs.Ytjbpljcfogekhaa.Q
namespace Go.Proofs.Ytjbpljcfogekhaa.Q
open Go.RowKit YtjbpljcfogekhaaW.PrintWords YtjbpljcfogekhaaW.PrintLast YtjbpljcfogekhaaW.PrintMore
set_option maxHeartbeats 4000000 in
set_option maxRecDepth 100000 in
theorem step_op13 (k : Nat) (s : ByteArray) (pc : Int) (a : Addr) (c : Nat) (bs : List Int) (x0 x1 t2 t3 t4 q : Int) (w : World) (hr : Kd.C (Kd.int .u64) w (some a) (bs.length + 2) (bs ++ [x0, x1])) (hc : bs.length + 2 ≤ c) (hl : bs.length < 1000000)
  (h : code_One.f k s pc = some (13, t2, t3, t4, 0)) (h2 : code_Moves.f k 13 t2 t3 t4 = some (2, q)) (hq0 : 0 ≤ q) (hq1 : q ≤ 10) (hfit : (bs.length : Int) + q ≤ 32)
  (hx0' : 0 ≤ x0) (hx0'' : x0 < 18446744073709551616) (hx1' : 0 ≤ x1) (hx1'' : x1 < 18446744073709551616) :
  Calls Try.prog 45 #[.string s, .agg #[.int .i64 pc, .slice (some a) (bs.length + 2) c]] w fun e w' => ∃ v1_ : Value, e = .returned (.tuple #[.agg #[.int .i64 (wrap64 (t3 + t4)), v1_], .agg #[.int .i64 0, .int .u64 0, .int .u64 0, .int .i64 0]]) ∧ Kd.R (Kd.int .u64) 34 w' w.heap.size (fun _ => True) v1_ (bs ++ [binY 13 x0 x1]) ∧ Below w.heap.size w w' := by
 have hu59 := Try.underlying59
 have hu61 := Try.underlying61
 have hu36 := Try.underlying36
 have HO := Aside0.mk h
 have HM := Aside0.mk h2
 have HR := Aside0.mk hr
 have HRb := Aside0.mk (row_front hr)
 have HL := Aside0.mk (show bs.length < 17592186044416 by omega)
 have hcb : (bs.length : Int) ≤ (c : Int) := by omega
 have hcb0 : (0 : Int) ≤ (bs.length : Int) := by omega
 clear h h2 hr
 go_enter Try.func45, Try.ntmps45
 go_wp2_with (first
  | (go_at_call 20; refine (code_One.calls k s pc 13 t2 t3 t4 0 _ HO.out).mono ?_; rintro e w4 ⟨rfl, hb⟩; obtain ⟨b0, b1, b2, hB, hz4⟩ := three_blocks hb; have z0 : w.heap.size < w4.heap.size := (by omega); have z1 : w.heap.size + 1 < w4.heap.size := (by omega); have z2 : w.heap.size + 1 + 1 < w4.heap.size := (by omega); clear hz4; obtain ⟨⟨c00, c01⟩, f00, f01⟩ := cells2 b0; obtain ⟨⟨c10, c11⟩, f10, f11⟩ := cells2 b1; obtain ⟨⟨c20, c21, c22, c23⟩, f20, f21, f22, f23⟩ := cells4 b2; have B0 := Aside0.mk b0; have B1 := Aside0.mk b1; have B2 := Aside0.mk b2; have HB := Aside0.mk hB; clear b0 b1 b2 hB hb)
  | (go_at_call 23; refine (code_Moves.calls k 13 t2 t3 t4 2 q _ HM.out).mono ?_; rintro e w5 ⟨rfl, hb⟩; have b0 := blk_below (blk_alloc B0.out _) hb; have b1 := blk_below (blk_alloc B1.out _) hb; have b2 := blk_below (blk_alloc B2.out _) hb; have b6 := blk_below (blk_new w4 _) hb; have HB5 := Aside0.mk (below_step (below_alloc HB.out _) hb); have y6 : w4.heap.size < w5.heap.size := (blk_lt b6); have y0 : w.heap.size < w5.heap.size := (blk_lt b0); have y1 : w.heap.size + 1 < w5.heap.size := (blk_lt b1); have y2 : w.heap.size + 1 + 1 < w5.heap.size := (blk_lt b2); have n6 : ¬ w4.heap.size = w5.heap.size := (Nat.ne_of_lt y6); have n0 : ¬ w.heap.size = w5.heap.size := (Nat.ne_of_lt y0); have n1 : ¬ w.heap.size + 1 = w5.heap.size := (Nat.ne_of_lt y1); have n2 : ¬ w.heap.size + 1 + 1 = w5.heap.size := (Nat.ne_of_lt y2); have m6 : ¬ w5.heap.size = w4.heap.size := (Nat.ne_of_gt y6); have m0 : ¬ w5.heap.size = w.heap.size := (Nat.ne_of_gt y0); have m1 : ¬ w5.heap.size = w.heap.size + 1 := (Nat.ne_of_gt y1); have m2 : ¬ w5.heap.size = w.heap.size + 1 + 1 := (Nat.ne_of_gt y2); clear c00 c01 f00 f01 c10 c11 f10 f11 c20 c21 c22 c23 f20 f21 f22 f23; obtain ⟨⟨c00, c01⟩, f00, f01⟩ := cells2 b0; obtain ⟨⟨c10, c11⟩, f10, f11⟩ := cells2 b1; obtain ⟨⟨c20, c21, c22, c23⟩, f20, f21, f22, f23⟩ := cells4 b2; obtain ⟨⟨c60, c61, c62, c63⟩, f60, f61, f62, f63⟩ := cells4 b6; have B0' := Aside0.mk b0; have B1' := Aside0.mk b1; have B2' := Aside0.mk b2; have B6' := Aside0.mk b6; clear b0 b1 b2 b6 hb))
 go_cut [11] (fun v11 wc => ∃ (g : Nat) (vv : Value), v11 = .pointer (some ⟨g, 0, none⟩) ∧ Aside0 (StepMid w wc w4.heap.size g pc (some a) (bs.length + 2) c 13 t2 t3 t4 (wrap64 (t3 + t4)) vv bs))
 case first =>
  go_region_held3 (fun w' => w'.cell? ⟨w4.heap.size, 2, none⟩ = some (.int .i64 t3) ∧ w'.cell? ⟨w4.heap.size, 3, none⟩ = some (.int .i64 t4) ∧ w'.cell? ⟨w.heap.size, 1, none⟩ = some (.slice (some a) (bs.length + 2) c))
   (first | go_keep | ((try dsimp only); (repeat' apply And.intro); all_goals go_keep))
   ((go_at_call 47; go_must (refine (clone_row (some a) c bs _ (Kd.C_below HRb.out (by repeat (first | (with_reducible exact HB5.out) | (with_reducible apply below_alloc) | (with_reducible apply below_drew)))) (by omega) HL.out).mono ?_; rintro e w6 ⟨vv, rfl, hR, hb⟩; obtain ⟨A5, c5, rfl⟩ := Kd.R_slice hR; have hB56 : Below w5.heap.size w5 w6 := (by refine below_step ?_ hb; repeat (first | (with_reducible exact Below.refl _ _) | (with_reducible apply below_alloc) | (with_reducible apply below_drew))); have b0 := blk_below B0'.out hB56; have b1 := blk_below B1'.out hB56; have b2 := blk_below B2'.out hB56; have b6 := blk_below B6'.out hB56; have v0 := blk_lt b0; have v1 := blk_lt b1; have v2 := blk_lt b2; have v6 := blk_lt b6; clear c00 c01 f00 f01 c10 c11 f10 f11 c20 c21 c22 c23 f20 f21 f22 f23 c60 c61 c62 c63 f60 f61 f62 f63; obtain ⟨⟨c00, c01⟩, f00, f01⟩ := cells2 b0; obtain ⟨⟨c10, c11⟩, f10, f11⟩ := cells2 b1; obtain ⟨⟨c20, c21, c22, c23⟩, f20, f21, f22, f23⟩ := cells4 b2; obtain ⟨⟨c60, c61, c62, c63⟩, f60, f61, f62, f63⟩ := cells4 b6; have E0 := Aside0.mk b0; have E1 := Aside0.mk b1; have E2 := Aside0.mk b2; have E6 := Aside0.mk b6; clear b0 b1 b2 b6; have ER := Aside0.mk hR; have EB := Aside0.mk hB56; (try (have b11 : w6.heap[w5.heap.size]? = some (.cells #[.int .i64 0, .slice none 0 0] 59 (0, 0)) := (by with_reducible exact blk_below (blk_drew (blk_new w5 _)) hb); obtain ⟨⟨d0, d1⟩, e0, e1⟩ := cells2 b11; have y11 := blk_lt b11; have E11 := Aside0.mk b11; clear b11)); clear hR)))
  all_goals go_wp2
  all_goals go_meet
  all_goals simp only [i64_w]
  case rel => exact ⟨_, _, rfl, ⟨mid_new E0.out E1.out E2.out E6.out ER.out (by simp; omega) HB5.out EB.out (by omega)⟩⟩
  case rel => exact ⟨_, _, rfl, ⟨mid_old E0.out E1.out E2.out E6.out E11.out ER.out (by simp) HB5.out EB.out (by omega) (by omega)⟩⟩
 case rest =>
  obtain ⟨g, vv, rfl, HC⟩ := hcut
  have m := HC.out
  obtain ⟨A5, c5, rfl⟩ := Kd.R_slice m.row
  clear c00 c01 f00 f01 c10 c11 f10 f11 c20 c21 c22 c23 f20 f21 f22 f23 c60 c61 c62 c63 f60 f61 f62 f63 y6 y0 y1 y2 n6 n0 n1 n2 m6 m0 m1 m2 z0 z1 z2 HB HB5 B0 B1 B2 B0' B1' B2' B6'
  obtain ⟨⟨c00, c01⟩, f00, f01⟩ := cells2 m.b0
  obtain ⟨⟨c10, c11⟩, f10, f11⟩ := cells2 m.b1
  obtain ⟨⟨c20, c21, c22, c23⟩, f20, f21, f22, f23⟩ := cells4 m.b2
  obtain ⟨⟨c60, c61, c62, c63⟩, f60, f61, f62, f63⟩ := cells4 m.b6
  obtain ⟨⟨cg0, cg1⟩, fg0, fg1⟩ := cells2 m.bg
  have hx0 : wc.cell? (a.add bs.length) = some (.int .u64 x0) := row_at0 (Kd.C_below HR.out m.bel)
  have hx1 : wc.cell? ⟨(a.add bs.length).block, (a.add bs.length).off + 1, none⟩ = some (.int .u64 x1) := row_at1f (Kd.C_below HR.out m.bel)
  have LB := m.bel.size
  have L6 := m.n6
  have LG := m.ng
  clear m
  have hfl : ∀ (W : World), (Instr.field 91 (.agg #[.func (Fn.func 60) #[] #[]]) 0).run Try.prog W = .ok (.func (Fn.func 60) #[] #[]) W := fun W => by kernel_rfl
  have RX := Aside0.mk (show 0 ≤ x0 ∧ x0 < 18446744073709551616 ∧ 0 ≤ x1 ∧ x1 < 18446744073709551616 from ⟨hx0', hx0'', hx1', hx1''⟩)
  clear hx0' hx0'' hx1' hx1''
  go_wp2_with fail
  have hok : binOk 13 x1 = true := rfl
  go_region_held3 (fun w' => w'.cell? ⟨w4.heap.size, 0, none⟩ = some (.int .i64 13) ∧ w'.cell? (a.add bs.length) = some (.int .u64 x0) ∧ w'.cell? ⟨(a.add bs.length).block, (a.add bs.length).off + 1, none⟩ = some (.int .u64 x1))
   (first | go_keep | ((try dsimp only); (repeat' apply And.intro); all_goals go_keep))
   (first | ((go_at_call 52; go_must (refine (show Calls Try.prog 52 #[.int .i64 13] _ (fun e w' => e = .returned (.agg #[.func (Fn.func 60) #[] #[]]) ∧ Below _ _ w') from find_any 13 (by omega) (by omega) _).mono ?_; rintro e w8 ⟨rfl, hb⟩; have hB8 : Below wc.heap.size wc w8 := (by refine below_step ?_ hb; repeat (first | (with_reducible exact Below.refl _ _) | (with_reducible apply below_alloc) | (with_reducible apply below_drew))); have k6 := cells4 (blk_below HC.out.b6 hB8); have k60 := k6.1.1; have kx0 : w8.cell? (a.add bs.length) = some (.int .u64 x0) := row_at0 (Kd.C_below HR.out (below_step HC.out.bel hB8)); have kx1 : w8.cell? ⟨(a.add bs.length).block, (a.add bs.length).off + 1, none⟩ = some (.int .u64 x1) := row_at1f (Kd.C_below HR.out (below_step HC.out.bel hB8)); have EB8 := Aside0.mk hB8; clear k6 hb hB8))) | ((go_at_call 60; go_must (refine (show Calls Try.prog 60 #[.int .u64 x0, .int .u64 x1] _ (fun e w' => e = .returned (.tuple #[.int .u64 (binY 13 x0 x1), .bool (binOk 13 x1)]) ∧ Below _ _ w') from bin_any 13 (by omega) (by omega) x0 x1 RX.out.1 RX.out.2.1 RX.out.2.2.1 RX.out.2.2.2 _).mono ?_; rintro e w9 ⟨rfl, hb⟩; have hB9 : Below wc.heap.size wc w9 := (by refine below_step ?_ hb; repeat (first | (with_reducible exact EB8.out) | (with_reducible apply below_alloc) | (with_reducible apply below_drew))); have k6 := cells4 (blk_below HC.out.b6 hB9); have j60 := k6.1.1; have jx0 : w9.cell? (a.add bs.length) = some (.int .u64 x0) := row_at0 (Kd.C_below HR.out (below_step HC.out.bel hB9)); have jx1 : w9.cell? ⟨(a.add bs.length).block, (a.add bs.length).off + 1, none⟩ = some (.int .u64 x1) := row_at1f (Kd.C_below HR.out (below_step HC.out.bel hB9)); clear c00 c01 f00 f01 c10 c11 f10 f11 c20 c21 c22 c23 f20 f21 f22 f23 c60 c61 c62 c63 f60 f61 f62 f63 cg0 cg1 fg0 fg1; obtain ⟨⟨c00, c01⟩, f00, f01⟩ := cells2 (blk_below HC.out.b0 hB9); obtain ⟨⟨c10, c11⟩, f10, f11⟩ := cells2 (blk_below HC.out.b1 hB9); obtain ⟨⟨c20, c21, c22, c23⟩, f20, f21, f22, f23⟩ := cells4 (blk_below HC.out.b2 hB9); obtain ⟨⟨c60, c61, c62, c63⟩, f60, f61, f62, f63⟩ := cells4 (blk_below HC.out.b6 hB9); obtain ⟨⟨cg0, cg1⟩, fg0, fg1⟩ := cells2 (blk_below HC.out.bg hB9); have EB9 := Aside0.mk hB9; clear k6 hb hB9))))
  go_wp2_with (first | (go_at_call 50; go_must (refine (push_mid HC.out _ (by repeat (first | (with_reducible exact EB9.out) | (with_reducible apply below_alloc) | (with_reducible apply below_drew) | (with_reducible refine pw_below_drewN ?_ _))) [binY 13 x0 x1] _ _ (lit_row [binY 13 x0 x1] (by simp) (by repeat (first | (with_reducible exact blk_new _ _) | (with_reducible refine blk_drew ?_) | (with_reducible refine blk_drewN ?_ _) | exact blk_new _ _))) (by simp; omega)).mono ?_; rintro e w7 ⟨rfl, v7, hm⟩; obtain ⟨A7, c7, rfl⟩ := Kd.R_slice hm.row; clear c00 c01 f00 f01 c10 c11 f10 f11 c20 c21 c22 c23 f20 f21 f22 f23 c60 c61 c62 c63 f60 f61 f62 f63 cg0 cg1 fg0 fg1; obtain ⟨⟨c10, c11⟩, f10, f11⟩ := cells2 hm.b1; obtain ⟨⟨c20, c21, c22, c23⟩, f20, f21, f22, f23⟩ := cells4 hm.b2; obtain ⟨⟨cg0, cg1⟩, fg0, fg1⟩ := cells2 hm.bg; have HM7 := Aside0.mk hm; clear hm)))
  refine bodyPost_ret (v := .tuple #[.agg #[.int .i64 (wrap64 (t3 + t4)), .slice A7 (bs ++ [binY 13 x0 x1]).length c7], .agg #[.int .i64 0, .int .u64 0, .int .u64 0, .int .i64 0]]) (by simp [results, Try.results45, go_sem, c10, c11, c20, c21, c22, c23, i64_w, List.length_append]) rfl ⟨_, rfl, end_row HM7.out.row HM7.out.b1 HM7.out.b2 _ _ _ _ _ _, end_below HM7.out.bel _ _ _ _ _ _⟩
end Go.Proofs.Ytjbpljcfogekhaa.Q
namespace Go.Proofs.Ytjbpljcfogekhaa.Q
open Go.RowKit YtjbpljcfogekhaaW.PrintWords YtjbpljcfogekhaaW.PrintLast YtjbpljcfogekhaaW.PrintMore
set_option maxHeartbeats 4000000 in
set_option maxRecDepth 100000 in
theorem step_op14 (k : Nat) (s : ByteArray) (pc : Int) (a : Addr) (c : Nat) (bs : List Int) (x0 x1 t2 t3 t4 q : Int) (w : World) (hr : Kd.C (Kd.int .u64) w (some a) (bs.length + 2) (bs ++ [x0, x1])) (hc : bs.length + 2 ≤ c) (hl : bs.length < 1000000)
  (h : code_One.f k s pc = some (14, t2, t3, t4, 0)) (h2 : code_Moves.f k 14 t2 t3 t4 = some (2, q)) (hq0 : 0 ≤ q) (hq1 : q ≤ 10) (hfit : (bs.length : Int) + q ≤ 32)
  (hx0' : 0 ≤ x0) (hx0'' : x0 < 18446744073709551616) (hx1' : 0 ≤ x1) (hx1'' : x1 < 18446744073709551616) :
  Calls Try.prog 45 #[.string s, .agg #[.int .i64 pc, .slice (some a) (bs.length + 2) c]] w fun e w' => ∃ v1_ : Value, e = .returned (.tuple #[.agg #[.int .i64 (wrap64 (t3 + t4)), v1_], .agg #[.int .i64 0, .int .u64 0, .int .u64 0, .int .i64 0]]) ∧ Kd.R (Kd.int .u64) 34 w' w.heap.size (fun _ => True) v1_ (bs ++ [binY 14 x0 x1]) ∧ Below w.heap.size w w' := by
 have hu59 := Try.underlying59
 have hu61 := Try.underlying61
 have hu36 := Try.underlying36
 have HO := Aside0.mk h
 have HM := Aside0.mk h2
 have HR := Aside0.mk hr
 have HRb := Aside0.mk (row_front hr)
 have HL := Aside0.mk (show bs.length < 17592186044416 by omega)
 have hcb : (bs.length : Int) ≤ (c : Int) := by omega
 have hcb0 : (0 : Int) ≤ (bs.length : Int) := by omega
 clear h h2 hr
 go_enter Try.func45, Try.ntmps45
 go_wp2_with (first
  | (go_at_call 20; refine (code_One.calls k s pc 14 t2 t3 t4 0 _ HO.out).mono ?_; rintro e w4 ⟨rfl, hb⟩; obtain ⟨b0, b1, b2, hB, hz4⟩ := three_blocks hb; have z0 : w.heap.size < w4.heap.size := (by omega); have z1 : w.heap.size + 1 < w4.heap.size := (by omega); have z2 : w.heap.size + 1 + 1 < w4.heap.size := (by omega); clear hz4; obtain ⟨⟨c00, c01⟩, f00, f01⟩ := cells2 b0; obtain ⟨⟨c10, c11⟩, f10, f11⟩ := cells2 b1; obtain ⟨⟨c20, c21, c22, c23⟩, f20, f21, f22, f23⟩ := cells4 b2; have B0 := Aside0.mk b0; have B1 := Aside0.mk b1; have B2 := Aside0.mk b2; have HB := Aside0.mk hB; clear b0 b1 b2 hB hb)
  | (go_at_call 23; refine (code_Moves.calls k 14 t2 t3 t4 2 q _ HM.out).mono ?_; rintro e w5 ⟨rfl, hb⟩; have b0 := blk_below (blk_alloc B0.out _) hb; have b1 := blk_below (blk_alloc B1.out _) hb; have b2 := blk_below (blk_alloc B2.out _) hb; have b6 := blk_below (blk_new w4 _) hb; have HB5 := Aside0.mk (below_step (below_alloc HB.out _) hb); have y6 : w4.heap.size < w5.heap.size := (blk_lt b6); have y0 : w.heap.size < w5.heap.size := (blk_lt b0); have y1 : w.heap.size + 1 < w5.heap.size := (blk_lt b1); have y2 : w.heap.size + 1 + 1 < w5.heap.size := (blk_lt b2); have n6 : ¬ w4.heap.size = w5.heap.size := (Nat.ne_of_lt y6); have n0 : ¬ w.heap.size = w5.heap.size := (Nat.ne_of_lt y0); have n1 : ¬ w.heap.size + 1 = w5.heap.size := (Nat.ne_of_lt y1); have n2 : ¬ w.heap.size + 1 + 1 = w5.heap.size := (Nat.ne_of_lt y2); have m6 : ¬ w5.heap.size = w4.heap.size := (Nat.ne_of_gt y6); have m0 : ¬ w5.heap.size = w.heap.size := (Nat.ne_of_gt y0); have m1 : ¬ w5.heap.size = w.heap.size + 1 := (Nat.ne_of_gt y1); have m2 : ¬ w5.heap.size = w.heap.size + 1 + 1 := (Nat.ne_of_gt y2); clear c00 c01 f00 f01 c10 c11 f10 f11 c20 c21 c22 c23 f20 f21 f22 f23; obtain ⟨⟨c00, c01⟩, f00, f01⟩ := cells2 b0; obtain ⟨⟨c10, c11⟩, f10, f11⟩ := cells2 b1; obtain ⟨⟨c20, c21, c22, c23⟩, f20, f21, f22, f23⟩ := cells4 b2; obtain ⟨⟨c60, c61, c62, c63⟩, f60, f61, f62, f63⟩ := cells4 b6; have B0' := Aside0.mk b0; have B1' := Aside0.mk b1; have B2' := Aside0.mk b2; have B6' := Aside0.mk b6; clear b0 b1 b2 b6 hb))
 go_cut [11] (fun v11 wc => ∃ (g : Nat) (vv : Value), v11 = .pointer (some ⟨g, 0, none⟩) ∧ Aside0 (StepMid w wc w4.heap.size g pc (some a) (bs.length + 2) c 14 t2 t3 t4 (wrap64 (t3 + t4)) vv bs))
 case first =>
  go_region_held3 (fun w' => w'.cell? ⟨w4.heap.size, 2, none⟩ = some (.int .i64 t3) ∧ w'.cell? ⟨w4.heap.size, 3, none⟩ = some (.int .i64 t4) ∧ w'.cell? ⟨w.heap.size, 1, none⟩ = some (.slice (some a) (bs.length + 2) c))
   (first | go_keep | ((try dsimp only); (repeat' apply And.intro); all_goals go_keep))
   ((go_at_call 47; go_must (refine (clone_row (some a) c bs _ (Kd.C_below HRb.out (by repeat (first | (with_reducible exact HB5.out) | (with_reducible apply below_alloc) | (with_reducible apply below_drew)))) (by omega) HL.out).mono ?_; rintro e w6 ⟨vv, rfl, hR, hb⟩; obtain ⟨A5, c5, rfl⟩ := Kd.R_slice hR; have hB56 : Below w5.heap.size w5 w6 := (by refine below_step ?_ hb; repeat (first | (with_reducible exact Below.refl _ _) | (with_reducible apply below_alloc) | (with_reducible apply below_drew))); have b0 := blk_below B0'.out hB56; have b1 := blk_below B1'.out hB56; have b2 := blk_below B2'.out hB56; have b6 := blk_below B6'.out hB56; have v0 := blk_lt b0; have v1 := blk_lt b1; have v2 := blk_lt b2; have v6 := blk_lt b6; clear c00 c01 f00 f01 c10 c11 f10 f11 c20 c21 c22 c23 f20 f21 f22 f23 c60 c61 c62 c63 f60 f61 f62 f63; obtain ⟨⟨c00, c01⟩, f00, f01⟩ := cells2 b0; obtain ⟨⟨c10, c11⟩, f10, f11⟩ := cells2 b1; obtain ⟨⟨c20, c21, c22, c23⟩, f20, f21, f22, f23⟩ := cells4 b2; obtain ⟨⟨c60, c61, c62, c63⟩, f60, f61, f62, f63⟩ := cells4 b6; have E0 := Aside0.mk b0; have E1 := Aside0.mk b1; have E2 := Aside0.mk b2; have E6 := Aside0.mk b6; clear b0 b1 b2 b6; have ER := Aside0.mk hR; have EB := Aside0.mk hB56; (try (have b11 : w6.heap[w5.heap.size]? = some (.cells #[.int .i64 0, .slice none 0 0] 59 (0, 0)) := (by with_reducible exact blk_below (blk_drew (blk_new w5 _)) hb); obtain ⟨⟨d0, d1⟩, e0, e1⟩ := cells2 b11; have y11 := blk_lt b11; have E11 := Aside0.mk b11; clear b11)); clear hR)))
  all_goals go_wp2
  all_goals go_meet
  all_goals simp only [i64_w]
  case rel => exact ⟨_, _, rfl, ⟨mid_new E0.out E1.out E2.out E6.out ER.out (by simp; omega) HB5.out EB.out (by omega)⟩⟩
  case rel => exact ⟨_, _, rfl, ⟨mid_old E0.out E1.out E2.out E6.out E11.out ER.out (by simp) HB5.out EB.out (by omega) (by omega)⟩⟩
 case rest =>
  obtain ⟨g, vv, rfl, HC⟩ := hcut
  have m := HC.out
  obtain ⟨A5, c5, rfl⟩ := Kd.R_slice m.row
  clear c00 c01 f00 f01 c10 c11 f10 f11 c20 c21 c22 c23 f20 f21 f22 f23 c60 c61 c62 c63 f60 f61 f62 f63 y6 y0 y1 y2 n6 n0 n1 n2 m6 m0 m1 m2 z0 z1 z2 HB HB5 B0 B1 B2 B0' B1' B2' B6'
  obtain ⟨⟨c00, c01⟩, f00, f01⟩ := cells2 m.b0
  obtain ⟨⟨c10, c11⟩, f10, f11⟩ := cells2 m.b1
  obtain ⟨⟨c20, c21, c22, c23⟩, f20, f21, f22, f23⟩ := cells4 m.b2
  obtain ⟨⟨c60, c61, c62, c63⟩, f60, f61, f62, f63⟩ := cells4 m.b6
  obtain ⟨⟨cg0, cg1⟩, fg0, fg1⟩ := cells2 m.bg
  have hx0 : wc.cell? (a.add bs.length) = some (.int .u64 x0) := row_at0 (Kd.C_below HR.out m.bel)
  have hx1 : wc.cell? ⟨(a.add bs.length).block, (a.add bs.length).off + 1, none⟩ = some (.int .u64 x1) := row_at1f (Kd.C_below HR.out m.bel)
  have LB := m.bel.size
  have L6 := m.n6
  have LG := m.ng
  clear m
  have hfl : ∀ (W : World), (Instr.field 91 (.agg #[.func (Fn.func 61) #[] #[]]) 0).run Try.prog W = .ok (.func (Fn.func 61) #[] #[]) W := fun W => by kernel_rfl
  have RX := Aside0.mk (show 0 ≤ x0 ∧ x0 < 18446744073709551616 ∧ 0 ≤ x1 ∧ x1 < 18446744073709551616 from ⟨hx0', hx0'', hx1', hx1''⟩)
  clear hx0' hx0'' hx1' hx1''
  go_wp2_with fail
  have hok : binOk 14 x1 = true := rfl
  go_region_held3 (fun w' => w'.cell? ⟨w4.heap.size, 0, none⟩ = some (.int .i64 14) ∧ w'.cell? (a.add bs.length) = some (.int .u64 x0) ∧ w'.cell? ⟨(a.add bs.length).block, (a.add bs.length).off + 1, none⟩ = some (.int .u64 x1))
   (first | go_keep | ((try dsimp only); (repeat' apply And.intro); all_goals go_keep))
   (first | ((go_at_call 52; go_must (refine (show Calls Try.prog 52 #[.int .i64 14] _ (fun e w' => e = .returned (.agg #[.func (Fn.func 61) #[] #[]]) ∧ Below _ _ w') from find_any 14 (by omega) (by omega) _).mono ?_; rintro e w8 ⟨rfl, hb⟩; have hB8 : Below wc.heap.size wc w8 := (by refine below_step ?_ hb; repeat (first | (with_reducible exact Below.refl _ _) | (with_reducible apply below_alloc) | (with_reducible apply below_drew))); have k6 := cells4 (blk_below HC.out.b6 hB8); have k60 := k6.1.1; have kx0 : w8.cell? (a.add bs.length) = some (.int .u64 x0) := row_at0 (Kd.C_below HR.out (below_step HC.out.bel hB8)); have kx1 : w8.cell? ⟨(a.add bs.length).block, (a.add bs.length).off + 1, none⟩ = some (.int .u64 x1) := row_at1f (Kd.C_below HR.out (below_step HC.out.bel hB8)); have EB8 := Aside0.mk hB8; clear k6 hb hB8))) | ((go_at_call 61; go_must (refine (show Calls Try.prog 61 #[.int .u64 x0, .int .u64 x1] _ (fun e w' => e = .returned (.tuple #[.int .u64 (binY 14 x0 x1), .bool (binOk 14 x1)]) ∧ Below _ _ w') from bin_any 14 (by omega) (by omega) x0 x1 RX.out.1 RX.out.2.1 RX.out.2.2.1 RX.out.2.2.2 _).mono ?_; rintro e w9 ⟨rfl, hb⟩; have hB9 : Below wc.heap.size wc w9 := (by refine below_step ?_ hb; repeat (first | (with_reducible exact EB8.out) | (with_reducible apply below_alloc) | (with_reducible apply below_drew))); have k6 := cells4 (blk_below HC.out.b6 hB9); have j60 := k6.1.1; have jx0 : w9.cell? (a.add bs.length) = some (.int .u64 x0) := row_at0 (Kd.C_below HR.out (below_step HC.out.bel hB9)); have jx1 : w9.cell? ⟨(a.add bs.length).block, (a.add bs.length).off + 1, none⟩ = some (.int .u64 x1) := row_at1f (Kd.C_below HR.out (below_step HC.out.bel hB9)); clear c00 c01 f00 f01 c10 c11 f10 f11 c20 c21 c22 c23 f20 f21 f22 f23 c60 c61 c62 c63 f60 f61 f62 f63 cg0 cg1 fg0 fg1; obtain ⟨⟨c00, c01⟩, f00, f01⟩ := cells2 (blk_below HC.out.b0 hB9); obtain ⟨⟨c10, c11⟩, f10, f11⟩ := cells2 (blk_below HC.out.b1 hB9); obtain ⟨⟨c20, c21, c22, c23⟩, f20, f21, f22, f23⟩ := cells4 (blk_below HC.out.b2 hB9); obtain ⟨⟨c60, c61, c62, c63⟩, f60, f61, f62, f63⟩ := cells4 (blk_below HC.out.b6 hB9); obtain ⟨⟨cg0, cg1⟩, fg0, fg1⟩ := cells2 (blk_below HC.out.bg hB9); have EB9 := Aside0.mk hB9; clear k6 hb hB9))))
  go_wp2_with (first | (go_at_call 50; go_must (refine (push_mid HC.out _ (by repeat (first | (with_reducible exact EB9.out) | (with_reducible apply below_alloc) | (with_reducible apply below_drew) | (with_reducible refine pw_below_drewN ?_ _))) [binY 14 x0 x1] _ _ (lit_row [binY 14 x0 x1] (by simp) (by repeat (first | (with_reducible exact blk_new _ _) | (with_reducible refine blk_drew ?_) | (with_reducible refine blk_drewN ?_ _) | exact blk_new _ _))) (by simp; omega)).mono ?_; rintro e w7 ⟨rfl, v7, hm⟩; obtain ⟨A7, c7, rfl⟩ := Kd.R_slice hm.row; clear c00 c01 f00 f01 c10 c11 f10 f11 c20 c21 c22 c23 f20 f21 f22 f23 c60 c61 c62 c63 f60 f61 f62 f63 cg0 cg1 fg0 fg1; obtain ⟨⟨c10, c11⟩, f10, f11⟩ := cells2 hm.b1; obtain ⟨⟨c20, c21, c22, c23⟩, f20, f21, f22, f23⟩ := cells4 hm.b2; obtain ⟨⟨cg0, cg1⟩, fg0, fg1⟩ := cells2 hm.bg; have HM7 := Aside0.mk hm; clear hm)))
  refine bodyPost_ret (v := .tuple #[.agg #[.int .i64 (wrap64 (t3 + t4)), .slice A7 (bs ++ [binY 14 x0 x1]).length c7], .agg #[.int .i64 0, .int .u64 0, .int .u64 0, .int .i64 0]]) (by simp [results, Try.results45, go_sem, c10, c11, c20, c21, c22, c23, i64_w, List.length_append]) rfl ⟨_, rfl, end_row HM7.out.row HM7.out.b1 HM7.out.b2 _ _ _ _ _ _, end_below HM7.out.bel _ _ _ _ _ _⟩
end Go.Proofs.Ytjbpljcfogekhaa.Q
namespace Go.Proofs.Ytjbpljcfogekhaa.Q
open Go.RowKit YtjbpljcfogekhaaW.PrintWords YtjbpljcfogekhaaW.PrintLast YtjbpljcfogekhaaW.PrintMore
set_option maxHeartbeats 4000000 in
set_option maxRecDepth 100000 in
theorem step_op15 (k : Nat) (s : ByteArray) (pc : Int) (a : Addr) (c : Nat) (bs : List Int) (x0 x1 t2 t3 t4 q : Int) (w : World) (hr : Kd.C (Kd.int .u64) w (some a) (bs.length + 2) (bs ++ [x0, x1])) (hc : bs.length + 2 ≤ c) (hl : bs.length < 1000000)
  (h : code_One.f k s pc = some (15, t2, t3, t4, 0)) (h2 : code_Moves.f k 15 t2 t3 t4 = some (2, q)) (hq0 : 0 ≤ q) (hq1 : q ≤ 10) (hfit : (bs.length : Int) + q ≤ 32)
  (hx0' : 0 ≤ x0) (hx0'' : x0 < 18446744073709551616) (hx1' : 0 ≤ x1) (hx1'' : x1 < 18446744073709551616) :
  Calls Try.prog 45 #[.string s, .agg #[.int .i64 pc, .slice (some a) (bs.length + 2) c]] w fun e w' => ∃ v1_ : Value, e = .returned (.tuple #[.agg #[.int .i64 (wrap64 (t3 + t4)), v1_], .agg #[.int .i64 0, .int .u64 0, .int .u64 0, .int .i64 0]]) ∧ Kd.R (Kd.int .u64) 34 w' w.heap.size (fun _ => True) v1_ (bs ++ [binY 15 x0 x1]) ∧ Below w.heap.size w w' := by
 have hu59 := Try.underlying59
 have hu61 := Try.underlying61
 have hu36 := Try.underlying36
 have HO := Aside0.mk h
 have HM := Aside0.mk h2
 have HR := Aside0.mk hr
 have HRb := Aside0.mk (row_front hr)
 have HL := Aside0.mk (show bs.length < 17592186044416 by omega)
 have hcb : (bs.length : Int) ≤ (c : Int) := by omega
 have hcb0 : (0 : Int) ≤ (bs.length : Int) := by omega
 clear h h2 hr
 go_enter Try.func45, Try.ntmps45
 go_wp2_with (first
  | (go_at_call 20; refine (code_One.calls k s pc 15 t2 t3 t4 0 _ HO.out).mono ?_; rintro e w4 ⟨rfl, hb⟩; obtain ⟨b0, b1, b2, hB, hz4⟩ := three_blocks hb; have z0 : w.heap.size < w4.heap.size := (by omega); have z1 : w.heap.size + 1 < w4.heap.size := (by omega); have z2 : w.heap.size + 1 + 1 < w4.heap.size := (by omega); clear hz4; obtain ⟨⟨c00, c01⟩, f00, f01⟩ := cells2 b0; obtain ⟨⟨c10, c11⟩, f10, f11⟩ := cells2 b1; obtain ⟨⟨c20, c21, c22, c23⟩, f20, f21, f22, f23⟩ := cells4 b2; have B0 := Aside0.mk b0; have B1 := Aside0.mk b1; have B2 := Aside0.mk b2; have HB := Aside0.mk hB; clear b0 b1 b2 hB hb)
  | (go_at_call 23; refine (code_Moves.calls k 15 t2 t3 t4 2 q _ HM.out).mono ?_; rintro e w5 ⟨rfl, hb⟩; have b0 := blk_below (blk_alloc B0.out _) hb; have b1 := blk_below (blk_alloc B1.out _) hb; have b2 := blk_below (blk_alloc B2.out _) hb; have b6 := blk_below (blk_new w4 _) hb; have HB5 := Aside0.mk (below_step (below_alloc HB.out _) hb); have y6 : w4.heap.size < w5.heap.size := (blk_lt b6); have y0 : w.heap.size < w5.heap.size := (blk_lt b0); have y1 : w.heap.size + 1 < w5.heap.size := (blk_lt b1); have y2 : w.heap.size + 1 + 1 < w5.heap.size := (blk_lt b2); have n6 : ¬ w4.heap.size = w5.heap.size := (Nat.ne_of_lt y6); have n0 : ¬ w.heap.size = w5.heap.size := (Nat.ne_of_lt y0); have n1 : ¬ w.heap.size + 1 = w5.heap.size := (Nat.ne_of_lt y1); have n2 : ¬ w.heap.size + 1 + 1 = w5.heap.size := (Nat.ne_of_lt y2); have m6 : ¬ w5.heap.size = w4.heap.size := (Nat.ne_of_gt y6); have m0 : ¬ w5.heap.size = w.heap.size := (Nat.ne_of_gt y0); have m1 : ¬ w5.heap.size = w.heap.size + 1 := (Nat.ne_of_gt y1); have m2 : ¬ w5.heap.size = w.heap.size + 1 + 1 := (Nat.ne_of_gt y2); clear c00 c01 f00 f01 c10 c11 f10 f11 c20 c21 c22 c23 f20 f21 f22 f23; obtain ⟨⟨c00, c01⟩, f00, f01⟩ := cells2 b0; obtain ⟨⟨c10, c11⟩, f10, f11⟩ := cells2 b1; obtain ⟨⟨c20, c21, c22, c23⟩, f20, f21, f22, f23⟩ := cells4 b2; obtain ⟨⟨c60, c61, c62, c63⟩, f60, f61, f62, f63⟩ := cells4 b6; have B0' := Aside0.mk b0; have B1' := Aside0.mk b1; have B2' := Aside0.mk b2; have B6' := Aside0.mk b6; clear b0 b1 b2 b6 hb))
 go_cut [11] (fun v11 wc => ∃ (g : Nat) (vv : Value), v11 = .pointer (some ⟨g, 0, none⟩) ∧ Aside0 (StepMid w wc w4.heap.size g pc (some a) (bs.length + 2) c 15 t2 t3 t4 (wrap64 (t3 + t4)) vv bs))
 case first =>
  go_region_held3 (fun w' => w'.cell? ⟨w4.heap.size, 2, none⟩ = some (.int .i64 t3) ∧ w'.cell? ⟨w4.heap.size, 3, none⟩ = some (.int .i64 t4) ∧ w'.cell? ⟨w.heap.size, 1, none⟩ = some (.slice (some a) (bs.length + 2) c))
   (first | go_keep | ((try dsimp only); (repeat' apply And.intro); all_goals go_keep))
   ((go_at_call 47; go_must (refine (clone_row (some a) c bs _ (Kd.C_below HRb.out (by repeat (first | (with_reducible exact HB5.out) | (with_reducible apply below_alloc) | (with_reducible apply below_drew)))) (by omega) HL.out).mono ?_; rintro e w6 ⟨vv, rfl, hR, hb⟩; obtain ⟨A5, c5, rfl⟩ := Kd.R_slice hR; have hB56 : Below w5.heap.size w5 w6 := (by refine below_step ?_ hb; repeat (first | (with_reducible exact Below.refl _ _) | (with_reducible apply below_alloc) | (with_reducible apply below_drew))); have b0 := blk_below B0'.out hB56; have b1 := blk_below B1'.out hB56; have b2 := blk_below B2'.out hB56; have b6 := blk_below B6'.out hB56; have v0 := blk_lt b0; have v1 := blk_lt b1; have v2 := blk_lt b2; have v6 := blk_lt b6; clear c00 c01 f00 f01 c10 c11 f10 f11 c20 c21 c22 c23 f20 f21 f22 f23 c60 c61 c62 c63 f60 f61 f62 f63; obtain ⟨⟨c00, c01⟩, f00, f01⟩ := cells2 b0; obtain ⟨⟨c10, c11⟩, f10, f11⟩ := cells2 b1; obtain ⟨⟨c20, c21, c22, c23⟩, f20, f21, f22, f23⟩ := cells4 b2; obtain ⟨⟨c60, c61, c62, c63⟩, f60, f61, f62, f63⟩ := cells4 b6; have E0 := Aside0.mk b0; have E1 := Aside0.mk b1; have E2 := Aside0.mk b2; have E6 := Aside0.mk b6; clear b0 b1 b2 b6; have ER := Aside0.mk hR; have EB := Aside0.mk hB56; (try (have b11 : w6.heap[w5.heap.size]? = some (.cells #[.int .i64 0, .slice none 0 0] 59 (0, 0)) := (by with_reducible exact blk_below (blk_drew (blk_new w5 _)) hb); obtain ⟨⟨d0, d1⟩, e0, e1⟩ := cells2 b11; have y11 := blk_lt b11; have E11 := Aside0.mk b11; clear b11)); clear hR)))
  all_goals go_wp2
  all_goals go_meet
  all_goals simp only [i64_w]
  case rel => exact ⟨_, _, rfl, ⟨mid_new E0.out E1.out E2.out E6.out ER.out (by simp; omega) HB5.out EB.out (by omega)⟩⟩
  case rel => exact ⟨_, _, rfl, ⟨mid_old E0.out E1.out E2.out E6.out E11.out ER.out (by simp) HB5.out EB.out (by omega) (by omega)⟩⟩
 case rest =>
  obtain ⟨g, vv, rfl, HC⟩ := hcut
  have m := HC.out
  obtain ⟨A5, c5, rfl⟩ := Kd.R_slice m.row
  clear c00 c01 f00 f01 c10 c11 f10 f11 c20 c21 c22 c23 f20 f21 f22 f23 c60 c61 c62 c63 f60 f61 f62 f63 y6 y0 y1 y2 n6 n0 n1 n2 m6 m0 m1 m2 z0 z1 z2 HB HB5 B0 B1 B2 B0' B1' B2' B6'
  obtain ⟨⟨c00, c01⟩, f00, f01⟩ := cells2 m.b0
  obtain ⟨⟨c10, c11⟩, f10, f11⟩ := cells2 m.b1
  obtain ⟨⟨c20, c21, c22, c23⟩, f20, f21, f22, f23⟩ := cells4 m.b2
  obtain ⟨⟨c60, c61, c62, c63⟩, f60, f61, f62, f63⟩ := cells4 m.b6
  obtain ⟨⟨cg0, cg1⟩, fg0, fg1⟩ := cells2 m.bg
  have hx0 : wc.cell? (a.add bs.length) = some (.int .u64 x0) := row_at0 (Kd.C_below HR.out m.bel)
  have hx1 : wc.cell? ⟨(a.add bs.length).block, (a.add bs.length).off + 1, none⟩ = some (.int .u64 x1) := row_at1f (Kd.C_below HR.out m.bel)
  have LB := m.bel.size
  have L6 := m.n6
  have LG := m.ng
  clear m
  have hfl : ∀ (W : World), (Instr.field 91 (.agg #[.func (Fn.func 62) #[] #[]]) 0).run Try.prog W = .ok (.func (Fn.func 62) #[] #[]) W := fun W => by kernel_rfl
  have RX := Aside0.mk (show 0 ≤ x0 ∧ x0 < 18446744073709551616 ∧ 0 ≤ x1 ∧ x1 < 18446744073709551616 from ⟨hx0', hx0'', hx1', hx1''⟩)
  clear hx0' hx0'' hx1' hx1''
  go_wp2_with fail
  have hok : binOk 15 x1 = true := rfl
  go_region_held3 (fun w' => w'.cell? ⟨w4.heap.size, 0, none⟩ = some (.int .i64 15) ∧ w'.cell? (a.add bs.length) = some (.int .u64 x0) ∧ w'.cell? ⟨(a.add bs.length).block, (a.add bs.length).off + 1, none⟩ = some (.int .u64 x1))
   (first | go_keep | ((try dsimp only); (repeat' apply And.intro); all_goals go_keep))
   (first | ((go_at_call 52; go_must (refine (show Calls Try.prog 52 #[.int .i64 15] _ (fun e w' => e = .returned (.agg #[.func (Fn.func 62) #[] #[]]) ∧ Below _ _ w') from find_any 15 (by omega) (by omega) _).mono ?_; rintro e w8 ⟨rfl, hb⟩; have hB8 : Below wc.heap.size wc w8 := (by refine below_step ?_ hb; repeat (first | (with_reducible exact Below.refl _ _) | (with_reducible apply below_alloc) | (with_reducible apply below_drew))); have k6 := cells4 (blk_below HC.out.b6 hB8); have k60 := k6.1.1; have kx0 : w8.cell? (a.add bs.length) = some (.int .u64 x0) := row_at0 (Kd.C_below HR.out (below_step HC.out.bel hB8)); have kx1 : w8.cell? ⟨(a.add bs.length).block, (a.add bs.length).off + 1, none⟩ = some (.int .u64 x1) := row_at1f (Kd.C_below HR.out (below_step HC.out.bel hB8)); have EB8 := Aside0.mk hB8; clear k6 hb hB8))) | ((go_at_call 62; go_must (refine (show Calls Try.prog 62 #[.int .u64 x0, .int .u64 x1] _ (fun e w' => e = .returned (.tuple #[.int .u64 (binY 15 x0 x1), .bool (binOk 15 x1)]) ∧ Below _ _ w') from bin_any 15 (by omega) (by omega) x0 x1 RX.out.1 RX.out.2.1 RX.out.2.2.1 RX.out.2.2.2 _).mono ?_; rintro e w9 ⟨rfl, hb⟩; have hB9 : Below wc.heap.size wc w9 := (by refine below_step ?_ hb; repeat (first | (with_reducible exact EB8.out) | (with_reducible apply below_alloc) | (with_reducible apply below_drew))); have k6 := cells4 (blk_below HC.out.b6 hB9); have j60 := k6.1.1; have jx0 : w9.cell? (a.add bs.length) = some (.int .u64 x0) := row_at0 (Kd.C_below HR.out (below_step HC.out.bel hB9)); have jx1 : w9.cell? ⟨(a.add bs.length).block, (a.add bs.length).off + 1, none⟩ = some (.int .u64 x1) := row_at1f (Kd.C_below HR.out (below_step HC.out.bel hB9)); clear c00 c01 f00 f01 c10 c11 f10 f11 c20 c21 c22 c23 f20 f21 f22 f23 c60 c61 c62 c63 f60 f61 f62 f63 cg0 cg1 fg0 fg1; obtain ⟨⟨c00, c01⟩, f00, f01⟩ := cells2 (blk_below HC.out.b0 hB9); obtain ⟨⟨c10, c11⟩, f10, f11⟩ := cells2 (blk_below HC.out.b1 hB9); obtain ⟨⟨c20, c21, c22, c23⟩, f20, f21, f22, f23⟩ := cells4 (blk_below HC.out.b2 hB9); obtain ⟨⟨c60, c61, c62, c63⟩, f60, f61, f62, f63⟩ := cells4 (blk_below HC.out.b6 hB9); obtain ⟨⟨cg0, cg1⟩, fg0, fg1⟩ := cells2 (blk_below HC.out.bg hB9); have EB9 := Aside0.mk hB9; clear k6 hb hB9))))
  go_wp2_with (first | (go_at_call 50; go_must (refine (push_mid HC.out _ (by repeat (first | (with_reducible exact EB9.out) | (with_reducible apply below_alloc) | (with_reducible apply below_drew) | (with_reducible refine pw_below_drewN ?_ _))) [binY 15 x0 x1] _ _ (lit_row [binY 15 x0 x1] (by simp) (by repeat (first | (with_reducible exact blk_new _ _) | (with_reducible refine blk_drew ?_) | (with_reducible refine blk_drewN ?_ _) | exact blk_new _ _))) (by simp; omega)).mono ?_; rintro e w7 ⟨rfl, v7, hm⟩; obtain ⟨A7, c7, rfl⟩ := Kd.R_slice hm.row; clear c00 c01 f00 f01 c10 c11 f10 f11 c20 c21 c22 c23 f20 f21 f22 f23 c60 c61 c62 c63 f60 f61 f62 f63 cg0 cg1 fg0 fg1; obtain ⟨⟨c10, c11⟩, f10, f11⟩ := cells2 hm.b1; obtain ⟨⟨c20, c21, c22, c23⟩, f20, f21, f22, f23⟩ := cells4 hm.b2; obtain ⟨⟨cg0, cg1⟩, fg0, fg1⟩ := cells2 hm.bg; have HM7 := Aside0.mk hm; clear hm)))
  refine bodyPost_ret (v := .tuple #[.agg #[.int .i64 (wrap64 (t3 + t4)), .slice A7 (bs ++ [binY 15 x0 x1]).length c7], .agg #[.int .i64 0, .int .u64 0, .int .u64 0, .int .i64 0]]) (by simp [results, Try.results45, go_sem, c10, c11, c20, c21, c22, c23, i64_w, List.length_append]) rfl ⟨_, rfl, end_row HM7.out.row HM7.out.b1 HM7.out.b2 _ _ _ _ _ _, end_below HM7.out.bel _ _ _ _ _ _⟩
end Go.Proofs.Ytjbpljcfogekhaa.Q
namespace Go.Proofs.Ytjbpljcfogekhaa.Q
open Go.RowKit YtjbpljcfogekhaaW.PrintWords YtjbpljcfogekhaaW.PrintLast YtjbpljcfogekhaaW.PrintMore
set_option maxHeartbeats 4000000 in
set_option maxRecDepth 100000 in
theorem step_op16 (k : Nat) (s : ByteArray) (pc : Int) (a : Addr) (c : Nat) (bs : List Int) (x0 x1 t2 t3 t4 q : Int) (w : World) (hr : Kd.C (Kd.int .u64) w (some a) (bs.length + 2) (bs ++ [x0, x1])) (hc : bs.length + 2 ≤ c) (hl : bs.length < 1000000)
  (h : code_One.f k s pc = some (16, t2, t3, t4, 0)) (h2 : code_Moves.f k 16 t2 t3 t4 = some (2, q)) (hq0 : 0 ≤ q) (hq1 : q ≤ 10) (hfit : (bs.length : Int) + q ≤ 32)
  (hx0' : 0 ≤ x0) (hx0'' : x0 < 18446744073709551616) (hx1' : 0 ≤ x1) (hx1'' : x1 < 18446744073709551616) :
  Calls Try.prog 45 #[.string s, .agg #[.int .i64 pc, .slice (some a) (bs.length + 2) c]] w fun e w' => ∃ v1_ : Value, e = .returned (.tuple #[.agg #[.int .i64 (wrap64 (t3 + t4)), v1_], .agg #[.int .i64 0, .int .u64 0, .int .u64 0, .int .i64 0]]) ∧ Kd.R (Kd.int .u64) 34 w' w.heap.size (fun _ => True) v1_ (bs ++ [binY 16 x0 x1]) ∧ Below w.heap.size w w' := by
 have hu59 := Try.underlying59
 have hu61 := Try.underlying61
 have hu36 := Try.underlying36
 have HO := Aside0.mk h
 have HM := Aside0.mk h2
 have HR := Aside0.mk hr
 have HRb := Aside0.mk (row_front hr)
 have HL := Aside0.mk (show bs.length < 17592186044416 by omega)
 have hcb : (bs.length : Int) ≤ (c : Int) := by omega
 have hcb0 : (0 : Int) ≤ (bs.length : Int) := by omega
 clear h h2 hr
 go_enter Try.func45, Try.ntmps45
 go_wp2_with (first
  | (go_at_call 20; refine (code_One.calls k s pc 16 t2 t3 t4 0 _ HO.out).mono ?_; rintro e w4 ⟨rfl, hb⟩; obtain ⟨b0, b1, b2, hB, hz4⟩ := three_blocks hb; have z0 : w.heap.size < w4.heap.size := (by omega); have z1 : w.heap.size + 1 < w4.heap.size := (by omega); have z2 : w.heap.size + 1 + 1 < w4.heap.size := (by omega); clear hz4; obtain ⟨⟨c00, c01⟩, f00, f01⟩ := cells2 b0; obtain ⟨⟨c10, c11⟩, f10, f11⟩ := cells2 b1; obtain ⟨⟨c20, c21, c22, c23⟩, f20, f21, f22, f23⟩ := cells4 b2; have B0 := Aside0.mk b0; have B1 := Aside0.mk b1; have B2 := Aside0.mk b2; have HB := Aside0.mk hB; clear b0 b1 b2 hB hb)
  | (go_at_call 23; refine (code_Moves.calls k 16 t2 t3 t4 2 q _ HM.out).mono ?_; rintro e w5 ⟨rfl, hb⟩; have b0 := blk_below (blk_alloc B0.out _) hb; have b1 := blk_below (blk_alloc B1.out _) hb; have b2 := blk_below (blk_alloc B2.out _) hb; have b6 := blk_below (blk_new w4 _) hb; have HB5 := Aside0.mk (below_step (below_alloc HB.out _) hb); have y6 : w4.heap.size < w5.heap.size := (blk_lt b6); have y0 : w.heap.size < w5.heap.size := (blk_lt b0); have y1 : w.heap.size + 1 < w5.heap.size := (blk_lt b1); have y2 : w.heap.size + 1 + 1 < w5.heap.size := (blk_lt b2); have n6 : ¬ w4.heap.size = w5.heap.size := (Nat.ne_of_lt y6); have n0 : ¬ w.heap.size = w5.heap.size := (Nat.ne_of_lt y0); have n1 : ¬ w.heap.size + 1 = w5.heap.size := (Nat.ne_of_lt y1); have n2 : ¬ w.heap.size + 1 + 1 = w5.heap.size := (Nat.ne_of_lt y2); have m6 : ¬ w5.heap.size = w4.heap.size := (Nat.ne_of_gt y6); have m0 : ¬ w5.heap.size = w.heap.size := (Nat.ne_of_gt y0); have m1 : ¬ w5.heap.size = w.heap.size + 1 := (Nat.ne_of_gt y1); have m2 : ¬ w5.heap.size = w.heap.size + 1 + 1 := (Nat.ne_of_gt y2); clear c00 c01 f00 f01 c10 c11 f10 f11 c20 c21 c22 c23 f20 f21 f22 f23; obtain ⟨⟨c00, c01⟩, f00, f01⟩ := cells2 b0; obtain ⟨⟨c10, c11⟩, f10, f11⟩ := cells2 b1; obtain ⟨⟨c20, c21, c22, c23⟩, f20, f21, f22, f23⟩ := cells4 b2; obtain ⟨⟨c60, c61, c62, c63⟩, f60, f61, f62, f63⟩ := cells4 b6; have B0' := Aside0.mk b0; have B1' := Aside0.mk b1; have B2' := Aside0.mk b2; have B6' := Aside0.mk b6; clear b0 b1 b2 b6 hb))
 go_cut [11] (fun v11 wc => ∃ (g : Nat) (vv : Value), v11 = .pointer (some ⟨g, 0, none⟩) ∧ Aside0 (StepMid w wc w4.heap.size g pc (some a) (bs.length + 2) c 16 t2 t3 t4 (wrap64 (t3 + t4)) vv bs))
 case first =>
  go_region_held3 (fun w' => w'.cell? ⟨w4.heap.size, 2, none⟩ = some (.int .i64 t3) ∧ w'.cell? ⟨w4.heap.size, 3, none⟩ = some (.int .i64 t4) ∧ w'.cell? ⟨w.heap.size, 1, none⟩ = some (.slice (some a) (bs.length + 2) c))
   (first | go_keep | ((try dsimp only); (repeat' apply And.intro); all_goals go_keep))
   ((go_at_call 47; go_must (refine (clone_row (some a) c bs _ (Kd.C_below HRb.out (by repeat (first | (with_reducible exact HB5.out) | (with_reducible apply below_alloc) | (with_reducible apply below_drew)))) (by omega) HL.out).mono ?_; rintro e w6 ⟨vv, rfl, hR, hb⟩; obtain ⟨A5, c5, rfl⟩ := Kd.R_slice hR; have hB56 : Below w5.heap.size w5 w6 := (by refine below_step ?_ hb; repeat (first | (with_reducible exact Below.refl _ _) | (with_reducible apply below_alloc) | (with_reducible apply below_drew))); have b0 := blk_below B0'.out hB56; have b1 := blk_below B1'.out hB56; have b2 := blk_below B2'.out hB56; have b6 := blk_below B6'.out hB56; have v0 := blk_lt b0; have v1 := blk_lt b1; have v2 := blk_lt b2; have v6 := blk_lt b6; clear c00 c01 f00 f01 c10 c11 f10 f11 c20 c21 c22 c23 f20 f21 f22 f23 c60 c61 c62 c63 f60 f61 f62 f63; obtain ⟨⟨c00, c01⟩, f00, f01⟩ := cells2 b0; obtain ⟨⟨c10, c11⟩, f10, f11⟩ := cells2 b1; obtain ⟨⟨c20, c21, c22, c23⟩, f20, f21, f22, f23⟩ := cells4 b2; obtain ⟨⟨c60, c61, c62, c63⟩, f60, f61, f62, f63⟩ := cells4 b6; have E0 := Aside0.mk b0; have E1 := Aside0.mk b1; have E2 := Aside0.mk b2; have E6 := Aside0.mk b6; clear b0 b1 b2 b6; have ER := Aside0.mk hR; have EB := Aside0.mk hB56; (try (have b11 : w6.heap[w5.heap.size]? = some (.cells #[.int .i64 0, .slice none 0 0] 59 (0, 0)) := (by with_reducible exact blk_below (blk_drew (blk_new w5 _)) hb); obtain ⟨⟨d0, d1⟩, e0, e1⟩ := cells2 b11; have y11 := blk_lt b11; have E11 := Aside0.mk b11; clear b11)); clear hR)))
  all_goals go_wp2
  all_goals go_meet
  all_goals simp only [i64_w]
  case rel => exact ⟨_, _, rfl, ⟨mid_new E0.out E1.out E2.out E6.out ER.out (by simp; omega) HB5.out EB.out (by omega)⟩⟩
  case rel => exact ⟨_, _, rfl, ⟨mid_old E0.out E1.out E2.out E6.out E11.out ER.out (by simp) HB5.out EB.out (by omega) (by omega)⟩⟩
 case rest =>
  obtain ⟨g, vv, rfl, HC⟩ := hcut
  have m := HC.out
  obtain ⟨A5, c5, rfl⟩ := Kd.R_slice m.row
  clear c00 c01 f00 f01 c10 c11 f10 f11 c20 c21 c22 c23 f20 f21 f22 f23 c60 c61 c62 c63 f60 f61 f62 f63 y6 y0 y1 y2 n6 n0 n1 n2 m6 m0 m1 m2 z0 z1 z2 HB HB5 B0 B1 B2 B0' B1' B2' B6'
  obtain ⟨⟨c00, c01⟩, f00, f01⟩ := cells2 m.b0
  obtain ⟨⟨c10, c11⟩, f10, f11⟩ := cells2 m.b1
  obtain ⟨⟨c20, c21, c22, c23⟩, f20, f21, f22, f23⟩ := cells4 m.b2
  obtain ⟨⟨c60, c61, c62, c63⟩, f60, f61, f62, f63⟩ := cells4 m.b6
  obtain ⟨⟨cg0, cg1⟩, fg0, fg1⟩ := cells2 m.bg
  have hx0 : wc.cell? (a.add bs.length) = some (.int .u64 x0) := row_at0 (Kd.C_below HR.out m.bel)
  have hx1 : wc.cell? ⟨(a.add bs.length).block, (a.add bs.length).off + 1, none⟩ = some (.int .u64 x1) := row_at1f (Kd.C_below HR.out m.bel)
  have LB := m.bel.size
  have L6 := m.n6
  have LG := m.ng
  clear m
  have hfl : ∀ (W : World), (Instr.field 91 (.agg #[.func (Fn.func 63) #[] #[]]) 0).run Try.prog W = .ok (.func (Fn.func 63) #[] #[]) W := fun W => by kernel_rfl
  have RX := Aside0.mk (show 0 ≤ x0 ∧ x0 < 18446744073709551616 ∧ 0 ≤ x1 ∧ x1 < 18446744073709551616 from ⟨hx0', hx0'', hx1', hx1''⟩)
  clear hx0' hx0'' hx1' hx1''
  go_wp2_with fail
  have hok : binOk 16 x1 = true := rfl
  go_region_held3 (fun w' => w'.cell? ⟨w4.heap.size, 0, none⟩ = some (.int .i64 16) ∧ w'.cell? (a.add bs.length) = some (.int .u64 x0) ∧ w'.cell? ⟨(a.add bs.length).block, (a.add bs.length).off + 1, none⟩ = some (.int .u64 x1))
   (first | go_keep | ((try dsimp only); (repeat' apply And.intro); all_goals go_keep))
   (first | ((go_at_call 52; go_must (refine (show Calls Try.prog 52 #[.int .i64 16] _ (fun e w' => e = .returned (.agg #[.func (Fn.func 63) #[] #[]]) ∧ Below _ _ w') from find_any 16 (by omega) (by omega) _).mono ?_; rintro e w8 ⟨rfl, hb⟩; have hB8 : Below wc.heap.size wc w8 := (by refine below_step ?_ hb; repeat (first | (with_reducible exact Below.refl _ _) | (with_reducible apply below_alloc) | (with_reducible apply below_drew))); have k6 := cells4 (blk_below HC.out.b6 hB8); have k60 := k6.1.1; have kx0 : w8.cell? (a.add bs.length) = some (.int .u64 x0) := row_at0 (Kd.C_below HR.out (below_step HC.out.bel hB8)); have kx1 : w8.cell? ⟨(a.add bs.length).block, (a.add bs.length).off + 1, none⟩ = some (.int .u64 x1) := row_at1f (Kd.C_below HR.out (below_step HC.out.bel hB8)); have EB8 := Aside0.mk hB8; clear k6 hb hB8))) | ((go_at_call 63; go_must (refine (show Calls Try.prog 63 #[.int .u64 x0, .int .u64 x1] _ (fun e w' => e = .returned (.tuple #[.int .u64 (binY 16 x0 x1), .bool (binOk 16 x1)]) ∧ Below _ _ w') from bin_any 16 (by omega) (by omega) x0 x1 RX.out.1 RX.out.2.1 RX.out.2.2.1 RX.out.2.2.2 _).mono ?_; rintro e w9 ⟨rfl, hb⟩; have hB9 : Below wc.heap.size wc w9 := (by refine below_step ?_ hb; repeat (first | (with_reducible exact EB8.out) | (with_reducible apply below_alloc) | (with_reducible apply below_drew))); have k6 := cells4 (blk_below HC.out.b6 hB9); have j60 := k6.1.1; have jx0 : w9.cell? (a.add bs.length) = some (.int .u64 x0) := row_at0 (Kd.C_below HR.out (below_step HC.out.bel hB9)); have jx1 : w9.cell? ⟨(a.add bs.length).block, (a.add bs.length).off + 1, none⟩ = some (.int .u64 x1) := row_at1f (Kd.C_below HR.out (below_step HC.out.bel hB9)); clear c00 c01 f00 f01 c10 c11 f10 f11 c20 c21 c22 c23 f20 f21 f22 f23 c60 c61 c62 c63 f60 f61 f62 f63 cg0 cg1 fg0 fg1; obtain ⟨⟨c00, c01⟩, f00, f01⟩ := cells2 (blk_below HC.out.b0 hB9); obtain ⟨⟨c10, c11⟩, f10, f11⟩ := cells2 (blk_below HC.out.b1 hB9); obtain ⟨⟨c20, c21, c22, c23⟩, f20, f21, f22, f23⟩ := cells4 (blk_below HC.out.b2 hB9); obtain ⟨⟨c60, c61, c62, c63⟩, f60, f61, f62, f63⟩ := cells4 (blk_below HC.out.b6 hB9); obtain ⟨⟨cg0, cg1⟩, fg0, fg1⟩ := cells2 (blk_below HC.out.bg hB9); have EB9 := Aside0.mk hB9; clear k6 hb hB9))))
  go_wp2_with (first | (go_at_call 50; go_must (refine (push_mid HC.out _ (by repeat (first | (with_reducible exact EB9.out) | (with_reducible apply below_alloc) | (with_reducible apply below_drew) | (with_reducible refine pw_below_drewN ?_ _))) [binY 16 x0 x1] _ _ (lit_row [binY 16 x0 x1] (by simp) (by repeat (first | (with_reducible exact blk_new _ _) | (with_reducible refine blk_drew ?_) | (with_reducible refine blk_drewN ?_ _) | exact blk_new _ _))) (by simp; omega)).mono ?_; rintro e w7 ⟨rfl, v7, hm⟩; obtain ⟨A7, c7, rfl⟩ := Kd.R_slice hm.row; clear c00 c01 f00 f01 c10 c11 f10 f11 c20 c21 c22 c23 f20 f21 f22 f23 c60 c61 c62 c63 f60 f61 f62 f63 cg0 cg1 fg0 fg1; obtain ⟨⟨c10, c11⟩, f10, f11⟩ := cells2 hm.b1; obtain ⟨⟨c20, c21, c22, c23⟩, f20, f21, f22, f23⟩ := cells4 hm.b2; obtain ⟨⟨cg0, cg1⟩, fg0, fg1⟩ := cells2 hm.bg; have HM7 := Aside0.mk hm; clear hm)))
  refine bodyPost_ret (v := .tuple #[.agg #[.int .i64 (wrap64 (t3 + t4)), .slice A7 (bs ++ [binY 16 x0 x1]).length c7], .agg #[.int .i64 0, .int .u64 0, .int .u64 0, .int .i64 0]]) (by simp [results, Try.results45, go_sem, c10, c11, c20, c21, c22, c23, i64_w, List.length_append]) rfl ⟨_, rfl, end_row HM7.out.row HM7.out.b1 HM7.out.b2 _ _ _ _ _ _, end_below HM7.out.bel _ _ _ _ _ _⟩
end Go.Proofs.Ytjbpljcfogekhaa.Q
namespace Go.Proofs.Ytjbpljcfogekhaa.Q
open Go.RowKit YtjbpljcfogekhaaW.PrintWords YtjbpljcfogekhaaW.PrintLast YtjbpljcfogekhaaW.PrintMore
set_option maxHeartbeats 4000000 in
set_option maxRecDepth 100000 in
theorem step_op17 (k : Nat) (s : ByteArray) (pc : Int) (a : Addr) (c : Nat) (bs : List Int) (x0 x1 t2 t3 t4 q : Int) (w : World) (hr : Kd.C (Kd.int .u64) w (some a) (bs.length + 2) (bs ++ [x0, x1])) (hc : bs.length + 2 ≤ c) (hl : bs.length < 1000000)
  (h : code_One.f k s pc = some (17, t2, t3, t4, 0)) (h2 : code_Moves.f k 17 t2 t3 t4 = some (2, q)) (hq0 : 0 ≤ q) (hq1 : q ≤ 10) (hfit : (bs.length : Int) + q ≤ 32)
  (hx0' : 0 ≤ x0) (hx0'' : x0 < 18446744073709551616) (hx1' : 0 ≤ x1) (hx1'' : x1 < 18446744073709551616) :
  Calls Try.prog 45 #[.string s, .agg #[.int .i64 pc, .slice (some a) (bs.length + 2) c]] w fun e w' => ∃ v1_ : Value, e = .returned (.tuple #[.agg #[.int .i64 (wrap64 (t3 + t4)), v1_], .agg #[.int .i64 0, .int .u64 0, .int .u64 0, .int .i64 0]]) ∧ Kd.R (Kd.int .u64) 34 w' w.heap.size (fun _ => True) v1_ (bs ++ [binY 17 x0 x1]) ∧ Below w.heap.size w w' := by
 have hu59 := Try.underlying59
 have hu61 := Try.underlying61
 have hu36 := Try.underlying36
 have HO := Aside0.mk h
 have HM := Aside0.mk h2
 have HR := Aside0.mk hr
 have HRb := Aside0.mk (row_front hr)
 have HL := Aside0.mk (show bs.length < 17592186044416 by omega)
 have hcb : (bs.length : Int) ≤ (c : Int) := by omega
 have hcb0 : (0 : Int) ≤ (bs.length : Int) := by omega
 clear h h2 hr
 go_enter Try.func45, Try.ntmps45
 go_wp2_with (first
  | (go_at_call 20; refine (code_One.calls k s pc 17 t2 t3 t4 0 _ HO.out).mono ?_; rintro e w4 ⟨rfl, hb⟩; obtain ⟨b0, b1, b2, hB, hz4⟩ := three_blocks hb; have z0 : w.heap.size < w4.heap.size := (by omega); have z1 : w.heap.size + 1 < w4.heap.size := (by omega); have z2 : w.heap.size + 1 + 1 < w4.heap.size := (by omega); clear hz4; obtain ⟨⟨c00, c01⟩, f00, f01⟩ := cells2 b0; obtain ⟨⟨c10, c11⟩, f10, f11⟩ := cells2 b1; obtain ⟨⟨c20, c21, c22, c23⟩, f20, f21, f22, f23⟩ := cells4 b2; have B0 := Aside0.mk b0; have B1 := Aside0.mk b1; have B2 := Aside0.mk b2; have HB := Aside0.mk hB; clear b0 b1 b2 hB hb)
  | (go_at_call 23; refine (code_Moves.calls k 17 t2 t3 t4 2 q _ HM.out).mono ?_; rintro e w5 ⟨rfl, hb⟩; have b0 := blk_below (blk_alloc B0.out _) hb; have b1 := blk_below (blk_alloc B1.out _) hb; have b2 := blk_below (blk_alloc B2.out _) hb; have b6 := blk_below (blk_new w4 _) hb; have HB5 := Aside0.mk (below_step (below_alloc HB.out _) hb); have y6 : w4.heap.size < w5.heap.size := (blk_lt b6); have y0 : w.heap.size < w5.heap.size := (blk_lt b0); have y1 : w.heap.size + 1 < w5.heap.size := (blk_lt b1); have y2 : w.heap.size + 1 + 1 < w5.heap.size := (blk_lt b2); have n6 : ¬ w4.heap.size = w5.heap.size := (Nat.ne_of_lt y6); have n0 : ¬ w.heap.size = w5.heap.size := (Nat.ne_of_lt y0); have n1 : ¬ w.heap.size + 1 = w5.heap.size := (Nat.ne_of_lt y1); have n2 : ¬ w.heap.size + 1 + 1 = w5.heap.size := (Nat.ne_of_lt y2); have m6 : ¬ w5.heap.size = w4.heap.size := (Nat.ne_of_gt y6); have m0 : ¬ w5.heap.size = w.heap.size := (Nat.ne_of_gt y0); have m1 : ¬ w5.heap.size = w.heap.size + 1 := (Nat.ne_of_gt y1); have m2 : ¬ w5.heap.size = w.heap.size + 1 + 1 := (Nat.ne_of_gt y2); clear c00 c01 f00 f01 c10 c11 f10 f11 c20 c21 c22 c23 f20 f21 f22 f23; obtain ⟨⟨c00, c01⟩, f00, f01⟩ := cells2 b0; obtain ⟨⟨c10, c11⟩, f10, f11⟩ := cells2 b1; obtain ⟨⟨c20, c21, c22, c23⟩, f20, f21, f22, f23⟩ := cells4 b2; obtain ⟨⟨c60, c61, c62, c63⟩, f60, f61, f62, f63⟩ := cells4 b6; have B0' := Aside0.mk b0; have B1' := Aside0.mk b1; have B2' := Aside0.mk b2; have B6' := Aside0.mk b6; clear b0 b1 b2 b6 hb))
 go_cut [11] (fun v11 wc => ∃ (g : Nat) (vv : Value), v11 = .pointer (some ⟨g, 0, none⟩) ∧ Aside0 (StepMid w wc w4.heap.size g pc (some a) (bs.length + 2) c 17 t2 t3 t4 (wrap64 (t3 + t4)) vv bs))
 case first =>
  go_region_held3 (fun w' => w'.cell? ⟨w4.heap.size, 2, none⟩ = some (.int .i64 t3) ∧ w'.cell? ⟨w4.heap.size, 3, none⟩ = some (.int .i64 t4) ∧ w'.cell? ⟨w.heap.size, 1, none⟩ = some (.slice (some a) (bs.length + 2) c))
   (first | go_keep | ((try dsimp only); (repeat' apply And.intro); all_goals go_keep))
   ((go_at_call 47; go_must (refine (clone_row (some a) c bs _ (Kd.C_below HRb.out (by repeat (first | (with_reducible exact HB5.out) | (with_reducible apply below_alloc) | (with_reducible apply below_drew)))) (by omega) HL.out).mono ?_; rintro e w6 ⟨vv, rfl, hR, hb⟩; obtain ⟨A5, c5, rfl⟩ := Kd.R_slice hR; have hB56 : Below w5.heap.size w5 w6 := (by refine below_step ?_ hb; repeat (first | (with_reducible exact Below.refl _ _) | (with_reducible apply below_alloc) | (with_reducible apply below_drew))); have b0 := blk_below B0'.out hB56; have b1 := blk_below B1'.out hB56; have b2 := blk_below B2'.out hB56; have b6 := blk_below B6'.out hB56; have v0 := blk_lt b0; have v1 := blk_lt b1; have v2 := blk_lt b2; have v6 := blk_lt b6; clear c00 c01 f00 f01 c10 c11 f10 f11 c20 c21 c22 c23 f20 f21 f22 f23 c60 c61 c62 c63 f60 f61 f62 f63; obtain ⟨⟨c00, c01⟩, f00, f01⟩ := cells2 b0; obtain ⟨⟨c10, c11⟩, f10, f11⟩ := cells2 b1; obtain ⟨⟨c20, c21, c22, c23⟩, f20, f21, f22, f23⟩ := cells4 b2; obtain ⟨⟨c60, c61, c62, c63⟩, f60, f61, f62, f63⟩ := cells4 b6; have E0 := Aside0.mk b0; have E1 := Aside0.mk b1; have E2 := Aside0.mk b2; have E6 := Aside0.mk b6; clear b0 b1 b2 b6; have ER := Aside0.mk hR; have EB := Aside0.mk hB56; (try (have b11 : w6.heap[w5.heap.size]? = some (.cells #[.int .i64 0, .slice none 0 0] 59 (0, 0)) := (by with_reducible exact blk_below (blk_drew (blk_new w5 _)) hb); obtain ⟨⟨d0, d1⟩, e0, e1⟩ := cells2 b11; have y11 := blk_lt b11; have E11 := Aside0.mk b11; clear b11)); clear hR)))
  all_goals go_wp2
  all_goals go_meet
  all_goals simp only [i64_w]
  case rel => exact ⟨_, _, rfl, ⟨mid_new E0.out E1.out E2.out E6.out ER.out (by simp; omega) HB5.out EB.out (by omega)⟩⟩
  case rel => exact ⟨_, _, rfl, ⟨mid_old E0.out E1.out E2.out E6.out E11.out ER.out (by simp) HB5.out EB.out (by omega) (by omega)⟩⟩
 case rest =>
  obtain ⟨g, vv, rfl, HC⟩ := hcut
  have m := HC.out
  obtain ⟨A5, c5, rfl⟩ := Kd.R_slice m.row
  clear c00 c01 f00 f01 c10 c11 f10 f11 c20 c21 c22 c23 f20 f21 f22 f23 c60 c61 c62 c63 f60 f61 f62 f63 y6 y0 y1 y2 n6 n0 n1 n2 m6 m0 m1 m2 z0 z1 z2 HB HB5 B0 B1 B2 B0' B1' B2' B6'
  obtain ⟨⟨c00, c01⟩, f00, f01⟩ := cells2 m.b0
  obtain ⟨⟨c10, c11⟩, f10, f11⟩ := cells2 m.b1
  obtain ⟨⟨c20, c21, c22, c23⟩, f20, f21, f22, f23⟩ := cells4 m.b2
  obtain ⟨⟨c60, c61, c62, c63⟩, f60, f61, f62, f63⟩ := cells4 m.b6
  obtain ⟨⟨cg0, cg1⟩, fg0, fg1⟩ := cells2 m.bg
  have hx0 : wc.cell? (a.add bs.length) = some (.int .u64 x0) := row_at0 (Kd.C_below HR.out m.bel)
  have hx1 : wc.cell? ⟨(a.add bs.length).block, (a.add bs.length).off + 1, none⟩ = some (.int .u64 x1) := row_at1f (Kd.C_below HR.out m.bel)
  have LB := m.bel.size
  have L6 := m.n6
  have LG := m.ng
  clear m
  have hfl : ∀ (W : World), (Instr.field 91 (.agg #[.func (Fn.func 64) #[] #[]]) 0).run Try.prog W = .ok (.func (Fn.func 64) #[] #[]) W := fun W => by kernel_rfl
  have RX := Aside0.mk (show 0 ≤ x0 ∧ x0 < 18446744073709551616 ∧ 0 ≤ x1 ∧ x1 < 18446744073709551616 from ⟨hx0', hx0'', hx1', hx1''⟩)
  clear hx0' hx0'' hx1' hx1''
  go_wp2_with fail
  have hok : binOk 17 x1 = true := rfl
  go_region_held3 (fun w' => w'.cell? ⟨w4.heap.size, 0, none⟩ = some (.int .i64 17) ∧ w'.cell? (a.add bs.length) = some (.int .u64 x0) ∧ w'.cell? ⟨(a.add bs.length).block, (a.add bs.length).off + 1, none⟩ = some (.int .u64 x1))
   (first | go_keep | ((try dsimp only); (repeat' apply And.intro); all_goals go_keep))
   (first | ((go_at_call 52; go_must (refine (show Calls Try.prog 52 #[.int .i64 17] _ (fun e w' => e = .returned (.agg #[.func (Fn.func 64) #[] #[]]) ∧ Below _ _ w') from find_any 17 (by omega) (by omega) _).mono ?_; rintro e w8 ⟨rfl, hb⟩; have hB8 : Below wc.heap.size wc w8 := (by refine below_step ?_ hb; repeat (first | (with_reducible exact Below.refl _ _) | (with_reducible apply below_alloc) | (with_reducible apply below_drew))); have k6 := cells4 (blk_below HC.out.b6 hB8); have k60 := k6.1.1; have kx0 : w8.cell? (a.add bs.length) = some (.int .u64 x0) := row_at0 (Kd.C_below HR.out (below_step HC.out.bel hB8)); have kx1 : w8.cell? ⟨(a.add bs.length).block, (a.add bs.length).off + 1, none⟩ = some (.int .u64 x1) := row_at1f (Kd.C_below HR.out (below_step HC.out.bel hB8)); have EB8 := Aside0.mk hB8; clear k6 hb hB8))) | ((go_at_call 64; go_must (refine (show Calls Try.prog 64 #[.int .u64 x0, .int .u64 x1] _ (fun e w' => e = .returned (.tuple #[.int .u64 (binY 17 x0 x1), .bool (binOk 17 x1)]) ∧ Below _ _ w') from bin_any 17 (by omega) (by omega) x0 x1 RX.out.1 RX.out.2.1 RX.out.2.2.1 RX.out.2.2.2 _).mono ?_; rintro e w9 ⟨rfl, hb⟩; have hB9 : Below wc.heap.size wc w9 := (by refine below_step ?_ hb; repeat (first | (with_reducible exact EB8.out) | (with_reducible apply below_alloc) | (with_reducible apply below_drew))); have k6 := cells4 (blk_below HC.out.b6 hB9); have j60 := k6.1.1; have jx0 : w9.cell? (a.add bs.length) = some (.int .u64 x0) := row_at0 (Kd.C_below HR.out (below_step HC.out.bel hB9)); have jx1 : w9.cell? ⟨(a.add bs.length).block, (a.add bs.length).off + 1, none⟩ = some (.int .u64 x1) := row_at1f (Kd.C_below HR.out (below_step HC.out.bel hB9)); clear c00 c01 f00 f01 c10 c11 f10 f11 c20 c21 c22 c23 f20 f21 f22 f23 c60 c61 c62 c63 f60 f61 f62 f63 cg0 cg1 fg0 fg1; obtain ⟨⟨c00, c01⟩, f00, f01⟩ := cells2 (blk_below HC.out.b0 hB9); obtain ⟨⟨c10, c11⟩, f10, f11⟩ := cells2 (blk_below HC.out.b1 hB9); obtain ⟨⟨c20, c21, c22, c23⟩, f20, f21, f22, f23⟩ := cells4 (blk_below HC.out.b2 hB9); obtain ⟨⟨c60, c61, c62, c63⟩, f60, f61, f62, f63⟩ := cells4 (blk_below HC.out.b6 hB9); obtain ⟨⟨cg0, cg1⟩, fg0, fg1⟩ := cells2 (blk_below HC.out.bg hB9); have EB9 := Aside0.mk hB9; clear k6 hb hB9))))
  go_wp2_with (first | (go_at_call 50; go_must (refine (push_mid HC.out _ (by repeat (first | (with_reducible exact EB9.out) | (with_reducible apply below_alloc) | (with_reducible apply below_drew) | (with_reducible refine pw_below_drewN ?_ _))) [binY 17 x0 x1] _ _ (lit_row [binY 17 x0 x1] (by simp) (by repeat (first | (with_reducible exact blk_new _ _) | (with_reducible refine blk_drew ?_) | (with_reducible refine blk_drewN ?_ _) | exact blk_new _ _))) (by simp; omega)).mono ?_; rintro e w7 ⟨rfl, v7, hm⟩; obtain ⟨A7, c7, rfl⟩ := Kd.R_slice hm.row; clear c00 c01 f00 f01 c10 c11 f10 f11 c20 c21 c22 c23 f20 f21 f22 f23 c60 c61 c62 c63 f60 f61 f62 f63 cg0 cg1 fg0 fg1; obtain ⟨⟨c10, c11⟩, f10, f11⟩ := cells2 hm.b1; obtain ⟨⟨c20, c21, c22, c23⟩, f20, f21, f22, f23⟩ := cells4 hm.b2; obtain ⟨⟨cg0, cg1⟩, fg0, fg1⟩ := cells2 hm.bg; have HM7 := Aside0.mk hm; clear hm)))
  refine bodyPost_ret (v := .tuple #[.agg #[.int .i64 (wrap64 (t3 + t4)), .slice A7 (bs ++ [binY 17 x0 x1]).length c7], .agg #[.int .i64 0, .int .u64 0, .int .u64 0, .int .i64 0]]) (by simp [results, Try.results45, go_sem, c10, c11, c20, c21, c22, c23, i64_w, List.length_append]) rfl ⟨_, rfl, end_row HM7.out.row HM7.out.b1 HM7.out.b2 _ _ _ _ _ _, end_below HM7.out.bel _ _ _ _ _ _⟩
end Go.Proofs.Ytjbpljcfogekhaa.Q
namespace Go.Proofs.Ytjbpljcfogekhaa.Q
open Go.RowKit YtjbpljcfogekhaaW.PrintWords YtjbpljcfogekhaaW.PrintLast YtjbpljcfogekhaaW.PrintMore
set_option maxHeartbeats 4000000 in
set_option maxRecDepth 100000 in
theorem step_div9 (k : Nat) (s : ByteArray) (pc : Int) (a : Addr) (c : Nat) (bs : List Int) (x0 x1 t2 t3 t4 q : Int) (w : World) (hr : Kd.C (Kd.int .u64) w (some a) (bs.length + 2) (bs ++ [x0, x1])) (hc : bs.length + 2 ≤ c) (hl : bs.length < 1000000)
  (h : code_One.f k s pc = some (9, t2, t3, t4, 0)) (h2 : code_Moves.f k 9 t2 t3 t4 = some (2, q)) (hq0 : 0 ≤ q) (hq1 : q ≤ 10) (hfit : (bs.length : Int) + q ≤ 32)
  (hx0' : 0 ≤ x0) (hx0'' : x0 < 18446744073709551616) (hx1' : 0 ≤ x1) (hx1'' : x1 < 18446744073709551616)
  (hz : ¬ 0 < x1) :
  Calls Try.prog 45 #[.string s, .agg #[.int .i64 pc, .slice (some a) (bs.length + 2) c]] w fun e w' => ∃ v1_ : Value, e = .returned (.tuple #[.agg #[.int .i64 (pc), v1_], .agg #[.int .i64 4, .int .u64 0, .int .u64 0, .int .i64 0]]) ∧ Kd.R (Kd.int .u64) 34 w' w.heap.size (fun _ => True) v1_ (bs ++ [x0, x1]) ∧ Below w.heap.size w w' := by
 have hu59 := Try.underlying59
 have hu61 := Try.underlying61
 have hu36 := Try.underlying36
 have HO := Aside0.mk h
 have HM := Aside0.mk h2
 have HR := Aside0.mk hr
 have HRb := Aside0.mk (row_front hr)
 have HL := Aside0.mk (show bs.length < 17592186044416 by omega)
 have hcb : (bs.length : Int) ≤ (c : Int) := by omega
 have hcb0 : (0 : Int) ≤ (bs.length : Int) := by omega
 clear h h2 hr
 go_enter Try.func45, Try.ntmps45
 go_wp2_with (first
  | (go_at_call 20; refine (code_One.calls k s pc 9 t2 t3 t4 0 _ HO.out).mono ?_; rintro e w4 ⟨rfl, hb⟩; obtain ⟨b0, b1, b2, hB, hz4⟩ := three_blocks hb; have z0 : w.heap.size < w4.heap.size := (by omega); have z1 : w.heap.size + 1 < w4.heap.size := (by omega); have z2 : w.heap.size + 1 + 1 < w4.heap.size := (by omega); clear hz4; obtain ⟨⟨c00, c01⟩, f00, f01⟩ := cells2 b0; obtain ⟨⟨c10, c11⟩, f10, f11⟩ := cells2 b1; obtain ⟨⟨c20, c21, c22, c23⟩, f20, f21, f22, f23⟩ := cells4 b2; have B0 := Aside0.mk b0; have B1 := Aside0.mk b1; have B2 := Aside0.mk b2; have HB := Aside0.mk hB; clear b0 b1 b2 hB hb)
  | (go_at_call 23; refine (code_Moves.calls k 9 t2 t3 t4 2 q _ HM.out).mono ?_; rintro e w5 ⟨rfl, hb⟩; have b0 := blk_below (blk_alloc B0.out _) hb; have b1 := blk_below (blk_alloc B1.out _) hb; have b2 := blk_below (blk_alloc B2.out _) hb; have b6 := blk_below (blk_new w4 _) hb; have HB5 := Aside0.mk (below_step (below_alloc HB.out _) hb); have y6 : w4.heap.size < w5.heap.size := (blk_lt b6); have y0 : w.heap.size < w5.heap.size := (blk_lt b0); have y1 : w.heap.size + 1 < w5.heap.size := (blk_lt b1); have y2 : w.heap.size + 1 + 1 < w5.heap.size := (blk_lt b2); have n6 : ¬ w4.heap.size = w5.heap.size := (Nat.ne_of_lt y6); have n0 : ¬ w.heap.size = w5.heap.size := (Nat.ne_of_lt y0); have n1 : ¬ w.heap.size + 1 = w5.heap.size := (Nat.ne_of_lt y1); have n2 : ¬ w.heap.size + 1 + 1 = w5.heap.size := (Nat.ne_of_lt y2); have m6 : ¬ w5.heap.size = w4.heap.size := (Nat.ne_of_gt y6); have m0 : ¬ w5.heap.size = w.heap.size := (Nat.ne_of_gt y0); have m1 : ¬ w5.heap.size = w.heap.size + 1 := (Nat.ne_of_gt y1); have m2 : ¬ w5.heap.size = w.heap.size + 1 + 1 := (Nat.ne_of_gt y2); clear c00 c01 f00 f01 c10 c11 f10 f11 c20 c21 c22 c23 f20 f21 f22 f23; obtain ⟨⟨c00, c01⟩, f00, f01⟩ := cells2 b0; obtain ⟨⟨c10, c11⟩, f10, f11⟩ := cells2 b1; obtain ⟨⟨c20, c21, c22, c23⟩, f20, f21, f22, f23⟩ := cells4 b2; obtain ⟨⟨c60, c61, c62, c63⟩, f60, f61, f62, f63⟩ := cells4 b6; have B0' := Aside0.mk b0; have B1' := Aside0.mk b1; have B2' := Aside0.mk b2; have B6' := Aside0.mk b6; clear b0 b1 b2 b6 hb))
 go_cut [11] (fun v11 wc => ∃ (g : Nat) (vv : Value), v11 = .pointer (some ⟨g, 0, none⟩) ∧ Aside0 (StepMid w wc w4.heap.size g pc (some a) (bs.length + 2) c 9 t2 t3 t4 (wrap64 (t3 + t4)) vv bs))
 case first =>
  go_region_held3 (fun w' => w'.cell? ⟨w4.heap.size, 2, none⟩ = some (.int .i64 t3) ∧ w'.cell? ⟨w4.heap.size, 3, none⟩ = some (.int .i64 t4) ∧ w'.cell? ⟨w.heap.size, 1, none⟩ = some (.slice (some a) (bs.length + 2) c))
   (first | go_keep | ((try dsimp only); (repeat' apply And.intro); all_goals go_keep))
   ((go_at_call 47; go_must (refine (clone_row (some a) c bs _ (Kd.C_below HRb.out (by repeat (first | (with_reducible exact HB5.out) | (with_reducible apply below_alloc) | (with_reducible apply below_drew)))) (by omega) HL.out).mono ?_; rintro e w6 ⟨vv, rfl, hR, hb⟩; obtain ⟨A5, c5, rfl⟩ := Kd.R_slice hR; have hB56 : Below w5.heap.size w5 w6 := (by refine below_step ?_ hb; repeat (first | (with_reducible exact Below.refl _ _) | (with_reducible apply below_alloc) | (with_reducible apply below_drew))); have b0 := blk_below B0'.out hB56; have b1 := blk_below B1'.out hB56; have b2 := blk_below B2'.out hB56; have b6 := blk_below B6'.out hB56; have v0 := blk_lt b0; have v1 := blk_lt b1; have v2 := blk_lt b2; have v6 := blk_lt b6; clear c00 c01 f00 f01 c10 c11 f10 f11 c20 c21 c22 c23 f20 f21 f22 f23 c60 c61 c62 c63 f60 f61 f62 f63; obtain ⟨⟨c00, c01⟩, f00, f01⟩ := cells2 b0; obtain ⟨⟨c10, c11⟩, f10, f11⟩ := cells2 b1; obtain ⟨⟨c20, c21, c22, c23⟩, f20, f21, f22, f23⟩ := cells4 b2; obtain ⟨⟨c60, c61, c62, c63⟩, f60, f61, f62, f63⟩ := cells4 b6; have E0 := Aside0.mk b0; have E1 := Aside0.mk b1; have E2 := Aside0.mk b2; have E6 := Aside0.mk b6; clear b0 b1 b2 b6; have ER := Aside0.mk hR; have EB := Aside0.mk hB56; (try (have b11 : w6.heap[w5.heap.size]? = some (.cells #[.int .i64 0, .slice none 0 0] 59 (0, 0)) := (by with_reducible exact blk_below (blk_drew (blk_new w5 _)) hb); obtain ⟨⟨d0, d1⟩, e0, e1⟩ := cells2 b11; have y11 := blk_lt b11; have E11 := Aside0.mk b11; clear b11)); clear hR)))
  all_goals go_wp2
  all_goals go_meet
  all_goals simp only [i64_w]
  case rel => exact ⟨_, _, rfl, ⟨mid_new E0.out E1.out E2.out E6.out ER.out (by simp; omega) HB5.out EB.out (by omega)⟩⟩
  case rel => exact ⟨_, _, rfl, ⟨mid_old E0.out E1.out E2.out E6.out E11.out ER.out (by simp) HB5.out EB.out (by omega) (by omega)⟩⟩
 case rest =>
  obtain ⟨g, vv, rfl, HC⟩ := hcut
  have m := HC.out
  obtain ⟨A5, c5, rfl⟩ := Kd.R_slice m.row
  clear c00 c01 f00 f01 c10 c11 f10 f11 c20 c21 c22 c23 f20 f21 f22 f23 c60 c61 c62 c63 f60 f61 f62 f63 y6 y0 y1 y2 n6 n0 n1 n2 m6 m0 m1 m2 z0 z1 z2 HB HB5 B0 B1 B2 B0' B1' B2' B6'
  obtain ⟨⟨c00, c01⟩, f00, f01⟩ := cells2 m.b0
  obtain ⟨⟨c10, c11⟩, f10, f11⟩ := cells2 m.b1
  obtain ⟨⟨c20, c21, c22, c23⟩, f20, f21, f22, f23⟩ := cells4 m.b2
  obtain ⟨⟨c60, c61, c62, c63⟩, f60, f61, f62, f63⟩ := cells4 m.b6
  obtain ⟨⟨cg0, cg1⟩, fg0, fg1⟩ := cells2 m.bg
  have hx0 : wc.cell? (a.add bs.length) = some (.int .u64 x0) := row_at0 (Kd.C_below HR.out m.bel)
  have hx1 : wc.cell? ⟨(a.add bs.length).block, (a.add bs.length).off + 1, none⟩ = some (.int .u64 x1) := row_at1f (Kd.C_below HR.out m.bel)
  have LB := m.bel.size
  have L6 := m.n6
  have LG := m.ng
  clear m
  have hfl : ∀ (W : World), (Instr.field 91 (.agg #[.func (Fn.func 56) #[] #[]]) 0).run Try.prog W = .ok (.func (Fn.func 56) #[] #[]) W := fun W => by kernel_rfl
  have RX := Aside0.mk (show 0 ≤ x0 ∧ x0 < 18446744073709551616 ∧ 0 ≤ x1 ∧ x1 < 18446744073709551616 from ⟨hx0', hx0'', hx1', hx1''⟩)
  clear hx0' hx0'' hx1' hx1''
  go_wp2_with fail
  have hok : binOk 9 x1 = false := decide_eq_false (by omega)
  clear hz
  go_region_held3 (fun w' => w'.cell? ⟨w4.heap.size, 0, none⟩ = some (.int .i64 9) ∧ w'.cell? (a.add bs.length) = some (.int .u64 x0) ∧ w'.cell? ⟨(a.add bs.length).block, (a.add bs.length).off + 1, none⟩ = some (.int .u64 x1))
   (first | go_keep | ((try dsimp only); (repeat' apply And.intro); all_goals go_keep))
   (first | ((go_at_call 52; go_must (refine (show Calls Try.prog 52 #[.int .i64 9] _ (fun e w' => e = .returned (.agg #[.func (Fn.func 56) #[] #[]]) ∧ Below _ _ w') from find_any 9 (by omega) (by omega) _).mono ?_; rintro e w8 ⟨rfl, hb⟩; have hB8 : Below wc.heap.size wc w8 := (by refine below_step ?_ hb; repeat (first | (with_reducible exact Below.refl _ _) | (with_reducible apply below_alloc) | (with_reducible apply below_drew))); have k6 := cells4 (blk_below HC.out.b6 hB8); have k60 := k6.1.1; have kx0 : w8.cell? (a.add bs.length) = some (.int .u64 x0) := row_at0 (Kd.C_below HR.out (below_step HC.out.bel hB8)); have kx1 : w8.cell? ⟨(a.add bs.length).block, (a.add bs.length).off + 1, none⟩ = some (.int .u64 x1) := row_at1f (Kd.C_below HR.out (below_step HC.out.bel hB8)); have EB8 := Aside0.mk hB8; clear k6 hb hB8))) | ((go_at_call 56; go_must (refine (show Calls Try.prog 56 #[.int .u64 x0, .int .u64 x1] _ (fun e w' => e = .returned (.tuple #[.int .u64 (binY 9 x0 x1), .bool (binOk 9 x1)]) ∧ Below _ _ w') from bin_any 9 (by omega) (by omega) x0 x1 RX.out.1 RX.out.2.1 RX.out.2.2.1 RX.out.2.2.2 _).mono ?_; rintro e w9 ⟨rfl, hb⟩; have hB9 : Below wc.heap.size wc w9 := (by refine below_step ?_ hb; repeat (first | (with_reducible exact EB8.out) | (with_reducible apply below_alloc) | (with_reducible apply below_drew))); have k6 := cells4 (blk_below HC.out.b6 hB9); have j60 := k6.1.1; have jx0 : w9.cell? (a.add bs.length) = some (.int .u64 x0) := row_at0 (Kd.C_below HR.out (below_step HC.out.bel hB9)); have jx1 : w9.cell? ⟨(a.add bs.length).block, (a.add bs.length).off + 1, none⟩ = some (.int .u64 x1) := row_at1f (Kd.C_below HR.out (below_step HC.out.bel hB9)); clear c00 c01 f00 f01 c10 c11 f10 f11 c20 c21 c22 c23 f20 f21 f22 f23 c60 c61 c62 c63 f60 f61 f62 f63 cg0 cg1 fg0 fg1; obtain ⟨⟨c00, c01⟩, f00, f01⟩ := cells2 (blk_below HC.out.b0 hB9); obtain ⟨⟨c10, c11⟩, f10, f11⟩ := cells2 (blk_below HC.out.b1 hB9); obtain ⟨⟨c20, c21, c22, c23⟩, f20, f21, f22, f23⟩ := cells4 (blk_below HC.out.b2 hB9); obtain ⟨⟨c60, c61, c62, c63⟩, f60, f61, f62, f63⟩ := cells4 (blk_below HC.out.b6 hB9); obtain ⟨⟨cg0, cg1⟩, fg0, fg1⟩ := cells2 (blk_below HC.out.bg hB9); have EB9 := Aside0.mk hB9; clear k6 hb hB9))))
  go_wp2_with (first | (go_at_call 46; go_must (refine (own_n (bs.length + 2) (bs ++ [x0, x1]) (by simp) pc (some a) c _ (Kd.C_below HR.out (below_step HC.out.bel (by repeat (first | (with_reducible exact EB9.out) | (with_reducible apply below_alloc) | (with_reducible apply below_drew) | (with_reducible refine pw_below_drewN ?_ _))))) hc (by omega)).mono ?_; rintro e w7 ⟨v7, rfl, hR7, hb⟩; have hB7 : Below wc.heap.size wc w7 := (by refine below_step ?_ hb; repeat (first | (with_reducible exact EB9.out) | (with_reducible apply below_alloc) | (with_reducible apply below_drew) | (with_reducible refine pw_below_drewN ?_ _))); obtain ⟨A7, c7, rfl⟩ := Kd.R_slice hR7; have sz7 : w.heap.size ≤ _ := Nat.le_trans (below_step HC.out.bel (by repeat (first | (with_reducible exact EB9.out) | (with_reducible apply below_drew) | (with_reducible refine pw_below_drewN ?_ _)))).size (Nat.le_refl _); have E7 := Aside0.mk (Kd.R_lower hR7 sz7); clear c00 c01 f00 f01 c10 c11 f10 f11 c20 c21 c22 c23 f20 f21 f22 f23 c60 c61 c62 c63 f60 f61 f62 f63 cg0 cg1 fg0 fg1; have y1 := blk_below HC.out.b1 hB7; have y2 := blk_below HC.out.b2 hB7; obtain ⟨⟨c10, c11⟩, f10, f11⟩ := cells2 y1; obtain ⟨⟨c20, c21, c22, c23⟩, f20, f21, f22, f23⟩ := cells4 y2; have Y1 := Aside0.mk y1; have Y2 := Aside0.mk y2; have EB7 := Aside0.mk (below_step HC.out.bel hB7); clear y1 y2 hB7 hb hR7 sz7)))
  refine bodyPost_ret (v := .tuple #[.agg #[.int .i64 (pc), .slice A7 (bs ++ [x0, x1]).length c7], .agg #[.int .i64 4, .int .u64 0, .int .u64 0, .int .i64 0]]) (by simp [results, Try.results45, go_sem, c10, c11, c20, c21, c22, c23, i64_w, List.length_append]) rfl ⟨_, rfl, end_row E7.out Y1.out Y2.out _ _ _ _ _ _, end_below EB7.out _ _ _ _ _ _⟩
end Go.Proofs.Ytjbpljcfogekhaa.Q
namespace Go.Proofs.Ytjbpljcfogekhaa.Q
open Go.RowKit YtjbpljcfogekhaaW.PrintWords YtjbpljcfogekhaaW.PrintLast YtjbpljcfogekhaaW.PrintMore
set_option maxHeartbeats 4000000 in
set_option maxRecDepth 100000 in
theorem step_div10 (k : Nat) (s : ByteArray) (pc : Int) (a : Addr) (c : Nat) (bs : List Int) (x0 x1 t2 t3 t4 q : Int) (w : World) (hr : Kd.C (Kd.int .u64) w (some a) (bs.length + 2) (bs ++ [x0, x1])) (hc : bs.length + 2 ≤ c) (hl : bs.length < 1000000)
  (h : code_One.f k s pc = some (10, t2, t3, t4, 0)) (h2 : code_Moves.f k 10 t2 t3 t4 = some (2, q)) (hq0 : 0 ≤ q) (hq1 : q ≤ 10) (hfit : (bs.length : Int) + q ≤ 32)
  (hx0' : 0 ≤ x0) (hx0'' : x0 < 18446744073709551616) (hx1' : 0 ≤ x1) (hx1'' : x1 < 18446744073709551616)
  (hz : ¬ 0 < x1) :
  Calls Try.prog 45 #[.string s, .agg #[.int .i64 pc, .slice (some a) (bs.length + 2) c]] w fun e w' => ∃ v1_ : Value, e = .returned (.tuple #[.agg #[.int .i64 (pc), v1_], .agg #[.int .i64 4, .int .u64 0, .int .u64 0, .int .i64 0]]) ∧ Kd.R (Kd.int .u64) 34 w' w.heap.size (fun _ => True) v1_ (bs ++ [x0, x1]) ∧ Below w.heap.size w w' := by
 have hu59 := Try.underlying59
 have hu61 := Try.underlying61
 have hu36 := Try.underlying36
 have HO := Aside0.mk h
 have HM := Aside0.mk h2
 have HR := Aside0.mk hr
 have HRb := Aside0.mk (row_front hr)
 have HL := Aside0.mk (show bs.length < 17592186044416 by omega)
 have hcb : (bs.length : Int) ≤ (c : Int) := by omega
 have hcb0 : (0 : Int) ≤ (bs.length : Int) := by omega
 clear h h2 hr
 go_enter Try.func45, Try.ntmps45
 go_wp2_with (first
  | (go_at_call 20; refine (code_One.calls k s pc 10 t2 t3 t4 0 _ HO.out).mono ?_; rintro e w4 ⟨rfl, hb⟩; obtain ⟨b0, b1, b2, hB, hz4⟩ := three_blocks hb; have z0 : w.heap.size < w4.heap.size := (by omega); have z1 : w.heap.size + 1 < w4.heap.size := (by omega); have z2 : w.heap.size + 1 + 1 < w4.heap.size := (by omega); clear hz4; obtain ⟨⟨c00, c01⟩, f00, f01⟩ := cells2 b0; obtain ⟨⟨c10, c11⟩, f10, f11⟩ := cells2 b1; obtain ⟨⟨c20, c21, c22, c23⟩, f20, f21, f22, f23⟩ := cells4 b2; have B0 := Aside0.mk b0; have B1 := Aside0.mk b1; have B2 := Aside0.mk b2; have HB := Aside0.mk hB; clear b0 b1 b2 hB hb)
  | (go_at_call 23; refine (code_Moves.calls k 10 t2 t3 t4 2 q _ HM.out).mono ?_; rintro e w5 ⟨rfl, hb⟩; have b0 := blk_below (blk_alloc B0.out _) hb; have b1 := blk_below (blk_alloc B1.out _) hb; have b2 := blk_below (blk_alloc B2.out _) hb; have b6 := blk_below (blk_new w4 _) hb; have HB5 := Aside0.mk (below_step (below_alloc HB.out _) hb); have y6 : w4.heap.size < w5.heap.size := (blk_lt b6); have y0 : w.heap.size < w5.heap.size := (blk_lt b0); have y1 : w.heap.size + 1 < w5.heap.size := (blk_lt b1); have y2 : w.heap.size + 1 + 1 < w5.heap.size := (blk_lt b2); have n6 : ¬ w4.heap.size = w5.heap.size := (Nat.ne_of_lt y6); have n0 : ¬ w.heap.size = w5.heap.size := (Nat.ne_of_lt y0); have n1 : ¬ w.heap.size + 1 = w5.heap.size := (Nat.ne_of_lt y1); have n2 : ¬ w.heap.size + 1 + 1 = w5.heap.size := (Nat.ne_of_lt y2); have m6 : ¬ w5.heap.size = w4.heap.size := (Nat.ne_of_gt y6); have m0 : ¬ w5.heap.size = w.heap.size := (Nat.ne_of_gt y0); have m1 : ¬ w5.heap.size = w.heap.size + 1 := (Nat.ne_of_gt y1); have m2 : ¬ w5.heap.size = w.heap.size + 1 + 1 := (Nat.ne_of_gt y2); clear c00 c01 f00 f01 c10 c11 f10 f11 c20 c21 c22 c23 f20 f21 f22 f23; obtain ⟨⟨c00, c01⟩, f00, f01⟩ := cells2 b0; obtain ⟨⟨c10, c11⟩, f10, f11⟩ := cells2 b1; obtain ⟨⟨c20, c21, c22, c23⟩, f20, f21, f22, f23⟩ := cells4 b2; obtain ⟨⟨c60, c61, c62, c63⟩, f60, f61, f62, f63⟩ := cells4 b6; have B0' := Aside0.mk b0; have B1' := Aside0.mk b1; have B2' := Aside0.mk b2; have B6' := Aside0.mk b6; clear b0 b1 b2 b6 hb))
 go_cut [11] (fun v11 wc => ∃ (g : Nat) (vv : Value), v11 = .pointer (some ⟨g, 0, none⟩) ∧ Aside0 (StepMid w wc w4.heap.size g pc (some a) (bs.length + 2) c 10 t2 t3 t4 (wrap64 (t3 + t4)) vv bs))
 case first =>
  go_region_held3 (fun w' => w'.cell? ⟨w4.heap.size, 2, none⟩ = some (.int .i64 t3) ∧ w'.cell? ⟨w4.heap.size, 3, none⟩ = some (.int .i64 t4) ∧ w'.cell? ⟨w.heap.size, 1, none⟩ = some (.slice (some a) (bs.length + 2) c))
   (first | go_keep | ((try dsimp only); (repeat' apply And.intro); all_goals go_keep))
   ((go_at_call 47; go_must (refine (clone_row (some a) c bs _ (Kd.C_below HRb.out (by repeat (first | (with_reducible exact HB5.out) | (with_reducible apply below_alloc) | (with_reducible apply below_drew)))) (by omega) HL.out).mono ?_; rintro e w6 ⟨vv, rfl, hR, hb⟩; obtain ⟨A5, c5, rfl⟩ := Kd.R_slice hR; have hB56 : Below w5.heap.size w5 w6 := (by refine below_step ?_ hb; repeat (first | (with_reducible exact Below.refl _ _) | (with_reducible apply below_alloc) | (with_reducible apply below_drew))); have b0 := blk_below B0'.out hB56; have b1 := blk_below B1'.out hB56; have b2 := blk_below B2'.out hB56; have b6 := blk_below B6'.out hB56; have v0 := blk_lt b0; have v1 := blk_lt b1; have v2 := blk_lt b2; have v6 := blk_lt b6; clear c00 c01 f00 f01 c10 c11 f10 f11 c20 c21 c22 c23 f20 f21 f22 f23 c60 c61 c62 c63 f60 f61 f62 f63; obtain ⟨⟨c00, c01⟩, f00, f01⟩ := cells2 b0; obtain ⟨⟨c10, c11⟩, f10, f11⟩ := cells2 b1; obtain ⟨⟨c20, c21, c22, c23⟩, f20, f21, f22, f23⟩ := cells4 b2; obtain ⟨⟨c60, c61, c62, c63⟩, f60, f61, f62, f63⟩ := cells4 b6; have E0 := Aside0.mk b0; have E1 := Aside0.mk b1; have E2 := Aside0.mk b2; have E6 := Aside0.mk b6; clear b0 b1 b2 b6; have ER := Aside0.mk hR; have EB := Aside0.mk hB56; (try (have b11 : w6.heap[w5.heap.size]? = some (.cells #[.int .i64 0, .slice none 0 0] 59 (0, 0)) := (by with_reducible exact blk_below (blk_drew (blk_new w5 _)) hb); obtain ⟨⟨d0, d1⟩, e0, e1⟩ := cells2 b11; have y11 := blk_lt b11; have E11 := Aside0.mk b11; clear b11)); clear hR)))
  all_goals go_wp2
  all_goals go_meet
  all_goals simp only [i64_w]
  case rel => exact ⟨_, _, rfl, ⟨mid_new E0.out E1.out E2.out E6.out ER.out (by simp; omega) HB5.out EB.out (by omega)⟩⟩
  case rel => exact ⟨_, _, rfl, ⟨mid_old E0.out E1.out E2.out E6.out E11.out ER.out (by simp) HB5.out EB.out (by omega) (by omega)⟩⟩
 case rest =>
  obtain ⟨g, vv, rfl, HC⟩ := hcut
  have m := HC.out
  obtain ⟨A5, c5, rfl⟩ := Kd.R_slice m.row
  clear c00 c01 f00 f01 c10 c11 f10 f11 c20 c21 c22 c23 f20 f21 f22 f23 c60 c61 c62 c63 f60 f61 f62 f63 y6 y0 y1 y2 n6 n0 n1 n2 m6 m0 m1 m2 z0 z1 z2 HB HB5 B0 B1 B2 B0' B1' B2' B6'
  obtain ⟨⟨c00, c01⟩, f00, f01⟩ := cells2 m.b0
  obtain ⟨⟨c10, c11⟩, f10, f11⟩ := cells2 m.b1
  obtain ⟨⟨c20, c21, c22, c23⟩, f20, f21, f22, f23⟩ := cells4 m.b2
  obtain ⟨⟨c60, c61, c62, c63⟩, f60, f61, f62, f63⟩ := cells4 m.b6
  obtain ⟨⟨cg0, cg1⟩, fg0, fg1⟩ := cells2 m.bg
  have hx0 : wc.cell? (a.add bs.length) = some (.int .u64 x0) := row_at0 (Kd.C_below HR.out m.bel)
  have hx1 : wc.cell? ⟨(a.add bs.length).block, (a.add bs.length).off + 1, none⟩ = some (.int .u64 x1) := row_at1f (Kd.C_below HR.out m.bel)
  have LB := m.bel.size
  have L6 := m.n6
  have LG := m.ng
  clear m
  have hfl : ∀ (W : World), (Instr.field 91 (.agg #[.func (Fn.func 57) #[] #[]]) 0).run Try.prog W = .ok (.func (Fn.func 57) #[] #[]) W := fun W => by kernel_rfl
  have RX := Aside0.mk (show 0 ≤ x0 ∧ x0 < 18446744073709551616 ∧ 0 ≤ x1 ∧ x1 < 18446744073709551616 from ⟨hx0', hx0'', hx1', hx1''⟩)
  clear hx0' hx0'' hx1' hx1''
  go_wp2_with fail
  have hok : binOk 10 x1 = false := decide_eq_false (by omega)
  clear hz
  go_region_held3 (fun w' => w'.cell? ⟨w4.heap.size, 0, none⟩ = some (.int .i64 10) ∧ w'.cell? (a.add bs.length) = some (.int .u64 x0) ∧ w'.cell? ⟨(a.add bs.length).block, (a.add bs.length).off + 1, none⟩ = some (.int .u64 x1))
   (first | go_keep | ((try dsimp only); (repeat' apply And.intro); all_goals go_keep))
   (first | ((go_at_call 52; go_must (refine (show Calls Try.prog 52 #[.int .i64 10] _ (fun e w' => e = .returned (.agg #[.func (Fn.func 57) #[] #[]]) ∧ Below _ _ w') from find_any 10 (by omega) (by omega) _).mono ?_; rintro e w8 ⟨rfl, hb⟩; have hB8 : Below wc.heap.size wc w8 := (by refine below_step ?_ hb; repeat (first | (with_reducible exact Below.refl _ _) | (with_reducible apply below_alloc) | (with_reducible apply below_drew))); have k6 := cells4 (blk_below HC.out.b6 hB8); have k60 := k6.1.1; have kx0 : w8.cell? (a.add bs.length) = some (.int .u64 x0) := row_at0 (Kd.C_below HR.out (below_step HC.out.bel hB8)); have kx1 : w8.cell? ⟨(a.add bs.length).block, (a.add bs.length).off + 1, none⟩ = some (.int .u64 x1) := row_at1f (Kd.C_below HR.out (below_step HC.out.bel hB8)); have EB8 := Aside0.mk hB8; clear k6 hb hB8))) | ((go_at_call 57; go_must (refine (show Calls Try.prog 57 #[.int .u64 x0, .int .u64 x1] _ (fun e w' => e = .returned (.tuple #[.int .u64 (binY 10 x0 x1), .bool (binOk 10 x1)]) ∧ Below _ _ w') from bin_any 10 (by omega) (by omega) x0 x1 RX.out.1 RX.out.2.1 RX.out.2.2.1 RX.out.2.2.2 _).mono ?_; rintro e w9 ⟨rfl, hb⟩; have hB9 : Below wc.heap.size wc w9 := (by refine below_step ?_ hb; repeat (first | (with_reducible exact EB8.out) | (with_reducible apply below_alloc) | (with_reducible apply below_drew))); have k6 := cells4 (blk_below HC.out.b6 hB9); have j60 := k6.1.1; have jx0 : w9.cell? (a.add bs.length) = some (.int .u64 x0) := row_at0 (Kd.C_below HR.out (below_step HC.out.bel hB9)); have jx1 : w9.cell? ⟨(a.add bs.length).block, (a.add bs.length).off + 1, none⟩ = some (.int .u64 x1) := row_at1f (Kd.C_below HR.out (below_step HC.out.bel hB9)); clear c00 c01 f00 f01 c10 c11 f10 f11 c20 c21 c22 c23 f20 f21 f22 f23 c60 c61 c62 c63 f60 f61 f62 f63 cg0 cg1 fg0 fg1; obtain ⟨⟨c00, c01⟩, f00, f01⟩ := cells2 (blk_below HC.out.b0 hB9); obtain ⟨⟨c10, c11⟩, f10, f11⟩ := cells2 (blk_below HC.out.b1 hB9); obtain ⟨⟨c20, c21, c22, c23⟩, f20, f21, f22, f23⟩ := cells4 (blk_below HC.out.b2 hB9); obtain ⟨⟨c60, c61, c62, c63⟩, f60, f61, f62, f63⟩ := cells4 (blk_below HC.out.b6 hB9); obtain ⟨⟨cg0, cg1⟩, fg0, fg1⟩ := cells2 (blk_below HC.out.bg hB9); have EB9 := Aside0.mk hB9; clear k6 hb hB9))))
  go_wp2_with (first | (go_at_call 46; go_must (refine (own_n (bs.length + 2) (bs ++ [x0, x1]) (by simp) pc (some a) c _ (Kd.C_below HR.out (below_step HC.out.bel (by repeat (first | (with_reducible exact EB9.out) | (with_reducible apply below_alloc) | (with_reducible apply below_drew) | (with_reducible refine pw_below_drewN ?_ _))))) hc (by omega)).mono ?_; rintro e w7 ⟨v7, rfl, hR7, hb⟩; have hB7 : Below wc.heap.size wc w7 := (by refine below_step ?_ hb; repeat (first | (with_reducible exact EB9.out) | (with_reducible apply below_alloc) | (with_reducible apply below_drew) | (with_reducible refine pw_below_drewN ?_ _))); obtain ⟨A7, c7, rfl⟩ := Kd.R_slice hR7; have sz7 : w.heap.size ≤ _ := Nat.le_trans (below_step HC.out.bel (by repeat (first | (with_reducible exact EB9.out) | (with_reducible apply below_drew) | (with_reducible refine pw_below_drewN ?_ _)))).size (Nat.le_refl _); have E7 := Aside0.mk (Kd.R_lower hR7 sz7); clear c00 c01 f00 f01 c10 c11 f10 f11 c20 c21 c22 c23 f20 f21 f22 f23 c60 c61 c62 c63 f60 f61 f62 f63 cg0 cg1 fg0 fg1; have y1 := blk_below HC.out.b1 hB7; have y2 := blk_below HC.out.b2 hB7; obtain ⟨⟨c10, c11⟩, f10, f11⟩ := cells2 y1; obtain ⟨⟨c20, c21, c22, c23⟩, f20, f21, f22, f23⟩ := cells4 y2; have Y1 := Aside0.mk y1; have Y2 := Aside0.mk y2; have EB7 := Aside0.mk (below_step HC.out.bel hB7); clear y1 y2 hB7 hb hR7 sz7)))
  refine bodyPost_ret (v := .tuple #[.agg #[.int .i64 (pc), .slice A7 (bs ++ [x0, x1]).length c7], .agg #[.int .i64 4, .int .u64 0, .int .u64 0, .int .i64 0]]) (by simp [results, Try.results45, go_sem, c10, c11, c20, c21, c22, c23, i64_w, List.length_append]) rfl ⟨_, rfl, end_row E7.out Y1.out Y2.out _ _ _ _ _ _, end_below EB7.out _ _ _ _ _ _⟩
end Go.Proofs.Ytjbpljcfogekhaa.Q
namespace Go.Proofs.Ytjbpljcfogekhaa.Q
open Go.RowKit YtjbpljcfogekhaaW.PrintWords YtjbpljcfogekhaaW.PrintLast YtjbpljcfogekhaaW.PrintMore
open Ytjbpljcfogekhaa.Core (stepS doS oneS movesS One_ev Moves_ev oneS_ok moves_op opw opw_le)
def Words64 (st : List Int) : Bool := st.all fun x => decide (0 ≤ x) && decide (x < 18446744073709551616)
def vm_Step.f (k : Nat) (a0 : ByteArray) (a1_0 : Int) (l1_1 : List Int) : Option (Int × List Int × Int × Int × Int × Int) :=
 if a0.size ≤ 140737488351232 ∧ l1_1.length < 1000 ∧ Words64 l1_1 = true then some (stepS a0 a1_0 l1_1) else none
theorem vm_Step.mono : ∀ a0 a1 a2 k, LeO (vm_Step.f k a0 a1 a2) (vm_Step.f (k + 1) a0 a1 a2) := fun _ _ _ _ => LeO.refl _
def StepPost (w : World) (r : Int × List Int × Int × Int × Int × Int) (e : Ending) (w' : World) : Prop :=
 ∃ v1_ : Value, e = .returned (.tuple #[.agg #[.int .i64 r.1, v1_], .agg #[.int .i64 r.2.2.1, .int .u64 r.2.2.2.1, .int .u64 r.2.2.2.2.1, .int .i64 r.2.2.2.2.2]]) ∧ Kd.R (Kd.int .u64) 34 w' w.heap.size (fun _ => True) v1_ r.2.1 ∧ Below w.heap.size w w'
theorem words64 {st : List Int} (h : Words64 st = true) : ∀ x ∈ st, 0 ≤ x ∧ x < 18446744073709551616 := by
 intro x hx
 have := List.all_eq_true.1 h x hx
 simpa using this
theorem some_addr {w : World} {A : Option Addr} {n : Nat} {l : List Int} (h : Kd.C (Kd.int .u64) w A n l) (hn : 0 < n) : ∃ a, A = some a := by
 obtain ⟨ad, e, _⟩ := h.2.2 hn
 exact ⟨ad, e⟩
theorem part0 (st : List Int) : st.take (st.length - (0 : Int).toNat) = st ∧ st.drop (st.length - (0 : Int).toNat) = [] := by simp
theorem part1 (st : List Int) (h : ¬ (st.length : Int) - 1 < 0) : ∃ bs x0, st = bs ++ [x0] ∧ st.take (st.length - (1 : Int).toNat) = bs ∧ st.drop (st.length - (1 : Int).toNat) = [x0] := by
 have hlast : ∀ s : List Int, s ≠ [] → ∃ bs x0, s = bs ++ [x0] := by
  intro s
  induction s with
  | nil => intro hne; exact absurd rfl hne
  | cons y t ih =>
   intro _
   by_cases ht : t = []
   ·subst ht
    exact ⟨[], y, rfl⟩
   ·obtain ⟨bs, x0, rfl⟩ := ih ht
    exact ⟨y :: bs, x0, rfl⟩
 obtain ⟨bs, x0, rfl⟩ : ∃ bs x0, st = bs ++ [x0] := hlast st (by intro e; subst e; simp at h)
 exact ⟨bs, x0, rfl, by simp, by simp⟩
theorem part2 (st : List Int) (h : ¬ (st.length : Int) - 2 < 0) : ∃ bs x0 x1, st = bs ++ [x0, x1] ∧ st.take (st.length - (2 : Int).toNat) = bs ∧ st.drop (st.length - (2 : Int).toNat) = [x0, x1] := by
 obtain ⟨b1, x1, rfl, _, _⟩ := part1 st (by omega)
 obtain ⟨bs, x0, rfl, _, _⟩ := part1 b1 (by simp at h; omega)
 refine ⟨bs, x0, x1, by simp, ?_, ?_⟩
 ·simp
 ·simp
theorem step_calls (a0 : ByteArray) (pc : Int) (A : Option Addr) (c : Nat) (st : List Int) (w : World) (hr : Kd.C (Kd.int .u64) w A st.length st) (hc : st.length ≤ c) (hs : a0.size ≤ 140737488351232) (hl : st.length < 1000) (hw : ∀ x ∈ st, 0 ≤ x ∧ x < 18446744073709551616) :
  Calls Try.prog 45 #[.string a0, .agg #[.int .i64 pc, .slice A st.length c]] w (StepPost w (stepS a0 pc st)) := by
 obtain ⟨K1, h1⟩ := One_ev a0 hs pc
 by_cases herr : (oneS a0 pc).2.2.2.2 = 0
 ·obtain ⟨hp0, hp1, ho0, ho1, hw0, ha0, ha1, hat, hlen, hend⟩ := oneS_ok herr
  obtain ⟨K2, h2⟩ := Moves_ev (oneS a0 pc).1 (oneS a0 pc).2.1 (oneS a0 pc).2.2.1 (oneS a0 pc).2.2.2.1 ha0
  have g1 := h1 (K1 + K2) (by omega)
  have g2 := h2 (K1 + K2) (by omega)
  clear h1 h2
  generalize K1 + K2 = k at g1 g2
  unfold stepS
  rw [if_neg (by simpa using herr)]
  generalize oneS a0 pc = t at *
  obtain ⟨op, arg, at_, len, err⟩ := t
  simp only at herr ho0 ho1 hw0 ha0 ha1 hat hlen hend g2 ⊢
  subst herr
  subst hat
  by_cases h23 : op = 23
  ·subst h23
   rw [if_pos rfl]
   exact step_sys k a0 at_ A c st arg at_ len w hr hc (by omega) g1
  ·rw [if_neg h23]
   have hop : (op == 23) = false := by simpa using h23
   by_cases hbad : (st.length : Int) - (movesS op arg).1 < 0 ∨ 32 < (st.length : Int) - (movesS op arg).1 + (movesS op arg).2
   ·rw [if_pos hbad]
    have hm := moves_op (op := op) (arg := arg) ho0 (by omega)
    have hpq : 0 ≤ (movesS op arg).1 ∧ (movesS op arg).1 ≤ 10 ∧ 0 ≤ (movesS op arg).2 ∧ (movesS op arg).2 ≤ 10 := by
     rcases hm with ⟨e, _⟩ | ⟨e, _⟩ | ⟨e, _⟩ | ⟨e, _⟩ | ⟨e, _⟩ | ⟨e, _⟩ | ⟨e, _⟩ | ⟨e, _⟩ | ⟨e, _⟩ <;> rw [e] <;> simp
    exact step_fault k a0 at_ A c st op arg at_ len (movesS op arg).1 (movesS op arg).2 w hr hc (by omega) g1 hop g2 hpq.1 hpq.2.1 hpq.2.2.1 hpq.2.2.2 (by omega)
   ·rw [if_neg hbad]
    have hm := moves_op (op := op) (arg := arg) ho0 (by omega)
    rcases hm with ⟨e, h⟩ | ⟨e, h⟩ | ⟨e, h⟩ | ⟨e, h⟩ | ⟨e, h⟩ | ⟨e, h⟩ | ⟨e, h⟩ | ⟨e, h⟩ | ⟨e, h⟩
    all_goals
     rw [e] at g2 hbad ⊢
     simp only at g2 hbad ⊢
    ·rw [(part0 st).1, (part0 st).2]
     rcases h with rfl | rfl
     ·exact step_push k a0 at_ A c st arg at_ len 1 w hr hc (by omega) g1 g2 (by omega) (by omega) (by omega)
     ·exact step_word k a0 at_ A c st arg at_ len 1 w hr hc (by omega) g1 g2 (by omega) (by omega) (by omega)
    ·obtain ⟨bs, x0, hst, e1, e2⟩ := part1 st (by omega)
     rw [e1, e2]
     subst hst
     obtain ⟨a, rfl⟩ := some_addr hr (by simp)
     rw [List.length_append, List.length_singleton] at hr hc hbad hl ⊢
     subst h
     exact step_dup k a0 at_ a c bs x0 arg at_ len 2 w hr hc (by omega) g1 g2 (by omega) (by omega) (by omega)
    ·obtain ⟨bs, x0, hst, e1, e2⟩ := part1 st (by omega)
     rw [e1, e2]
     subst hst
     obtain ⟨a, rfl⟩ := some_addr hr (by simp)
     rw [List.length_append, List.length_singleton] at hr hc hbad hl ⊢
     rcases h with rfl | rfl
     ·exact step_drop k a0 at_ a c bs x0 arg at_ len 0 w hr hc (by omega) g1 g2 (by omega) (by omega) (by omega)
     ·by_cases hx : x0 = 0
      ·have e3 : doS 22 arg (wrap64 (at_ + len)) at_ (bs ++ [x0]) bs [x0] = (wrap64 arg, bs, 0, 0, 0, 0) := by simp [doS, hx]
       rw [e3]
       exact step_zero1 k a0 at_ a c bs x0 arg at_ len 0 w hr hc (by omega) g1 g2 (by omega) (by omega) (by omega) (by simpa using hx)
      ·have e3 : doS 22 arg (wrap64 (at_ + len)) at_ (bs ++ [x0]) bs [x0] = (wrap64 (at_ + len), bs, 0, 0, 0, 0) := by simp [doS, hx]
       rw [e3]
       exact step_zero0 k a0 at_ a c bs x0 arg at_ len 0 w hr hc (by omega) g1 g2 (by omega) (by omega) (by omega) (by simpa using hx)
    ·obtain ⟨bs, x0, x1, hst, e1, e2⟩ := part2 st (by omega)
     rw [e1, e2]
     subst hst
     obtain ⟨a, rfl⟩ := some_addr hr (by simp)
     rw [show (bs ++ [x0, x1]).length = bs.length + 2 from by simp] at hr hc hbad hl ⊢
     subst h
     exact step_swap k a0 at_ a c bs x0 x1 arg at_ len 2 w hr hc (by omega) g1 g2 (by omega) (by omega) (by omega)
    ·obtain ⟨bs, x0, x1, hst, e1, e2⟩ := part2 st (by omega)
     rw [e1, e2]
     subst hst
     obtain ⟨a, rfl⟩ := some_addr hr (by simp)
     rw [show (bs ++ [x0, x1]).length = bs.length + 2 from by simp] at hr hc hbad hl ⊢
     subst h
     exact step_over k a0 at_ a c bs x0 x1 arg at_ len 3 w hr hc (by omega) g1 g2 (by omega) (by omega) (by omega)
    ·obtain ⟨bs, x0, hst, e1, e2⟩ := part1 st (by omega)
     rw [e1, e2]
     subst hst
     obtain ⟨a, rfl⟩ := some_addr hr (by simp)
     rw [List.length_append, List.length_singleton] at hr hc hbad hl ⊢
     rcases h with rfl | rfl
     ·by_cases hx : x0 = 0
      ·have e3 : doS 18 arg (wrap64 (at_ + len)) at_ (bs ++ [x0]) bs [x0] = (wrap64 (at_ + len), bs ++ [1], 0, 0, 0, 0) := by simp [doS, hx]
       rw [e3]
       exact step_not1 k a0 at_ a c bs x0 arg at_ len 1 w hr hc (by omega) g1 g2 (by omega) (by omega) (by omega) (by simpa using hx)
      ·have e3 : doS 18 arg (wrap64 (at_ + len)) at_ (bs ++ [x0]) bs [x0] = (wrap64 (at_ + len), bs ++ [0], 0, 0, 0, 0) := by simp [doS, hx]
       rw [e3]
       exact step_not0 k a0 at_ a c bs x0 arg at_ len 1 w hr hc (by omega) g1 g2 (by omega) (by omega) (by omega) (by simpa using hx)
     ·exact step_load k a0 at_ a c bs x0 arg at_ len 1 w hr hc (by omega) g1 g2 (by omega) (by omega) (by omega)
    ·obtain ⟨bs, x0, x1, hst, e1, e2⟩ := part2 st (by omega)
     rw [e1, e2]
     subst hst
     obtain ⟨a, rfl⟩ := some_addr hr (by simp)
     rw [show (bs ++ [x0, x1]).length = bs.length + 2 from by simp] at hr hc hbad hl ⊢
     subst h
     exact step_store k a0 at_ a c bs x0 x1 arg at_ len 0 w hr hc (by omega) g1 g2 (by omega) (by omega) (by omega)
    ·rw [(part0 st).1, (part0 st).2]
     subst h
     exact step_jump k a0 at_ A c st arg at_ len 0 w hr hc (by omega) g1 g2 (by omega) (by omega) (by omega)
    ·obtain ⟨bs, x0, x1, hst, e1, e2⟩ := part2 st (by omega)
     rw [e1, e2]
     subst hst
     have r0 := hw x0 (by simp)
     have r1 := hw x1 (by simp)
     obtain ⟨a, rfl⟩ := some_addr hr (by simp)
     rw [show (bs ++ [x0, x1]).length = bs.length + 2 from by simp] at hr hc hbad hl ⊢
     have hd : doS op arg (wrap64 (at_ + len)) at_ (bs ++ [x0, x1]) bs [x0, x1] = if binOk op x1 = true then (wrap64 (at_ + len), bs ++ [binY op x0 x1], 0, 0, 0, 0) else (at_, bs ++ [x0, x1], 4, 0, 0, 0) := by
      simp only [doS]
      rw [if_neg (by omega), if_neg (by omega), if_neg (by omega)]
     rw [hd]
     clear hd
     have h' : op = 6 ∨ op = 7 ∨ op = 8 ∨ op = 9 ∨ op = 10 ∨ op = 11 ∨ op = 12 ∨ op = 13 ∨ op = 14 ∨ op = 15 ∨ op = 16 ∨ op = 17 := by omega
     clear h e
     rcases h' with rfl | rfl | rfl | rfl | rfl | rfl | rfl | rfl | rfl | rfl | rfl | rfl
     ·exact step_op6 k a0 at_ a c bs x0 x1 arg at_ len 1 w hr hc (by omega) g1 g2 (by omega) (by omega) (by omega) r0.1 r0.2 r1.1 r1.2
     ·exact step_op7 k a0 at_ a c bs x0 x1 arg at_ len 1 w hr hc (by omega) g1 g2 (by omega) (by omega) (by omega) r0.1 r0.2 r1.1 r1.2
     ·exact step_op8 k a0 at_ a c bs x0 x1 arg at_ len 1 w hr hc (by omega) g1 g2 (by omega) (by omega) (by omega) r0.1 r0.2 r1.1 r1.2
     ·by_cases hz : 0 < x1
      ·rw [if_pos (show binOk 9 x1 = true from decide_eq_true hz)]
       exact step_op9 k a0 at_ a c bs x0 x1 arg at_ len 1 w hr hc (by omega) g1 g2 (by omega) (by omega) (by omega) r0.1 r0.2 r1.1 r1.2 hz
      ·rw [if_neg (show ¬ binOk 9 x1 = true from by show ¬ decide (0 < x1) = true; simpa using hz)]
       exact step_div9 k a0 at_ a c bs x0 x1 arg at_ len 1 w hr hc (by omega) g1 g2 (by omega) (by omega) (by omega) r0.1 r0.2 r1.1 r1.2 hz
     ·by_cases hz : 0 < x1
      ·rw [if_pos (show binOk 10 x1 = true from decide_eq_true hz)]
       exact step_op10 k a0 at_ a c bs x0 x1 arg at_ len 1 w hr hc (by omega) g1 g2 (by omega) (by omega) (by omega) r0.1 r0.2 r1.1 r1.2 hz
      ·rw [if_neg (show ¬ binOk 10 x1 = true from by show ¬ decide (0 < x1) = true; simpa using hz)]
       exact step_div10 k a0 at_ a c bs x0 x1 arg at_ len 1 w hr hc (by omega) g1 g2 (by omega) (by omega) (by omega) r0.1 r0.2 r1.1 r1.2 hz
     ·exact step_op11 k a0 at_ a c bs x0 x1 arg at_ len 1 w hr hc (by omega) g1 g2 (by omega) (by omega) (by omega) r0.1 r0.2 r1.1 r1.2
     ·exact step_op12 k a0 at_ a c bs x0 x1 arg at_ len 1 w hr hc (by omega) g1 g2 (by omega) (by omega) (by omega) r0.1 r0.2 r1.1 r1.2
     ·exact step_op13 k a0 at_ a c bs x0 x1 arg at_ len 1 w hr hc (by omega) g1 g2 (by omega) (by omega) (by omega) r0.1 r0.2 r1.1 r1.2
     ·exact step_op14 k a0 at_ a c bs x0 x1 arg at_ len 1 w hr hc (by omega) g1 g2 (by omega) (by omega) (by omega) r0.1 r0.2 r1.1 r1.2
     ·exact step_op15 k a0 at_ a c bs x0 x1 arg at_ len 1 w hr hc (by omega) g1 g2 (by omega) (by omega) (by omega) r0.1 r0.2 r1.1 r1.2
     ·exact step_op16 k a0 at_ a c bs x0 x1 arg at_ len 1 w hr hc (by omega) g1 g2 (by omega) (by omega) (by omega) r0.1 r0.2 r1.1 r1.2
     ·exact step_op17 k a0 at_ a c bs x0 x1 arg at_ len 1 w hr hc (by omega) g1 g2 (by omega) (by omega) (by omega) r0.1 r0.2 r1.1 r1.2
 ·unfold stepS
  rw [if_pos herr]
  have g1 := h1 K1 (Nat.le_refl _)
  generalize oneS a0 pc = t at *
  obtain ⟨t1, t2, t3, t4, t5⟩ := t
  exact step_none K1 a0 pc A c st t1 t2 t3 t4 t5 w hr hc (by omega) g1 (by simpa using herr) (by simpa using herr)
theorem vm_Step.calls (k : Nat) (a0 : ByteArray) (a1_0 : Int) (A1_1 : Option Addr) (c1_1 : Nat) (l1_1 : List Int) (r1 : Int) (r2 : List Int) (r3 r4 r5 r6 : Int) (w : World) (hr1_1 : Kd.C (Kd.int .u64) w A1_1 l1_1.length l1_1) (hc1_1 : l1_1.length ≤ c1_1) (h : vm_Step.f k a0 a1_0 l1_1 = some (r1, r2, r3, r4, r5, r6)) :
  Calls Try.prog 45 #[.string a0, .agg #[.int .i64 a1_0, .slice A1_1 l1_1.length c1_1]] w fun e w' => ∃ v1_ : Value, e = .returned (.tuple #[.agg #[.int .i64 r1, v1_], .agg #[.int .i64 r3, .int .u64 r4, .int .u64 r5, .int .i64 r6]]) ∧ Kd.R (Kd.int .u64) 34 w' w.heap.size (fun _ => True) v1_ r2 ∧ Below w.heap.size w w' := by
 unfold vm_Step.f at h
 split at h
 ·rename_i hg
  have e := Option.some.inj h
  have := step_calls a0 a1_0 A1_1 c1_1 l1_1 w hr1_1 hc1_1 hg.1 hg.2.1 (words64 hg.2.2)
  rw [e] at this
  exact this
 ·cases h
end Go.Proofs.Ytjbpljcfogekhaa.Q
