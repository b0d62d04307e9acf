/- A call of the reference's Ahead returns what its plain definition tells, and changes no block that was there before. -/
import Derived.Test.YtiedehjmhlgicaaN9
namespace Go.Proofs.Ytiedehjmhlgicaa.PAll
open Go.RowKit Go.Proofs.YtiedehjmhlgicaaW.PrintWords Go.Proofs.YtiedehjmhlgicaaW.PrintLast Go.Proofs.YtiedehjmhlgicaaW.PrintMore
attribute [local go_sem] max2_int min2_int max_two min_two max_three min_three max_four min_four   -- for this text's walks alone
attribute [local go_sem high] eqA23
set_option linter.unusedVariables false
set_option linter.unusedSimpArgs false

set_option maxHeartbeats 8000000 in
set_option maxRecDepth 100000 in
theorem biremeref14_Ahead.calls (k : Nat) (a0_0 : Int) (a0_1 : Int) (a1_0 : Int) (a1_1 : Int) (a2 : Int) (a3 : Int) (r1 : Int) (r2 : Bool) (w : World) (h : biremeref14_Ahead.f k a0_0 a0_1 a1_0 a1_1 a2 a3 = some (r1, r2)) :
  Calls Try.prog 21 #[.agg #[.int .i64 a0_0, .int .i64 a0_1], .agg #[.int .i64 a1_0, .int .i64 a1_1], .int .i64 a2, .int .i64 a3] w fun e w' => e = .returned (.tuple #[.int .i64 r1, .bool r2]) ∧ Below w.heap.size w w' := by
 have hu33 := Try.underlying33
 have hu75 := Try.underlying75
 have HB := Aside0.mk (Below.refl w.heap.size w)
 have H : ((biremeref14_Of.f k a0_0 a0_1 a1_0 a1_1 a2 a2).bind fun bt510 => (if bt510.2.2.1 = true then (biremeref14_Ahead.j0 k a3 (wrap64 (-bt510.2.2.2.1)) (wrap64 ((wrap64 (a2 - 1)) - bt510.2.2.2.1)) bt510.1 bt510.2.1 bt510.2.2.1 bt510.2.2.2.1 bt510.2.2.2.2.1 bt510.2.2.2.2.2.1 bt510.2.2.2.2.2.2.1 bt510.2.2.2.2.2.2.2.1 bt510.2.2.2.2.2.2.2.2.1 bt510.2.2.2.2.2.2.2.2.2.1 bt510.2.2.2.2.2.2.2.2.2.2) else (biremeref14_Ahead.j0 k a3 (wrap64 (-(wrap64 (a2 - 1)))) (wrap64 (a2 - 1)) bt510.1 bt510.2.1 bt510.2.2.1 bt510.2.2.2.1 bt510.2.2.2.2.1 bt510.2.2.2.2.2.1 bt510.2.2.2.2.2.2.1 bt510.2.2.2.2.2.2.2.1 bt510.2.2.2.2.2.2.2.2.1 bt510.2.2.2.2.2.2.2.2.2.1 bt510.2.2.2.2.2.2.2.2.2.2))) = some (r1, r2) := h
 clear h
 replace H := Option.bind_eq_some_iff.mp H
 obtain ⟨⟨t510, t511, t512, t513, t514, t515, t516, t517, t518, t519, t520⟩, A50, H⟩ := H
 replace H : (if t512 = true then (biremeref14_Ahead.j0 k a3 (wrap64 (-t513)) (wrap64 ((wrap64 (a2 - 1)) - t513)) t510 t511 t512 t513 t514 t515 t516 t517 t518 t519 t520) else (biremeref14_Ahead.j0 k a3 (wrap64 (-(wrap64 (a2 - 1)))) (wrap64 (a2 - 1)) t510 t511 t512 t513 t514 t515 t516 t517 t518 t519 t520)) = some (r1, r2) := H
 have A5 := Aside0.mk A50
 clear A50
 have HC6 := Aside0.mk H
 clear H
 go_enter Try.func21, Try.ntmps21
 go_upto_if 29 with (first | ((with_reducible refine gate_dst (N := 4) rfl ?_); refine box_event ?hg (N := 4) ?hd (cs := #[.int .i64 a0_0, .int .i64 a0_1]) (t := 33) ?hr ?_; (case hd => rfl); (case hg => rfl); (case hr => first | (go_simp; done) | (go_simp; rfl)); intro gb508 hg w7 hbox hb; have n0_ := Aside0.mk (below_step (by repeat (first | (with_reducible first | exact HB.out | apply below_alloc | apply pw_below_drewN | apply below_drew1) | exact HB.out)) hb); have n1_ := Aside0.mk (hbox); have n2_ := Aside0.mk ((by rw [hg]; exact (below_size (by repeat (first | (with_reducible first | exact HB.out | apply below_alloc | apply pw_below_drewN | apply below_drew1) | exact HB.out))) : w.heap.size ≤ gb508)); have n3_ := Aside0.mk ((by rw [hg]; exact (below_size (by repeat (first | (with_reducible first | exact HB.out | apply below_alloc | apply pw_below_drewN | apply below_drew1) | exact HB.out))) : w.heap.size ≤ gb508)); clear HB; have HB := n0_; have BK508 := n1_; have GW508 := n2_; have GE508 := n3_; clear n0_ n1_ n2_ n3_; clear hb hbox hg) | ((with_reducible refine gate_dst (N := 5) rfl ?_); refine box_event ?hg (N := 5) ?hd (cs := #[.int .i64 a1_0, .int .i64 a1_1]) (t := 33) ?hr ?_; (case hd => rfl); (case hg => rfl); (case hr => first | (go_simp; done) | (go_simp; rfl)); intro gb509 hg w8 hbox hb; have n0_ := Aside0.mk (blk_below (g := gb508) (o := .cells #[.int .i64 a0_0, .int .i64 a0_1] 33 (0, 0)) (by (with_reducible repeat (first | refine blk_drewN ?_ _ | refine blk_drew ?_ | refine blk_alloc ?_ _)); exact BK508.out) hb); have n1_ := Aside0.mk (below_step (by repeat (first | (with_reducible first | exact HB.out | apply below_alloc | apply pw_below_drewN | apply below_drew1 | refine below_set ?_ GE508.out) | exact HB.out)) hb); have n2_ := Aside0.mk (hbox); have n3_ := Aside0.mk ((by rw [hg]; exact (below_size (by repeat (first | (with_reducible first | exact HB.out | apply below_alloc | apply pw_below_drewN | apply below_drew1 | refine below_set ?_ GE508.out) | exact HB.out))) : w.heap.size ≤ gb509)); have n4_ := Aside0.mk ((by rw [hg]; exact (below_size (by repeat (first | (with_reducible first | exact HB.out | apply below_alloc | apply pw_below_drewN | apply below_drew1 | refine below_set ?_ GE508.out) | exact HB.out))) : w.heap.size ≤ gb509)); have n5_ := Aside0.mk ((by rw [hg]; exact Nat.ne_of_lt (blk_lt (g := gb508) (o := .cells #[.int .i64 a0_0, .int .i64 a0_1] 33 (0, 0)) (by (with_reducible repeat (first | refine blk_drewN ?_ _ | refine blk_drew ?_ | refine blk_alloc ?_ _)); exact BK508.out)) : gb508 ≠ gb509)); have n6_ := Aside0.mk ((by rw [hg]; exact Nat.ne_of_gt (blk_lt (g := gb508) (o := .cells #[.int .i64 a0_0, .int .i64 a0_1] 33 (0, 0)) (by (with_reducible repeat (first | refine blk_drewN ?_ _ | refine blk_drew ?_ | refine blk_alloc ?_ _)); exact BK508.out)) : gb509 ≠ gb508)); clear BK508; clear HB; have BK508 := n0_; have HB := n1_; have BK509 := n2_; have GW509 := n3_; have GE509 := n4_; have NB508_509 := n5_; have NB509_508 := n6_; clear n0_ n1_ n2_ n3_ n4_ n5_ n6_; clear hb hbox hg; have hnb9 := NB508_509.out; have hnc9 := NB509_508.out; have hcz10_0 : w8.cell? ⟨gb508, 0, none⟩ = some (.int .i64 a0_0) := (blk_cell BK508.out 0).trans rfl; have hcz10_1 : w8.cell? ⟨gb508, 1, none⟩ = some (.int .i64 a0_1) := (blk_cell BK508.out 1).trans rfl; have hfz10_0 := blk_frozen BK508.out 0; have hfz10_1 := blk_frozen BK508.out 1; have hcz11_0 : w8.cell? ⟨gb509, 0, none⟩ = some (.int .i64 a1_0) := (blk_cell BK509.out 0).trans rfl; have hcz11_1 : w8.cell? ⟨gb509, 1, none⟩ = some (.int .i64 a1_1) := (blk_cell BK509.out 1).trans rfl; have hfz11_0 := blk_frozen BK509.out 0; have hfz11_1 := blk_frozen BK509.out 1) | (go_at_call 42; (with_reducible refine (biremeref14_Of.calls k a0_0 a0_1 a1_0 a1_1 a2 a2 t510 t511 t512 t513 t514 t515 t516 t517 t518 t519 t520 _ A5.out).mono ?_); rintro e w12 ⟨rfl, hb⟩; have n0_ := Aside0.mk (blk_below (g := gb508) (o := .cells #[.int .i64 a0_0, .int .i64 a0_1] 33 (0, 0)) (by (with_reducible repeat (first | refine blk_drewN ?_ _ | refine blk_drew ?_ | refine blk_alloc ?_ _)); exact BK508.out) hb); have n1_ := Aside0.mk (blk_below (g := gb509) (o := .cells #[.int .i64 a1_0, .int .i64 a1_1] 33 (0, 0)) (by (with_reducible repeat (first | refine blk_drewN ?_ _ | refine blk_drew ?_ | refine blk_alloc ?_ _)); exact BK509.out) hb); have n2_ := Aside0.mk (below_step (by repeat (first | (with_reducible first | exact HB.out | apply below_alloc | apply pw_below_drewN | apply below_drew1 | refine below_set ?_ GE508.out | refine below_set ?_ GE509.out) | exact HB.out)) hb); clear BK508; clear BK509; clear HB; have BK508 := n0_; have BK509 := n1_; have HB := n2_; clear n0_ n1_ n2_; (try clear hb); (try clear hb2); (try clear hk); (try clear hi)) | ((with_reducible refine gate_dst (N := 10) rfl ?_); refine box_event ?hg (N := 10) ?hd (cs := #[.bool false, .bool false, .bool false, .int .i64 0, .int .i64 0, .int .i64 0, .int .i64 0, .int .i64 0, .int .i64 0, .int .i64 0, .int .i64 0]) (t := 75) ?hr ?_; (case hd => rfl); (case hg => rfl); (case hr => first | (go_simp; done) | (go_simp; rfl)); intro gb521 hg w13 hbox hb; have n0_ := Aside0.mk (blk_below (g := gb508) (o := .cells #[.int .i64 a0_0, .int .i64 a0_1] 33 (0, 0)) (by (with_reducible repeat (first | refine blk_drewN ?_ _ | refine blk_drew ?_ | refine blk_alloc ?_ _)); exact BK508.out) hb); have n1_ := Aside0.mk (blk_below (g := gb509) (o := .cells #[.int .i64 a1_0, .int .i64 a1_1] 33 (0, 0)) (by (with_reducible repeat (first | refine blk_drewN ?_ _ | refine blk_drew ?_ | refine blk_alloc ?_ _)); exact BK509.out) hb); have n2_ := Aside0.mk (below_step (by repeat (first | (with_reducible first | exact HB.out | apply below_alloc | apply pw_below_drewN | apply below_drew1 | refine below_set ?_ GE508.out | refine below_set ?_ GE509.out) | exact HB.out)) hb); have n3_ := Aside0.mk (hbox); have n4_ := Aside0.mk ((by rw [hg]; exact (below_size (by repeat (first | (with_reducible first | exact HB.out | apply below_alloc | apply pw_below_drewN | apply below_drew1 | refine below_set ?_ GE508.out | refine below_set ?_ GE509.out) | exact HB.out))) : w.heap.size ≤ gb521)); have n5_ := Aside0.mk ((by rw [hg]; exact (below_size (by repeat (first | (with_reducible first | exact HB.out | apply below_alloc | apply pw_below_drewN | apply below_drew1 | refine below_set ?_ GE508.out | refine below_set ?_ GE509.out) | exact HB.out))) : w.heap.size ≤ gb521)); have n6_ := Aside0.mk ((by rw [hg]; exact Nat.ne_of_lt (blk_lt (g := gb508) (o := .cells #[.int .i64 a0_0, .int .i64 a0_1] 33 (0, 0)) (by (with_reducible repeat (first | refine blk_drewN ?_ _ | refine blk_drew ?_ | refine blk_alloc ?_ _)); exact BK508.out)) : gb508 ≠ gb521)); have n7_ := Aside0.mk ((by rw [hg]; exact Nat.ne_of_gt (blk_lt (g := gb508) (o := .cells #[.int .i64 a0_0, .int .i64 a0_1] 33 (0, 0)) (by (with_reducible repeat (first | refine blk_drewN ?_ _ | refine blk_drew ?_ | refine blk_alloc ?_ _)); exact BK508.out)) : gb521 ≠ gb508)); have n8_ := Aside0.mk ((by rw [hg]; exact Nat.ne_of_lt (blk_lt (g := gb509) (o := .cells #[.int .i64 a1_0, .int .i64 a1_1] 33 (0, 0)) (by (with_reducible repeat (first | refine blk_drewN ?_ _ | refine blk_drew ?_ | refine blk_alloc ?_ _)); exact BK509.out)) : gb509 ≠ gb521)); have n9_ := Aside0.mk ((by rw [hg]; exact Nat.ne_of_gt (blk_lt (g := gb509) (o := .cells #[.int .i64 a1_0, .int .i64 a1_1] 33 (0, 0)) (by (with_reducible repeat (first | refine blk_drewN ?_ _ | refine blk_drew ?_ | refine blk_alloc ?_ _)); exact BK509.out)) : gb521 ≠ gb509)); clear BK508; clear BK509; clear HB; have BK508 := n0_; have BK509 := n1_; have HB := n2_; have BK521 := n3_; have GW521 := n4_; have GE521 := n5_; have NB508_521 := n6_; have NB521_508 := n7_; have NB509_521 := n8_; have NB521_509 := n9_; clear n0_ n1_ n2_ n3_ n4_ n5_ n6_ n7_ n8_ n9_; clear hb hbox hg; have hnb14 := NB521_508.out; have hnc14 := NB508_521.out; have hnb15 := NB521_509.out; have hnc15 := NB509_521.out; have hcz16_0 : w13.cell? ⟨gb521, 0, none⟩ = some (.bool false) := (blk_cell BK521.out 0).trans rfl; have hcz16_1 : w13.cell? ⟨gb521, 1, none⟩ = some (.bool false) := (blk_cell BK521.out 1).trans rfl; have hcz16_2 : w13.cell? ⟨gb521, 2, none⟩ = some (.bool false) := (blk_cell BK521.out 2).trans rfl; have hcz16_3 : w13.cell? ⟨gb521, 3, none⟩ = some (.int .i64 0) := (blk_cell BK521.out 3).trans rfl; have hcz16_4 : w13.cell? ⟨gb521, 4, none⟩ = some (.int .i64 0) := (blk_cell BK521.out 4).trans rfl; have hcz16_5 : w13.cell? ⟨gb521, 5, none⟩ = some (.int .i64 0) := (blk_cell BK521.out 5).trans rfl; have hcz16_6 : w13.cell? ⟨gb521, 6, none⟩ = some (.int .i64 0) := (blk_cell BK521.out 6).trans rfl; have hcz16_7 : w13.cell? ⟨gb521, 7, none⟩ = some (.int .i64 0) := (blk_cell BK521.out 7).trans rfl; have hcz16_8 : w13.cell? ⟨gb521, 8, none⟩ = some (.int .i64 0) := (blk_cell BK521.out 8).trans rfl; have hcz16_9 : w13.cell? ⟨gb521, 9, none⟩ = some (.int .i64 0) := (blk_cell BK521.out 9).trans rfl; have hcz16_10 : w13.cell? ⟨gb521, 10, none⟩ = some (.int .i64 0) := (blk_cell BK521.out 10).trans rfl; have hfz16_0 := blk_frozen BK521.out 0; have hfz16_1 := blk_frozen BK521.out 1; have hfz16_2 := blk_frozen BK521.out 2; have hfz16_3 := blk_frozen BK521.out 3; have hfz16_4 := blk_frozen BK521.out 4; have hfz16_5 := blk_frozen BK521.out 5; have hfz16_6 := blk_frozen BK521.out 6; have hfz16_7 := blk_frozen BK521.out 7; have hfz16_8 := blk_frozen BK521.out 8; have hfz16_9 := blk_frozen BK521.out 9; have hfz16_10 := blk_frozen BK521.out 10))
 repeat (go_quiet (fail); go_wp2)
 (try simp only [Act.put, List.setIfInBounds_toArray, List.set_cons_zero, List.set_cons_succ])
 go_cut [11, 12] (fun v11 v12 wc => ∃ (kq : Nat) (x11_5 : Int) (x12_5 : Int), v11 = .int .i64 x11_5 ∧ v12 = .int .i64 x12_5 ∧ Aside0 (biremeref14_Ahead.j0 kq a3 x11_5 x12_5 t510 t511 t512 t513 t514 t515 t516 t517 t518 t519 t520 = some (r1, r2)) ∧ Aside0 (kq ≤ k) ∧ Aside0 (wc.heap[gb508]? = some (.cells #[.int .i64 a0_0, .int .i64 a0_1] 33 (0, 0))) ∧ Aside0 (wc.heap[gb509]? = some (.cells #[.int .i64 a1_0, .int .i64 a1_1] 33 (0, 0))) ∧ Aside0 (wc.heap[gb521]? = some (.cells #[.bool t510, .bool t511, .bool t512, .int .i64 t513, .int .i64 t514, .int .i64 t515, .int .i64 t516, .int .i64 t517, .int .i64 t518, .int .i64 t519, .int .i64 t520] 75 (0, 0))) ∧ Aside0 (Below w.heap.size w wc))
 case first =>
  have H := HC6.out
  clear HC6
  by_cases c17 : t512 = true
  ·subst c17
   have H1 : (biremeref14_Ahead.j0 k a3 (wrap64 (-t513)) (wrap64 ((wrap64 (a2 - 1)) - t513)) t510 t511 true t513 t514 t515 t516 t517 t518 t519 t520) = some (r1, r2) := by rw [if_pos rfl] at H; exact H
   clear H
   have H := H1
   clear H1
   have H' := Aside0.mk H
   clear H
   have hnb18 := NB521_508.out
   have hnc18 := NB508_521.out
   have hnb19 := NB521_509.out
   have hnc19 := NB509_521.out
   have hcz20_0 : w13.cell? ⟨gb521, 0, none⟩ = some (.bool false) := (blk_cell BK521.out 0).trans rfl
   have hcz20_1 : w13.cell? ⟨gb521, 1, none⟩ = some (.bool false) := (blk_cell BK521.out 1).trans rfl
   have hcz20_2 : w13.cell? ⟨gb521, 2, none⟩ = some (.bool false) := (blk_cell BK521.out 2).trans rfl
   have hcz20_3 : w13.cell? ⟨gb521, 3, none⟩ = some (.int .i64 0) := (blk_cell BK521.out 3).trans rfl
   have hcz20_4 : w13.cell? ⟨gb521, 4, none⟩ = some (.int .i64 0) := (blk_cell BK521.out 4).trans rfl
   have hcz20_5 : w13.cell? ⟨gb521, 5, none⟩ = some (.int .i64 0) := (blk_cell BK521.out 5).trans rfl
   have hcz20_6 : w13.cell? ⟨gb521, 6, none⟩ = some (.int .i64 0) := (blk_cell BK521.out 6).trans rfl
   have hcz20_7 : w13.cell? ⟨gb521, 7, none⟩ = some (.int .i64 0) := (blk_cell BK521.out 7).trans rfl
   have hcz20_8 : w13.cell? ⟨gb521, 8, none⟩ = some (.int .i64 0) := (blk_cell BK521.out 8).trans rfl
   have hcz20_9 : w13.cell? ⟨gb521, 9, none⟩ = some (.int .i64 0) := (blk_cell BK521.out 9).trans rfl
   have hcz20_10 : w13.cell? ⟨gb521, 10, none⟩ = some (.int .i64 0) := (blk_cell BK521.out 10).trans rfl
   have hfz20_0 := blk_frozen BK521.out 0
   have hfz20_1 := blk_frozen BK521.out 1
   have hfz20_2 := blk_frozen BK521.out 2
   have hfz20_3 := blk_frozen BK521.out 3
   have hfz20_4 := blk_frozen BK521.out 4
   have hfz20_5 := blk_frozen BK521.out 5
   have hfz20_6 := blk_frozen BK521.out 6
   have hfz20_7 := blk_frozen BK521.out 7
   have hfz20_8 := blk_frozen BK521.out 8
   have hfz20_9 := blk_frozen BK521.out 9
   have hfz20_10 := blk_frozen BK521.out 10
   go_wp2
   repeat (go_quiet (fail); try go_wp2)
   go_meet
   case rel => exact ⟨_, (wrap64 (-t513)), (wrap64 ((wrap64 (a2 - 1)) - t513)), (by first | rfl | (simp; done) | (simp [*]; done)), (by first | rfl | (simp; done) | (simp [*]; done)), H', ⟨by first | omega | exact Nat.le_refl _⟩, ⟨by (with_reducible repeat (first | refine blk_drewN ?_ _ | refine blk_drew ?_ | refine blk_alloc ?_ _)); refine blk_far ?_ NB508_521.out _; (with_reducible repeat (first | refine blk_drewN ?_ _ | refine blk_drew ?_ | refine blk_alloc ?_ _)); refine blk_far ?_ NB508_521.out _; (with_reducible repeat (first | refine blk_drewN ?_ _ | refine blk_drew ?_ | refine blk_alloc ?_ _)); refine blk_far ?_ NB508_521.out _; (with_reducible repeat (first | refine blk_drewN ?_ _ | refine blk_drew ?_ | refine blk_alloc ?_ _)); refine blk_far ?_ NB508_521.out _; (with_reducible repeat (first | refine blk_drewN ?_ _ | refine blk_drew ?_ | refine blk_alloc ?_ _)); refine blk_far ?_ NB508_521.out _; (with_reducible repeat (first | refine blk_drewN ?_ _ | refine blk_drew ?_ | refine blk_alloc ?_ _)); refine blk_far ?_ NB508_521.out _; (with_reducible repeat (first | refine blk_drewN ?_ _ | refine blk_drew ?_ | refine blk_alloc ?_ _)); refine blk_far ?_ NB508_521.out _; (with_reducible repeat (first | refine blk_drewN ?_ _ | refine blk_drew ?_ | refine blk_alloc ?_ _)); refine blk_far ?_ NB508_521.out _; (with_reducible repeat (first | refine blk_drewN ?_ _ | refine blk_drew ?_ | refine blk_alloc ?_ _)); refine blk_far ?_ NB508_521.out _; (with_reducible repeat (first | refine blk_drewN ?_ _ | refine blk_drew ?_ | refine blk_alloc ?_ _)); refine blk_far ?_ NB508_521.out _; (with_reducible repeat (first | refine blk_drewN ?_ _ | refine blk_drew ?_ | refine blk_alloc ?_ _)); refine blk_far ?_ NB508_521.out _; (with_reducible repeat (first | refine blk_drewN ?_ _ | refine blk_drew ?_ | refine blk_alloc ?_ _)); exact BK508.out⟩, ⟨by (with_reducible repeat (first | refine blk_drewN ?_ _ | refine blk_drew ?_ | refine blk_alloc ?_ _)); refine blk_far ?_ NB509_521.out _; (with_reducible repeat (first | refine blk_drewN ?_ _ | refine blk_drew ?_ | refine blk_alloc ?_ _)); refine blk_far ?_ NB509_521.out _; (with_reducible repeat (first | refine blk_drewN ?_ _ | refine blk_drew ?_ | refine blk_alloc ?_ _)); refine blk_far ?_ NB509_521.out _; (with_reducible repeat (first | refine blk_drewN ?_ _ | refine blk_drew ?_ | refine blk_alloc ?_ _)); refine blk_far ?_ NB509_521.out _; (with_reducible repeat (first | refine blk_drewN ?_ _ | refine blk_drew ?_ | refine blk_alloc ?_ _)); refine blk_far ?_ NB509_521.out _; (with_reducible repeat (first | refine blk_drewN ?_ _ | refine blk_drew ?_ | refine blk_alloc ?_ _)); refine blk_far ?_ NB509_521.out _; (with_reducible repeat (first | refine blk_drewN ?_ _ | refine blk_drew ?_ | refine blk_alloc ?_ _)); refine blk_far ?_ NB509_521.out _; (with_reducible repeat (first | refine blk_drewN ?_ _ | refine blk_drew ?_ | refine blk_alloc ?_ _)); refine blk_far ?_ NB509_521.out _; (with_reducible repeat (first | refine blk_drewN ?_ _ | refine blk_drew ?_ | refine blk_alloc ?_ _)); refine blk_far ?_ NB509_521.out _; (with_reducible repeat (first | refine blk_drewN ?_ _ | refine blk_drew ?_ | refine blk_alloc ?_ _)); refine blk_far ?_ NB509_521.out _; (with_reducible repeat (first | refine blk_drewN ?_ _ | refine blk_drew ?_ | refine blk_alloc ?_ _)); refine blk_far ?_ NB509_521.out _; (with_reducible repeat (first | refine blk_drewN ?_ _ | refine blk_drew ?_ | refine blk_alloc ?_ _)); exact BK509.out⟩, ⟨by (with_reducible repeat (first | refine blk_drewN ?_ _ | refine blk_drew ?_ | refine blk_alloc ?_ _)); refine blk_put (cs := #[.bool t510, .bool t511, .bool true, .int .i64 t513, .int .i64 t514, .int .i64 t515, .int .i64 t516, .int .i64 t517, .int .i64 t518, .int .i64 t519, .int .i64 0]) ?_ 10 _ rfl; (with_reducible repeat (first | refine blk_drewN ?_ _ | refine blk_drew ?_ | refine blk_alloc ?_ _)); refine blk_put (cs := #[.bool t510, .bool t511, .bool true, .int .i64 t513, .int .i64 t514, .int .i64 t515, .int .i64 t516, .int .i64 t517, .int .i64 t518, .int .i64 0, .int .i64 0]) ?_ 9 _ rfl; (with_reducible repeat (first | refine blk_drewN ?_ _ | refine blk_drew ?_ | refine blk_alloc ?_ _)); refine blk_put (cs := #[.bool t510, .bool t511, .bool true, .int .i64 t513, .int .i64 t514, .int .i64 t515, .int .i64 t516, .int .i64 t517, .int .i64 0, .int .i64 0, .int .i64 0]) ?_ 8 _ rfl; (with_reducible repeat (first | refine blk_drewN ?_ _ | refine blk_drew ?_ | refine blk_alloc ?_ _)); refine blk_put (cs := #[.bool t510, .bool t511, .bool true, .int .i64 t513, .int .i64 t514, .int .i64 t515, .int .i64 t516, .int .i64 0, .int .i64 0, .int .i64 0, .int .i64 0]) ?_ 7 _ rfl; (with_reducible repeat (first | refine blk_drewN ?_ _ | refine blk_drew ?_ | refine blk_alloc ?_ _)); refine blk_put (cs := #[.bool t510, .bool t511, .bool true, .int .i64 t513, .int .i64 t514, .int .i64 t515, .int .i64 0, .int .i64 0, .int .i64 0, .int .i64 0, .int .i64 0]) ?_ 6 _ rfl; (with_reducible repeat (first | refine blk_drewN ?_ _ | refine blk_drew ?_ | refine blk_alloc ?_ _)); refine blk_put (cs := #[.bool t510, .bool t511, .bool true, .int .i64 t513, .int .i64 t514, .int .i64 0, .int .i64 0, .int .i64 0, .int .i64 0, .int .i64 0, .int .i64 0]) ?_ 5 _ rfl; (with_reducible repeat (first | refine blk_drewN ?_ _ | refine blk_drew ?_ | refine blk_alloc ?_ _)); refine blk_put (cs := #[.bool t510, .bool t511, .bool true, .int .i64 t513, .int .i64 0, .int .i64 0, .int .i64 0, .int .i64 0, .int .i64 0, .int .i64 0, .int .i64 0]) ?_ 4 _ rfl; (with_reducible repeat (first | refine blk_drewN ?_ _ | refine blk_drew ?_ | refine blk_alloc ?_ _)); refine blk_put (cs := #[.bool t510, .bool t511, .bool true, .int .i64 0, .int .i64 0, .int .i64 0, .int .i64 0, .int .i64 0, .int .i64 0, .int .i64 0, .int .i64 0]) ?_ 3 _ rfl; (with_reducible repeat (first | refine blk_drewN ?_ _ | refine blk_drew ?_ | refine blk_alloc ?_ _)); refine blk_put (cs := #[.bool t510, .bool t511, .bool false, .int .i64 0, .int .i64 0, .int .i64 0, .int .i64 0, .int .i64 0, .int .i64 0, .int .i64 0, .int .i64 0]) ?_ 2 _ rfl; (with_reducible repeat (first | refine blk_drewN ?_ _ | refine blk_drew ?_ | refine blk_alloc ?_ _)); refine blk_put (cs := #[.bool t510, .bool false, .bool false, .int .i64 0, .int .i64 0, .int .i64 0, .int .i64 0, .int .i64 0, .int .i64 0, .int .i64 0, .int .i64 0]) ?_ 1 _ rfl; (with_reducible repeat (first | refine blk_drewN ?_ _ | refine blk_drew ?_ | refine blk_alloc ?_ _)); refine blk_put (cs := #[.bool false, .bool false, .bool false, .int .i64 0, .int .i64 0, .int .i64 0, .int .i64 0, .int .i64 0, .int .i64 0, .int .i64 0, .int .i64 0]) ?_ 0 _ rfl; (with_reducible repeat (first | refine blk_drewN ?_ _ | refine blk_drew ?_ | refine blk_alloc ?_ _)); exact BK521.out⟩, ⟨by repeat (first | (with_reducible first | exact HB.out | apply below_alloc | apply pw_below_drewN | apply below_drew1 | refine below_set ?_ GE508.out | refine below_set ?_ GE509.out | refine below_set ?_ GE521.out) | exact HB.out)⟩⟩
  ·replace c17 := Bool.eq_false_iff.mpr c17
   subst c17
   have H1 : (biremeref14_Ahead.j0 k a3 (wrap64 (-(wrap64 (a2 - 1)))) (wrap64 (a2 - 1)) t510 t511 false t513 t514 t515 t516 t517 t518 t519 t520) = some (r1, r2) := by rw [if_neg (show ¬ (false = true) by decide)] at H; exact H
   clear H
   have H := H1
   clear H1
   have H' := Aside0.mk H
   clear H
   go_wp2
   repeat (go_quiet (fail); try go_wp2)
   go_meet
   case rel => exact ⟨_, (wrap64 (-(wrap64 (a2 - 1)))), (wrap64 (a2 - 1)), (by first | rfl | (simp; done) | (simp [*]; done)), (by first | rfl | (simp; done) | (simp [*]; done)), H', ⟨by first | omega | exact Nat.le_refl _⟩, ⟨by (with_reducible repeat (first | refine blk_drewN ?_ _ | refine blk_drew ?_ | refine blk_alloc ?_ _)); refine blk_far ?_ NB508_521.out _; (with_reducible repeat (first | refine blk_drewN ?_ _ | refine blk_drew ?_ | refine blk_alloc ?_ _)); refine blk_far ?_ NB508_521.out _; (with_reducible repeat (first | refine blk_drewN ?_ _ | refine blk_drew ?_ | refine blk_alloc ?_ _)); refine blk_far ?_ NB508_521.out _; (with_reducible repeat (first | refine blk_drewN ?_ _ | refine blk_drew ?_ | refine blk_alloc ?_ _)); refine blk_far ?_ NB508_521.out _; (with_reducible repeat (first | refine blk_drewN ?_ _ | refine blk_drew ?_ | refine blk_alloc ?_ _)); refine blk_far ?_ NB508_521.out _; (with_reducible repeat (first | refine blk_drewN ?_ _ | refine blk_drew ?_ | refine blk_alloc ?_ _)); refine blk_far ?_ NB508_521.out _; (with_reducible repeat (first | refine blk_drewN ?_ _ | refine blk_drew ?_ | refine blk_alloc ?_ _)); refine blk_far ?_ NB508_521.out _; (with_reducible repeat (first | refine blk_drewN ?_ _ | refine blk_drew ?_ | refine blk_alloc ?_ _)); refine blk_far ?_ NB508_521.out _; (with_reducible repeat (first | refine blk_drewN ?_ _ | refine blk_drew ?_ | refine blk_alloc ?_ _)); refine blk_far ?_ NB508_521.out _; (with_reducible repeat (first | refine blk_drewN ?_ _ | refine blk_drew ?_ | refine blk_alloc ?_ _)); refine blk_far ?_ NB508_521.out _; (with_reducible repeat (first | refine blk_drewN ?_ _ | refine blk_drew ?_ | refine blk_alloc ?_ _)); refine blk_far ?_ NB508_521.out _; (with_reducible repeat (first | refine blk_drewN ?_ _ | refine blk_drew ?_ | refine blk_alloc ?_ _)); exact BK508.out⟩, ⟨by (with_reducible repeat (first | refine blk_drewN ?_ _ | refine blk_drew ?_ | refine blk_alloc ?_ _)); refine blk_far ?_ NB509_521.out _; (with_reducible repeat (first | refine blk_drewN ?_ _ | refine blk_drew ?_ | refine blk_alloc ?_ _)); refine blk_far ?_ NB509_521.out _; (with_reducible repeat (first | refine blk_drewN ?_ _ | refine blk_drew ?_ | refine blk_alloc ?_ _)); refine blk_far ?_ NB509_521.out _; (with_reducible repeat (first | refine blk_drewN ?_ _ | refine blk_drew ?_ | refine blk_alloc ?_ _)); refine blk_far ?_ NB509_521.out _; (with_reducible repeat (first | refine blk_drewN ?_ _ | refine blk_drew ?_ | refine blk_alloc ?_ _)); refine blk_far ?_ NB509_521.out _; (with_reducible repeat (first | refine blk_drewN ?_ _ | refine blk_drew ?_ | refine blk_alloc ?_ _)); refine blk_far ?_ NB509_521.out _; (with_reducible repeat (first | refine blk_drewN ?_ _ | refine blk_drew ?_ | refine blk_alloc ?_ _)); refine blk_far ?_ NB509_521.out _; (with_reducible repeat (first | refine blk_drewN ?_ _ | refine blk_drew ?_ | refine blk_alloc ?_ _)); refine blk_far ?_ NB509_521.out _; (with_reducible repeat (first | refine blk_drewN ?_ _ | refine blk_drew ?_ | refine blk_alloc ?_ _)); refine blk_far ?_ NB509_521.out _; (with_reducible repeat (first | refine blk_drewN ?_ _ | refine blk_drew ?_ | refine blk_alloc ?_ _)); refine blk_far ?_ NB509_521.out _; (with_reducible repeat (first | refine blk_drewN ?_ _ | refine blk_drew ?_ | refine blk_alloc ?_ _)); refine blk_far ?_ NB509_521.out _; (with_reducible repeat (first | refine blk_drewN ?_ _ | refine blk_drew ?_ | refine blk_alloc ?_ _)); exact BK509.out⟩, ⟨by (with_reducible repeat (first | refine blk_drewN ?_ _ | refine blk_drew ?_ | refine blk_alloc ?_ _)); refine blk_put (cs := #[.bool t510, .bool t511, .bool false, .int .i64 t513, .int .i64 t514, .int .i64 t515, .int .i64 t516, .int .i64 t517, .int .i64 t518, .int .i64 t519, .int .i64 0]) ?_ 10 _ rfl; (with_reducible repeat (first | refine blk_drewN ?_ _ | refine blk_drew ?_ | refine blk_alloc ?_ _)); refine blk_put (cs := #[.bool t510, .bool t511, .bool false, .int .i64 t513, .int .i64 t514, .int .i64 t515, .int .i64 t516, .int .i64 t517, .int .i64 t518, .int .i64 0, .int .i64 0]) ?_ 9 _ rfl; (with_reducible repeat (first | refine blk_drewN ?_ _ | refine blk_drew ?_ | refine blk_alloc ?_ _)); refine blk_put (cs := #[.bool t510, .bool t511, .bool false, .int .i64 t513, .int .i64 t514, .int .i64 t515, .int .i64 t516, .int .i64 t517, .int .i64 0, .int .i64 0, .int .i64 0]) ?_ 8 _ rfl; (with_reducible repeat (first | refine blk_drewN ?_ _ | refine blk_drew ?_ | refine blk_alloc ?_ _)); refine blk_put (cs := #[.bool t510, .bool t511, .bool false, .int .i64 t513, .int .i64 t514, .int .i64 t515, .int .i64 t516, .int .i64 0, .int .i64 0, .int .i64 0, .int .i64 0]) ?_ 7 _ rfl; (with_reducible repeat (first | refine blk_drewN ?_ _ | refine blk_drew ?_ | refine blk_alloc ?_ _)); refine blk_put (cs := #[.bool t510, .bool t511, .bool false, .int .i64 t513, .int .i64 t514, .int .i64 t515, .int .i64 0, .int .i64 0, .int .i64 0, .int .i64 0, .int .i64 0]) ?_ 6 _ rfl; (with_reducible repeat (first | refine blk_drewN ?_ _ | refine blk_drew ?_ | refine blk_alloc ?_ _)); refine blk_put (cs := #[.bool t510, .bool t511, .bool false, .int .i64 t513, .int .i64 t514, .int .i64 0, .int .i64 0, .int .i64 0, .int .i64 0, .int .i64 0, .int .i64 0]) ?_ 5 _ rfl; (with_reducible repeat (first | refine blk_drewN ?_ _ | refine blk_drew ?_ | refine blk_alloc ?_ _)); refine blk_put (cs := #[.bool t510, .bool t511, .bool false, .int .i64 t513, .int .i64 0, .int .i64 0, .int .i64 0, .int .i64 0, .int .i64 0, .int .i64 0, .int .i64 0]) ?_ 4 _ rfl; (with_reducible repeat (first | refine blk_drewN ?_ _ | refine blk_drew ?_ | refine blk_alloc ?_ _)); refine blk_put (cs := #[.bool t510, .bool t511, .bool false, .int .i64 0, .int .i64 0, .int .i64 0, .int .i64 0, .int .i64 0, .int .i64 0, .int .i64 0, .int .i64 0]) ?_ 3 _ rfl; (with_reducible repeat (first | refine blk_drewN ?_ _ | refine blk_drew ?_ | refine blk_alloc ?_ _)); refine blk_put (cs := #[.bool t510, .bool t511, .bool false, .int .i64 0, .int .i64 0, .int .i64 0, .int .i64 0, .int .i64 0, .int .i64 0, .int .i64 0, .int .i64 0]) ?_ 2 _ rfl; (with_reducible repeat (first | refine blk_drewN ?_ _ | refine blk_drew ?_ | refine blk_alloc ?_ _)); refine blk_put (cs := #[.bool t510, .bool false, .bool false, .int .i64 0, .int .i64 0, .int .i64 0, .int .i64 0, .int .i64 0, .int .i64 0, .int .i64 0, .int .i64 0]) ?_ 1 _ rfl; (with_reducible repeat (first | refine blk_drewN ?_ _ | refine blk_drew ?_ | refine blk_alloc ?_ _)); refine blk_put (cs := #[.bool false, .bool false, .bool false, .int .i64 0, .int .i64 0, .int .i64 0, .int .i64 0, .int .i64 0, .int .i64 0, .int .i64 0, .int .i64 0]) ?_ 0 _ rfl; (with_reducible repeat (first | refine blk_drewN ?_ _ | refine blk_drew ?_ | refine blk_alloc ?_ _)); exact BK521.out⟩, ⟨by repeat (first | (with_reducible first | exact HB.out | apply below_alloc | apply pw_below_drewN | apply below_drew1 | refine below_set ?_ GE508.out | refine below_set ?_ GE509.out | refine below_set ?_ GE521.out) | exact HB.out)⟩⟩
 case rest =>
  clear HC6
  try clear c1
  try clear c2
  try clear p2
  try clear p6
  try clear c9
  try clear c14
  try clear c15
  try clear c17
  try clear c18
  try clear c19
  try clear hcz10_0
  try clear hcz10_1
  try clear hcz11_0
  try clear hcz11_1
  try clear hcz16_0
  try clear hcz16_1
  try clear hcz16_10
  try clear hcz16_2
  try clear hcz16_3
  try clear hcz16_4
  try clear hcz16_5
  try clear hcz16_6
  try clear hcz16_7
  try clear hcz16_8
  try clear hcz16_9
  try clear hcz20_0
  try clear hcz20_1
  try clear hcz20_10
  try clear hcz20_2
  try clear hcz20_3
  try clear hcz20_4
  try clear hcz20_5
  try clear hcz20_6
  try clear hcz20_7
  try clear hcz20_8
  try clear hcz20_9
  try clear hfz10_0
  try clear hfz10_1
  try clear hfz11_0
  try clear hfz11_1
  try clear hfz16_0
  try clear hfz16_1
  try clear hfz16_10
  try clear hfz16_2
  try clear hfz16_3
  try clear hfz16_4
  try clear hfz16_5
  try clear hfz16_6
  try clear hfz16_7
  try clear hfz16_8
  try clear hfz16_9
  try clear hfz20_0
  try clear hfz20_1
  try clear hfz20_10
  try clear hfz20_2
  try clear hfz20_3
  try clear hfz20_4
  try clear hfz20_5
  try clear hfz20_6
  try clear hfz20_7
  try clear hfz20_8
  try clear hfz20_9
  obtain ⟨kq, x11_5, x12_5, rfl, rfl, HA, HJ5, BK508, BK509, BK521, HB⟩ := hcut
  cases kq with
  | zero => exact absurd HA.out (by simp [biremeref14_Ahead.j0])
  | succ kj5 =>
   have H := HA.out
   clear HA
   simp only [biremeref14_Ahead.j0] at H
   by_cases c21 : t510 = true
   ·subst c21
    have H1 : (some (0, false)) = some (r1, r2) := by rw [if_pos rfl] at H; exact H
    clear H
    have H := H1
    clear H1
    simp only [Option.some.injEq, Prod.mk.injEq] at H
    obtain ⟨rfl, rfl⟩ := H
    have hnb22 := NB521_508.out
    have hnc22 := NB508_521.out
    have hnb23 := NB521_509.out
    have hnc23 := NB509_521.out
    have hcz24_0 : wc.cell? ⟨gb521, 0, none⟩ = some (.bool true) := (blk_cell BK521.out 0).trans rfl
    have hcz24_1 : wc.cell? ⟨gb521, 1, none⟩ = some (.bool t511) := (blk_cell BK521.out 1).trans rfl
    have hcz24_2 : wc.cell? ⟨gb521, 2, none⟩ = some (.bool t512) := (blk_cell BK521.out 2).trans rfl
    have hcz24_3 : wc.cell? ⟨gb521, 3, none⟩ = some (.int .i64 t513) := (blk_cell BK521.out 3).trans rfl
    have hcz24_4 : wc.cell? ⟨gb521, 4, none⟩ = some (.int .i64 t514) := (blk_cell BK521.out 4).trans rfl
    have hcz24_5 : wc.cell? ⟨gb521, 5, none⟩ = some (.int .i64 t515) := (blk_cell BK521.out 5).trans rfl
    have hcz24_6 : wc.cell? ⟨gb521, 6, none⟩ = some (.int .i64 t516) := (blk_cell BK521.out 6).trans rfl
    have hcz24_7 : wc.cell? ⟨gb521, 7, none⟩ = some (.int .i64 t517) := (blk_cell BK521.out 7).trans rfl
    have hcz24_8 : wc.cell? ⟨gb521, 8, none⟩ = some (.int .i64 t518) := (blk_cell BK521.out 8).trans rfl
    have hcz24_9 : wc.cell? ⟨gb521, 9, none⟩ = some (.int .i64 t519) := (blk_cell BK521.out 9).trans rfl
    have hcz24_10 : wc.cell? ⟨gb521, 10, none⟩ = some (.int .i64 t520) := (blk_cell BK521.out 10).trans rfl
    have hfz24_0 := blk_frozen BK521.out 0
    have hfz24_1 := blk_frozen BK521.out 1
    have hfz24_2 := blk_frozen BK521.out 2
    have hfz24_3 := blk_frozen BK521.out 3
    have hfz24_4 := blk_frozen BK521.out 4
    have hfz24_5 := blk_frozen BK521.out 5
    have hfz24_6 := blk_frozen BK521.out 6
    have hfz24_7 := blk_frozen BK521.out 7
    have hfz24_8 := blk_frozen BK521.out 8
    have hfz24_9 := blk_frozen BK521.out 9
    have hfz24_10 := blk_frozen BK521.out 10
    go_wp2
    repeat (go_quiet (fail); try go_wp2)
    go_ret2
    exact ⟨by first | rfl | (simp [errW_none, errW_some] <;> rfl) | (simp [*, errW_none, errW_some] <;> rfl), by repeat (first | (with_reducible first | exact HB.out | apply below_alloc | apply pw_below_drewN | apply below_drew1 | refine below_set ?_ GE508.out | refine below_set ?_ GE509.out | refine below_set ?_ GE521.out) | exact HB.out)⟩
   ·replace c21 := Bool.eq_false_iff.mpr c21
    subst c21
    have H1 : (if t511 = true then (biremeref14_Ahead.j1 kj5 a3 x11_5 x12_5 true false t511 t512 t513 t514 t515 t516 t517 t518 t519 t520) else (biremeref14_Ahead.j1 kj5 a3 x11_5 x12_5 t512 false t511 t512 t513 t514 t515 t516 t517 t518 t519 t520)) = some (r1, r2) := by rw [if_neg (show ¬ (false = true) by decide)] at H; exact H
    clear H
    have H := H1
    clear H1
    have HC25 := Aside0.mk H
    clear H
    have hnb26 := NB521_508.out
    have hnc26 := NB508_521.out
    have hnb27 := NB521_509.out
    have hnc27 := NB509_521.out
    have hcz28_0 : wc.cell? ⟨gb521, 0, none⟩ = some (.bool false) := (blk_cell BK521.out 0).trans rfl
    have hcz28_1 : wc.cell? ⟨gb521, 1, none⟩ = some (.bool t511) := (blk_cell BK521.out 1).trans rfl
    have hcz28_2 : wc.cell? ⟨gb521, 2, none⟩ = some (.bool t512) := (blk_cell BK521.out 2).trans rfl
    have hcz28_3 : wc.cell? ⟨gb521, 3, none⟩ = some (.int .i64 t513) := (blk_cell BK521.out 3).trans rfl
    have hcz28_4 : wc.cell? ⟨gb521, 4, none⟩ = some (.int .i64 t514) := (blk_cell BK521.out 4).trans rfl
    have hcz28_5 : wc.cell? ⟨gb521, 5, none⟩ = some (.int .i64 t515) := (blk_cell BK521.out 5).trans rfl
    have hcz28_6 : wc.cell? ⟨gb521, 6, none⟩ = some (.int .i64 t516) := (blk_cell BK521.out 6).trans rfl
    have hcz28_7 : wc.cell? ⟨gb521, 7, none⟩ = some (.int .i64 t517) := (blk_cell BK521.out 7).trans rfl
    have hcz28_8 : wc.cell? ⟨gb521, 8, none⟩ = some (.int .i64 t518) := (blk_cell BK521.out 8).trans rfl
    have hcz28_9 : wc.cell? ⟨gb521, 9, none⟩ = some (.int .i64 t519) := (blk_cell BK521.out 9).trans rfl
    have hcz28_10 : wc.cell? ⟨gb521, 10, none⟩ = some (.int .i64 t520) := (blk_cell BK521.out 10).trans rfl
    have hfz28_0 := blk_frozen BK521.out 0
    have hfz28_1 := blk_frozen BK521.out 1
    have hfz28_2 := blk_frozen BK521.out 2
    have hfz28_3 := blk_frozen BK521.out 3
    have hfz28_4 := blk_frozen BK521.out 4
    have hfz28_5 := blk_frozen BK521.out 5
    have hfz28_6 := blk_frozen BK521.out 6
    have hfz28_7 := blk_frozen BK521.out 7
    have hfz28_8 := blk_frozen BK521.out 8
    have hfz28_9 := blk_frozen BK521.out 9
    have hfz28_10 := blk_frozen BK521.out 10
    go_upto_region 8 with (fail)
    repeat (go_quiet (fail); go_upto_region 8 with (fail))
    go_cut [41] (fun v41 wc => ∃ (kq : Nat) (x41_24 : Bool), v41 = .bool x41_24 ∧ Aside0 (biremeref14_Ahead.j1 kq a3 x11_5 x12_5 x41_24 false t511 t512 t513 t514 t515 t516 t517 t518 t519 t520 = some (r1, r2)) ∧ Aside0 (kq ≤ kj5) ∧ Aside0 (wc.heap[gb508]? = some (.cells #[.int .i64 a0_0, .int .i64 a0_1] 33 (0, 0))) ∧ Aside0 (wc.heap[gb509]? = some (.cells #[.int .i64 a1_0, .int .i64 a1_1] 33 (0, 0))) ∧ Aside0 (wc.heap[gb521]? = some (.cells #[.bool false, .bool t511, .bool t512, .int .i64 t513, .int .i64 t514, .int .i64 t515, .int .i64 t516, .int .i64 t517, .int .i64 t518, .int .i64 t519, .int .i64 t520] 75 (0, 0))) ∧ Aside0 (Below w.heap.size w wc))
    case first =>
     have H := HC25.out
     clear HC25
     by_cases c29 : t511 = true
     ·subst c29
      have H1 : (biremeref14_Ahead.j1 kj5 a3 x11_5 x12_5 true false true t512 t513 t514 t515 t516 t517 t518 t519 t520) = some (r1, r2) := by rw [if_pos rfl] at H; exact H
      clear H
      have H := H1
      clear H1
      have H' := Aside0.mk H
      clear H
      have hnb30 := NB521_508.out
      have hnc30 := NB508_521.out
      have hnb31 := NB521_509.out
      have hnc31 := NB509_521.out
      have hcz32_0 : wc.cell? ⟨gb521, 0, none⟩ = some (.bool false) := (blk_cell BK521.out 0).trans rfl
      have hcz32_1 : wc.cell? ⟨gb521, 1, none⟩ = some (.bool true) := (blk_cell BK521.out 1).trans rfl
      have hcz32_2 : wc.cell? ⟨gb521, 2, none⟩ = some (.bool t512) := (blk_cell BK521.out 2).trans rfl
      have hcz32_3 : wc.cell? ⟨gb521, 3, none⟩ = some (.int .i64 t513) := (blk_cell BK521.out 3).trans rfl
      have hcz32_4 : wc.cell? ⟨gb521, 4, none⟩ = some (.int .i64 t514) := (blk_cell BK521.out 4).trans rfl
      have hcz32_5 : wc.cell? ⟨gb521, 5, none⟩ = some (.int .i64 t515) := (blk_cell BK521.out 5).trans rfl
      have hcz32_6 : wc.cell? ⟨gb521, 6, none⟩ = some (.int .i64 t516) := (blk_cell BK521.out 6).trans rfl
      have hcz32_7 : wc.cell? ⟨gb521, 7, none⟩ = some (.int .i64 t517) := (blk_cell BK521.out 7).trans rfl
      have hcz32_8 : wc.cell? ⟨gb521, 8, none⟩ = some (.int .i64 t518) := (blk_cell BK521.out 8).trans rfl
      have hcz32_9 : wc.cell? ⟨gb521, 9, none⟩ = some (.int .i64 t519) := (blk_cell BK521.out 9).trans rfl
      have hcz32_10 : wc.cell? ⟨gb521, 10, none⟩ = some (.int .i64 t520) := (blk_cell BK521.out 10).trans rfl
      have hfz32_0 := blk_frozen BK521.out 0
      have hfz32_1 := blk_frozen BK521.out 1
      have hfz32_2 := blk_frozen BK521.out 2
      have hfz32_3 := blk_frozen BK521.out 3
      have hfz32_4 := blk_frozen BK521.out 4
      have hfz32_5 := blk_frozen BK521.out 5
      have hfz32_6 := blk_frozen BK521.out 6
      have hfz32_7 := blk_frozen BK521.out 7
      have hfz32_8 := blk_frozen BK521.out 8
      have hfz32_9 := blk_frozen BK521.out 9
      have hfz32_10 := blk_frozen BK521.out 10
      go_wp2
      repeat (go_quiet (fail); try go_wp2)
      go_meet
      case rel => exact ⟨_, (true), (by first | rfl | (simp; done) | (simp [*]; done)), H', ⟨by have := HJ5.out; first | omega | exact Nat.le_refl _⟩, ⟨by (with_reducible repeat (first | refine blk_drewN ?_ _ | refine blk_drew ?_ | refine blk_alloc ?_ _)); exact BK508.out⟩, ⟨by (with_reducible repeat (first | refine blk_drewN ?_ _ | refine blk_drew ?_ | refine blk_alloc ?_ _)); exact BK509.out⟩, ⟨by (with_reducible repeat (first | refine blk_drewN ?_ _ | refine blk_drew ?_ | refine blk_alloc ?_ _)); exact BK521.out⟩, ⟨by repeat (first | (with_reducible first | exact HB.out | apply below_alloc | apply pw_below_drewN | apply below_drew1 | refine below_set ?_ GE508.out | refine below_set ?_ GE509.out | refine below_set ?_ GE521.out) | exact HB.out)⟩⟩
     ·replace c29 := Bool.eq_false_iff.mpr c29
      subst c29
      have H1 : (biremeref14_Ahead.j1 kj5 a3 x11_5 x12_5 t512 false false t512 t513 t514 t515 t516 t517 t518 t519 t520) = some (r1, r2) := by rw [if_neg (show ¬ (false = true) by decide)] at H; exact H
      clear H
      have H := H1
      clear H1
      have H' := Aside0.mk H
      clear H
      have hnb33 := NB521_508.out
      have hnc33 := NB508_521.out
      have hnb34 := NB521_509.out
      have hnc34 := NB509_521.out
      have hcz35_0 : wc.cell? ⟨gb521, 0, none⟩ = some (.bool false) := (blk_cell BK521.out 0).trans rfl
      have hcz35_1 : wc.cell? ⟨gb521, 1, none⟩ = some (.bool false) := (blk_cell BK521.out 1).trans rfl
      have hcz35_2 : wc.cell? ⟨gb521, 2, none⟩ = some (.bool t512) := (blk_cell BK521.out 2).trans rfl
      have hcz35_3 : wc.cell? ⟨gb521, 3, none⟩ = some (.int .i64 t513) := (blk_cell BK521.out 3).trans rfl
      have hcz35_4 : wc.cell? ⟨gb521, 4, none⟩ = some (.int .i64 t514) := (blk_cell BK521.out 4).trans rfl
      have hcz35_5 : wc.cell? ⟨gb521, 5, none⟩ = some (.int .i64 t515) := (blk_cell BK521.out 5).trans rfl
      have hcz35_6 : wc.cell? ⟨gb521, 6, none⟩ = some (.int .i64 t516) := (blk_cell BK521.out 6).trans rfl
      have hcz35_7 : wc.cell? ⟨gb521, 7, none⟩ = some (.int .i64 t517) := (blk_cell BK521.out 7).trans rfl
      have hcz35_8 : wc.cell? ⟨gb521, 8, none⟩ = some (.int .i64 t518) := (blk_cell BK521.out 8).trans rfl
      have hcz35_9 : wc.cell? ⟨gb521, 9, none⟩ = some (.int .i64 t519) := (blk_cell BK521.out 9).trans rfl
      have hcz35_10 : wc.cell? ⟨gb521, 10, none⟩ = some (.int .i64 t520) := (blk_cell BK521.out 10).trans rfl
      have hfz35_0 := blk_frozen BK521.out 0
      have hfz35_1 := blk_frozen BK521.out 1
      have hfz35_2 := blk_frozen BK521.out 2
      have hfz35_3 := blk_frozen BK521.out 3
      have hfz35_4 := blk_frozen BK521.out 4
      have hfz35_5 := blk_frozen BK521.out 5
      have hfz35_6 := blk_frozen BK521.out 6
      have hfz35_7 := blk_frozen BK521.out 7
      have hfz35_8 := blk_frozen BK521.out 8
      have hfz35_9 := blk_frozen BK521.out 9
      have hfz35_10 := blk_frozen BK521.out 10
      go_wp2
      repeat (go_quiet (fail); try go_wp2)
      go_meet
      case rel => exact ⟨_, (t512), (by first | rfl | (simp; done) | (simp [*]; done)), H', ⟨by have := HJ5.out; first | omega | exact Nat.le_refl _⟩, ⟨by (with_reducible repeat (first | refine blk_drewN ?_ _ | refine blk_drew ?_ | refine blk_alloc ?_ _)); exact BK508.out⟩, ⟨by (with_reducible repeat (first | refine blk_drewN ?_ _ | refine blk_drew ?_ | refine blk_alloc ?_ _)); exact BK509.out⟩, ⟨by (with_reducible repeat (first | refine blk_drewN ?_ _ | refine blk_drew ?_ | refine blk_alloc ?_ _)); exact BK521.out⟩, ⟨by repeat (first | (with_reducible first | exact HB.out | apply below_alloc | apply pw_below_drewN | apply below_drew1 | refine below_set ?_ GE508.out | refine below_set ?_ GE509.out | refine below_set ?_ GE521.out) | exact HB.out)⟩⟩
    case rest =>
     clear HC25
     try clear c1
     try clear c2
     try clear p2
     try clear c3
     try clear p6
     try clear c9
     try clear c14
     try clear c15
     try clear c17
     try clear c18
     try clear c19
     try clear c21
     try clear c22
     try clear c23
     try clear c26
     try clear c27
     try clear c29
     try clear c30
     try clear c31
     try clear c33
     try clear c34
     try clear hcz10_0
     try clear hcz10_1
     try clear hcz11_0
     try clear hcz11_1
     try clear hcz16_0
     try clear hcz16_1
     try clear hcz16_10
     try clear hcz16_2
     try clear hcz16_3
     try clear hcz16_4
     try clear hcz16_5
     try clear hcz16_6
     try clear hcz16_7
     try clear hcz16_8
     try clear hcz16_9
     try clear hcz20_0
     try clear hcz20_1
     try clear hcz20_10
     try clear hcz20_2
     try clear hcz20_3
     try clear hcz20_4
     try clear hcz20_5
     try clear hcz20_6
     try clear hcz20_7
     try clear hcz20_8
     try clear hcz20_9
     try clear hcz24_0
     try clear hcz24_1
     try clear hcz24_10
     try clear hcz24_2
     try clear hcz24_3
     try clear hcz24_4
     try clear hcz24_5
     try clear hcz24_6
     try clear hcz24_7
     try clear hcz24_8
     try clear hcz24_9
     try clear hcz28_0
     try clear hcz28_1
     try clear hcz28_10
     try clear hcz28_2
     try clear hcz28_3
     try clear hcz28_4
     try clear hcz28_5
     try clear hcz28_6
     try clear hcz28_7
     try clear hcz28_8
     try clear hcz28_9
     try clear hcz32_0
     try clear hcz32_1
     try clear hcz32_10
     try clear hcz32_2
     try clear hcz32_3
     try clear hcz32_4
     try clear hcz32_5
     try clear hcz32_6
     try clear hcz32_7
     try clear hcz32_8
     try clear hcz32_9
     try clear hcz35_0
     try clear hcz35_1
     try clear hcz35_10
     try clear hcz35_2
     try clear hcz35_3
     try clear hcz35_4
     try clear hcz35_5
     try clear hcz35_6
     try clear hcz35_7
     try clear hcz35_8
     try clear hcz35_9
     try clear hfz10_0
     try clear hfz10_1
     try clear hfz11_0
     try clear hfz11_1
     try clear hfz16_0
     try clear hfz16_1
     try clear hfz16_10
     try clear hfz16_2
     try clear hfz16_3
     try clear hfz16_4
     try clear hfz16_5
     try clear hfz16_6
     try clear hfz16_7
     try clear hfz16_8
     try clear hfz16_9
     try clear hfz20_0
     try clear hfz20_1
     try clear hfz20_10
     try clear hfz20_2
     try clear hfz20_3
     try clear hfz20_4
     try clear hfz20_5
     try clear hfz20_6
     try clear hfz20_7
     try clear hfz20_8
     try clear hfz20_9
     try clear hfz24_0
     try clear hfz24_1
     try clear hfz24_10
     try clear hfz24_2
     try clear hfz24_3
     try clear hfz24_4
     try clear hfz24_5
     try clear hfz24_6
     try clear hfz24_7
     try clear hfz24_8
     try clear hfz24_9
     try clear hfz28_0
     try clear hfz28_1
     try clear hfz28_10
     try clear hfz28_2
     try clear hfz28_3
     try clear hfz28_4
     try clear hfz28_5
     try clear hfz28_6
     try clear hfz28_7
     try clear hfz28_8
     try clear hfz28_9
     try clear hfz32_0
     try clear hfz32_1
     try clear hfz32_10
     try clear hfz32_2
     try clear hfz32_3
     try clear hfz32_4
     try clear hfz32_5
     try clear hfz32_6
     try clear hfz32_7
     try clear hfz32_8
     try clear hfz32_9
     try clear hfz35_0
     try clear hfz35_1
     try clear hfz35_10
     try clear hfz35_2
     try clear hfz35_3
     try clear hfz35_4
     try clear hfz35_5
     try clear hfz35_6
     try clear hfz35_7
     try clear hfz35_8
     try clear hfz35_9
     try clear p2
     try clear p6
     obtain ⟨kq, x41_24, rfl, HA, HJ24, BK508, BK509, BK521, HB⟩ := hcut
     cases kq with
     | zero => exact absurd HA.out (by simp [biremeref14_Ahead.j1])
     | succ kj24 =>
      have H := HA.out
      clear HA
      simp only [biremeref14_Ahead.j1] at H
      by_cases c36 : x41_24 = true
      ·subst c36
       have H1 : (if (mx x11_5 a3) > x12_5 then (some (0, false)) else (some (mx x11_5 a3, true))) = some (r1, r2) := by rw [if_pos rfl] at H; exact H
       clear H
       have H := H1
       clear H1
       obtain ⟨ji37, hji37⟩ : ∃ j_ : Int, (mx x11_5 a3) = j_ := ⟨_, rfl⟩
       replace H : (if (ji37) > x12_5 then (some (0, false)) else (some (ji37, true))) = some (r1, r2) := by first | (rw [hji37] at H; exact H) | (simp only [hji37] at H ⊢; exact H)
       have hji37_ : (if x11_5 < a3 then a3 else x11_5) = ji37 := hji37
       by_cases c38 : (ji37) > x12_5
       ·rw [if_pos c38] at H
        have c38b0 : decide (x12_5 < (ji37)) = true := decide_eq_true c38
        clear c38
        simp only [Option.some.injEq, Prod.mk.injEq] at H
        obtain ⟨rfl, rfl⟩ := H
        go_wp2
        repeat (go_quiet (fail); try go_wp2)
        go_ret2
        exact ⟨by first | rfl | (simp [errW_none, errW_some] <;> rfl) | (simp only [← hji37]; first | rfl | (simp [errW_none, errW_some] <;> rfl)) | (simp [*, errW_none, errW_some] <;> rfl), by repeat (first | (with_reducible first | exact HB.out | apply below_alloc | apply pw_below_drewN | apply below_drew1 | refine below_set ?_ GE508.out | refine below_set ?_ GE509.out | refine below_set ?_ GE521.out) | exact HB.out)⟩
       ·rw [if_neg c38] at H
        have c38b0 : decide (x12_5 < (ji37)) = false := decide_eq_false c38
        clear c38
        simp only [Option.some.injEq, Prod.mk.injEq] at H
        obtain ⟨rfl, rfl⟩ := H
        go_wp2
        repeat (go_quiet (fail); try go_wp2)
        go_ret2
        exact ⟨by first | rfl | (simp [errW_none, errW_some] <;> rfl) | (simp only [← hji37]; first | rfl | (simp [errW_none, errW_some] <;> rfl)) | (simp [*, errW_none, errW_some] <;> rfl), by repeat (first | (with_reducible first | exact HB.out | apply below_alloc | apply pw_below_drewN | apply below_drew1 | refine below_set ?_ GE508.out | refine below_set ?_ GE509.out | refine below_set ?_ GE521.out) | exact HB.out)⟩
      ·replace c36 := Bool.eq_false_iff.mpr c36
       subst c36
       have H1 : (if (wrap64 (t516 - t514)) > 0 then ((biremeref14_up.f (wrap64 (a3 - (wrap64 (t515 - t513)))) (wrap64 (t516 - t514))).bind fun t522 => (if (mx t517 t522) < t517 then (some (0, false)) else (if (mx t517 t522) > t518 then (some (0, false)) else (if (wrap64 ((wrap64 (t515 - t513)) + (wrap64 ((wrap64 (t516 - t514)) * (mx t517 t522))))) < a3 then (some (0, false)) else (some (wrap64 ((wrap64 (t515 - t513)) + (wrap64 ((wrap64 (t516 - t514)) * (mx t517 t522)))), true)))))) else (if (wrap64 (t516 - t514)) < 0 then ((biremeref14_down.f (wrap64 ((wrap64 (t515 - t513)) - a3)) (wrap64 (-(wrap64 (t516 - t514))))).bind fun t523 => (if (mn t518 t523) < t517 then (some (0, false)) else (if (mn t518 t523) > t518 then (some (0, false)) else (if (wrap64 ((wrap64 (t515 - t513)) + (wrap64 ((wrap64 (t516 - t514)) * (mn t518 t523))))) < a3 then (some (0, false)) else (some (wrap64 ((wrap64 (t515 - t513)) + (wrap64 ((wrap64 (t516 - t514)) * (mn t518 t523)))), true)))))) else (if t517 < t517 then (some (0, false)) else (if t517 > t518 then (some (0, false)) else (if (wrap64 ((wrap64 (t515 - t513)) + (wrap64 ((wrap64 (t516 - t514)) * t517)))) < a3 then (some (0, false)) else (some (wrap64 ((wrap64 (t515 - t513)) + (wrap64 ((wrap64 (t516 - t514)) * t517))), true))))))) = some (r1, r2) := by rw [if_neg (show ¬ (false = true) by decide)] at H; exact H
       clear H
       have H := H1
       clear H1
       by_cases c39 : (wrap64 (t516 - t514)) > 0
       ·rw [if_pos c39] at H
        have c39b0 : decide (0 < (wrap64 (t516 - t514))) = true := decide_eq_true c39
        clear c39
        replace H := Option.bind_eq_some_iff.mp H
        obtain ⟨t522, A400, H⟩ := H
        replace H : (if (mx t517 t522) < t517 then (some (0, false)) else (if (mx t517 t522) > t518 then (some (0, false)) else (if (wrap64 ((wrap64 (t515 - t513)) + (wrap64 ((wrap64 (t516 - t514)) * (mx t517 t522))))) < a3 then (some (0, false)) else (some (wrap64 ((wrap64 (t515 - t513)) + (wrap64 ((wrap64 (t516 - t514)) * (mx t517 t522)))), true))))) = some (r1, r2) := H
        have A40 := Aside0.mk A400
        clear A400
        obtain ⟨ji41, hji41⟩ : ∃ j_ : Int, (mx t517 t522) = j_ := ⟨_, rfl⟩
        replace H : (if (ji41) < t517 then (some (0, false)) else (if (ji41) > t518 then (some (0, false)) else (if (wrap64 ((wrap64 (t515 - t513)) + (wrap64 ((wrap64 (t516 - t514)) * (ji41))))) < a3 then (some (0, false)) else (some (wrap64 ((wrap64 (t515 - t513)) + (wrap64 ((wrap64 (t516 - t514)) * (ji41)))), true))))) = some (r1, r2) := by first | (rw [hji41] at H; exact H) | (simp only [hji41] at H ⊢; exact H)
        (try rw [hji41] at A40)
        have hji41_ : (if t517 < t522 then t522 else t517) = ji41 := hji41
        by_cases c42 : (ji41) < t517
        ·rw [if_pos c42] at H
         have c42b0 : decide ((ji41) < t517) = true := decide_eq_true c42
         clear c42
         simp only [Option.some.injEq, Prod.mk.injEq] at H
         obtain ⟨rfl, rfl⟩ := H
         have hnb43 := NB521_508.out
         have hnc43 := NB508_521.out
         have hnb44 := NB521_509.out
         have hnc44 := NB509_521.out
         have hcz45_0 : wc.cell? ⟨gb521, 0, none⟩ = some (.bool false) := (blk_cell BK521.out 0).trans rfl
         have hcz45_1 : wc.cell? ⟨gb521, 1, none⟩ = some (.bool t511) := (blk_cell BK521.out 1).trans rfl
         have hcz45_2 : wc.cell? ⟨gb521, 2, none⟩ = some (.bool t512) := (blk_cell BK521.out 2).trans rfl
         have hcz45_3 : wc.cell? ⟨gb521, 3, none⟩ = some (.int .i64 t513) := (blk_cell BK521.out 3).trans rfl
         have hcz45_4 : wc.cell? ⟨gb521, 4, none⟩ = some (.int .i64 t514) := (blk_cell BK521.out 4).trans rfl
         have hcz45_5 : wc.cell? ⟨gb521, 5, none⟩ = some (.int .i64 t515) := (blk_cell BK521.out 5).trans rfl
         have hcz45_6 : wc.cell? ⟨gb521, 6, none⟩ = some (.int .i64 t516) := (blk_cell BK521.out 6).trans rfl
         have hcz45_7 : wc.cell? ⟨gb521, 7, none⟩ = some (.int .i64 t517) := (blk_cell BK521.out 7).trans rfl
         have hcz45_8 : wc.cell? ⟨gb521, 8, none⟩ = some (.int .i64 t518) := (blk_cell BK521.out 8).trans rfl
         have hcz45_9 : wc.cell? ⟨gb521, 9, none⟩ = some (.int .i64 t519) := (blk_cell BK521.out 9).trans rfl
         have hcz45_10 : wc.cell? ⟨gb521, 10, none⟩ = some (.int .i64 t520) := (blk_cell BK521.out 10).trans rfl
         have hfz45_0 := blk_frozen BK521.out 0
         have hfz45_1 := blk_frozen BK521.out 1
         have hfz45_2 := blk_frozen BK521.out 2
         have hfz45_3 := blk_frozen BK521.out 3
         have hfz45_4 := blk_frozen BK521.out 4
         have hfz45_5 := blk_frozen BK521.out 5
         have hfz45_6 := blk_frozen BK521.out 6
         have hfz45_7 := blk_frozen BK521.out 7
         have hfz45_8 := blk_frozen BK521.out 8
         have hfz45_9 := blk_frozen BK521.out 9
         have hfz45_10 := blk_frozen BK521.out 10
         go_wp2_with (first | (go_at_call 43; (with_reducible refine (biremeref14_up.calls (wrap64 (a3 - (wrap64 (t515 - t513)))) (wrap64 (t516 - t514)) t522 _ A40.out).mono ?_); rintro e w' ⟨rfl, ⟨nd, rfl⟩⟩; (try first | exact ⟨rfl, _, World.drewN_drewN _ _ _⟩ | exact ⟨rfl, _, Eq.trans (World.drewN_drewN _ _ _) (congrArg (World.drewN _) (Nat.add_assoc _ _ _))⟩)))
         repeat (go_quiet (first | (go_at_call 43; (with_reducible refine (biremeref14_up.calls (wrap64 (a3 - (wrap64 (t515 - t513)))) (wrap64 (t516 - t514)) t522 _ A40.out).mono ?_); rintro e w' ⟨rfl, ⟨nd, rfl⟩⟩; (try first | exact ⟨rfl, _, World.drewN_drewN _ _ _⟩ | exact ⟨rfl, _, Eq.trans (World.drewN_drewN _ _ _) (congrArg (World.drewN _) (Nat.add_assoc _ _ _))⟩))); try go_wp2_with (first | (go_at_call 43; (with_reducible refine (biremeref14_up.calls (wrap64 (a3 - (wrap64 (t515 - t513)))) (wrap64 (t516 - t514)) t522 _ A40.out).mono ?_); rintro e w' ⟨rfl, ⟨nd, rfl⟩⟩; (try first | exact ⟨rfl, _, World.drewN_drewN _ _ _⟩ | exact ⟨rfl, _, Eq.trans (World.drewN_drewN _ _ _) (congrArg (World.drewN _) (Nat.add_assoc _ _ _))⟩))))
         go_ret2
         exact ⟨by first | rfl | (simp [errW_none, errW_some] <;> rfl) | (simp only [← hji41]; first | rfl | (simp [errW_none, errW_some] <;> rfl)) | (simp [*, errW_none, errW_some] <;> rfl), by repeat (first | (with_reducible first | exact HB.out | apply below_alloc | apply pw_below_drewN | apply below_drew1 | refine below_set ?_ GE508.out | refine below_set ?_ GE509.out | refine below_set ?_ GE521.out) | exact HB.out)⟩
        ·rw [if_neg c42] at H
         have c42b0 : decide ((ji41) < t517) = false := decide_eq_false c42
         clear c42
         by_cases c46 : (ji41) > t518
         ·rw [if_pos c46] at H
          have c46b0 : decide (t518 < (ji41)) = true := decide_eq_true c46
          clear c46
          simp only [Option.some.injEq, Prod.mk.injEq] at H
          obtain ⟨rfl, rfl⟩ := H
          have hnb47 := NB521_508.out
          have hnc47 := NB508_521.out
          have hnb48 := NB521_509.out
          have hnc48 := NB509_521.out
          have hcz49_0 : wc.cell? ⟨gb521, 0, none⟩ = some (.bool false) := (blk_cell BK521.out 0).trans rfl
          have hcz49_1 : wc.cell? ⟨gb521, 1, none⟩ = some (.bool t511) := (blk_cell BK521.out 1).trans rfl
          have hcz49_2 : wc.cell? ⟨gb521, 2, none⟩ = some (.bool t512) := (blk_cell BK521.out 2).trans rfl
          have hcz49_3 : wc.cell? ⟨gb521, 3, none⟩ = some (.int .i64 t513) := (blk_cell BK521.out 3).trans rfl
          have hcz49_4 : wc.cell? ⟨gb521, 4, none⟩ = some (.int .i64 t514) := (blk_cell BK521.out 4).trans rfl
          have hcz49_5 : wc.cell? ⟨gb521, 5, none⟩ = some (.int .i64 t515) := (blk_cell BK521.out 5).trans rfl
          have hcz49_6 : wc.cell? ⟨gb521, 6, none⟩ = some (.int .i64 t516) := (blk_cell BK521.out 6).trans rfl
          have hcz49_7 : wc.cell? ⟨gb521, 7, none⟩ = some (.int .i64 t517) := (blk_cell BK521.out 7).trans rfl
          have hcz49_8 : wc.cell? ⟨gb521, 8, none⟩ = some (.int .i64 t518) := (blk_cell BK521.out 8).trans rfl
          have hcz49_9 : wc.cell? ⟨gb521, 9, none⟩ = some (.int .i64 t519) := (blk_cell BK521.out 9).trans rfl
          have hcz49_10 : wc.cell? ⟨gb521, 10, none⟩ = some (.int .i64 t520) := (blk_cell BK521.out 10).trans rfl
          have hfz49_0 := blk_frozen BK521.out 0
          have hfz49_1 := blk_frozen BK521.out 1
          have hfz49_2 := blk_frozen BK521.out 2
          have hfz49_3 := blk_frozen BK521.out 3
          have hfz49_4 := blk_frozen BK521.out 4
          have hfz49_5 := blk_frozen BK521.out 5
          have hfz49_6 := blk_frozen BK521.out 6
          have hfz49_7 := blk_frozen BK521.out 7
          have hfz49_8 := blk_frozen BK521.out 8
          have hfz49_9 := blk_frozen BK521.out 9
          have hfz49_10 := blk_frozen BK521.out 10
          go_wp2_with (first | (go_at_call 43; (with_reducible refine (biremeref14_up.calls (wrap64 (a3 - (wrap64 (t515 - t513)))) (wrap64 (t516 - t514)) t522 _ A40.out).mono ?_); rintro e w' ⟨rfl, ⟨nd, rfl⟩⟩; (try first | exact ⟨rfl, _, World.drewN_drewN _ _ _⟩ | exact ⟨rfl, _, Eq.trans (World.drewN_drewN _ _ _) (congrArg (World.drewN _) (Nat.add_assoc _ _ _))⟩)))
          repeat (go_quiet (first | (go_at_call 43; (with_reducible refine (biremeref14_up.calls (wrap64 (a3 - (wrap64 (t515 - t513)))) (wrap64 (t516 - t514)) t522 _ A40.out).mono ?_); rintro e w' ⟨rfl, ⟨nd, rfl⟩⟩; (try first | exact ⟨rfl, _, World.drewN_drewN _ _ _⟩ | exact ⟨rfl, _, Eq.trans (World.drewN_drewN _ _ _) (congrArg (World.drewN _) (Nat.add_assoc _ _ _))⟩))); try go_wp2_with (first | (go_at_call 43; (with_reducible refine (biremeref14_up.calls (wrap64 (a3 - (wrap64 (t515 - t513)))) (wrap64 (t516 - t514)) t522 _ A40.out).mono ?_); rintro e w' ⟨rfl, ⟨nd, rfl⟩⟩; (try first | exact ⟨rfl, _, World.drewN_drewN _ _ _⟩ | exact ⟨rfl, _, Eq.trans (World.drewN_drewN _ _ _) (congrArg (World.drewN _) (Nat.add_assoc _ _ _))⟩))))
          go_ret2
          exact ⟨by first | rfl | (simp [errW_none, errW_some] <;> rfl) | (simp only [← hji41]; first | rfl | (simp [errW_none, errW_some] <;> rfl)) | (simp [*, errW_none, errW_some] <;> rfl), by repeat (first | (with_reducible first | exact HB.out | apply below_alloc | apply pw_below_drewN | apply below_drew1 | refine below_set ?_ GE508.out | refine below_set ?_ GE509.out | refine below_set ?_ GE521.out) | exact HB.out)⟩
         ·rw [if_neg c46] at H
          have c46b0 : decide (t518 < (ji41)) = false := decide_eq_false c46
          clear c46
          by_cases c50 : (wrap64 ((wrap64 (t515 - t513)) + (wrap64 ((wrap64 (t516 - t514)) * (ji41))))) < a3
          ·rw [if_pos c50] at H
           have c50b0 : decide ((wrap64 ((wrap64 (t515 - t513)) + (wrap64 ((wrap64 (t516 - t514)) * (ji41))))) < a3) = true := decide_eq_true c50
           clear c50
           simp only [Option.some.injEq, Prod.mk.injEq] at H
           obtain ⟨rfl, rfl⟩ := H
           have hnb51 := NB521_508.out
           have hnc51 := NB508_521.out
           have hnb52 := NB521_509.out
           have hnc52 := NB509_521.out
           have hcz53_0 : wc.cell? ⟨gb521, 0, none⟩ = some (.bool false) := (blk_cell BK521.out 0).trans rfl
           have hcz53_1 : wc.cell? ⟨gb521, 1, none⟩ = some (.bool t511) := (blk_cell BK521.out 1).trans rfl
           have hcz53_2 : wc.cell? ⟨gb521, 2, none⟩ = some (.bool t512) := (blk_cell BK521.out 2).trans rfl
           have hcz53_3 : wc.cell? ⟨gb521, 3, none⟩ = some (.int .i64 t513) := (blk_cell BK521.out 3).trans rfl
           have hcz53_4 : wc.cell? ⟨gb521, 4, none⟩ = some (.int .i64 t514) := (blk_cell BK521.out 4).trans rfl
           have hcz53_5 : wc.cell? ⟨gb521, 5, none⟩ = some (.int .i64 t515) := (blk_cell BK521.out 5).trans rfl
           have hcz53_6 : wc.cell? ⟨gb521, 6, none⟩ = some (.int .i64 t516) := (blk_cell BK521.out 6).trans rfl
           have hcz53_7 : wc.cell? ⟨gb521, 7, none⟩ = some (.int .i64 t517) := (blk_cell BK521.out 7).trans rfl
           have hcz53_8 : wc.cell? ⟨gb521, 8, none⟩ = some (.int .i64 t518) := (blk_cell BK521.out 8).trans rfl
           have hcz53_9 : wc.cell? ⟨gb521, 9, none⟩ = some (.int .i64 t519) := (blk_cell BK521.out 9).trans rfl
           have hcz53_10 : wc.cell? ⟨gb521, 10, none⟩ = some (.int .i64 t520) := (blk_cell BK521.out 10).trans rfl
           have hfz53_0 := blk_frozen BK521.out 0
           have hfz53_1 := blk_frozen BK521.out 1
           have hfz53_2 := blk_frozen BK521.out 2
           have hfz53_3 := blk_frozen BK521.out 3
           have hfz53_4 := blk_frozen BK521.out 4
           have hfz53_5 := blk_frozen BK521.out 5
           have hfz53_6 := blk_frozen BK521.out 6
           have hfz53_7 := blk_frozen BK521.out 7
           have hfz53_8 := blk_frozen BK521.out 8
           have hfz53_9 := blk_frozen BK521.out 9
           have hfz53_10 := blk_frozen BK521.out 10
           go_wp2_with (first | (go_at_call 43; (with_reducible refine (biremeref14_up.calls (wrap64 (a3 - (wrap64 (t515 - t513)))) (wrap64 (t516 - t514)) t522 _ A40.out).mono ?_); rintro e w' ⟨rfl, ⟨nd, rfl⟩⟩; (try first | exact ⟨rfl, _, World.drewN_drewN _ _ _⟩ | exact ⟨rfl, _, Eq.trans (World.drewN_drewN _ _ _) (congrArg (World.drewN _) (Nat.add_assoc _ _ _))⟩)))
           repeat (go_quiet (first | (go_at_call 43; (with_reducible refine (biremeref14_up.calls (wrap64 (a3 - (wrap64 (t515 - t513)))) (wrap64 (t516 - t514)) t522 _ A40.out).mono ?_); rintro e w' ⟨rfl, ⟨nd, rfl⟩⟩; (try first | exact ⟨rfl, _, World.drewN_drewN _ _ _⟩ | exact ⟨rfl, _, Eq.trans (World.drewN_drewN _ _ _) (congrArg (World.drewN _) (Nat.add_assoc _ _ _))⟩))); try go_wp2_with (first | (go_at_call 43; (with_reducible refine (biremeref14_up.calls (wrap64 (a3 - (wrap64 (t515 - t513)))) (wrap64 (t516 - t514)) t522 _ A40.out).mono ?_); rintro e w' ⟨rfl, ⟨nd, rfl⟩⟩; (try first | exact ⟨rfl, _, World.drewN_drewN _ _ _⟩ | exact ⟨rfl, _, Eq.trans (World.drewN_drewN _ _ _) (congrArg (World.drewN _) (Nat.add_assoc _ _ _))⟩))))
           go_ret2
           exact ⟨by first | rfl | (simp [errW_none, errW_some] <;> rfl) | (simp only [← hji41]; first | rfl | (simp [errW_none, errW_some] <;> rfl)) | (simp [*, errW_none, errW_some] <;> rfl), by repeat (first | (with_reducible first | exact HB.out | apply below_alloc | apply pw_below_drewN | apply below_drew1 | refine below_set ?_ GE508.out | refine below_set ?_ GE509.out | refine below_set ?_ GE521.out) | exact HB.out)⟩
          ·rw [if_neg c50] at H
           have c50b0 : decide ((wrap64 ((wrap64 (t515 - t513)) + (wrap64 ((wrap64 (t516 - t514)) * (ji41))))) < a3) = false := decide_eq_false c50
           clear c50
           simp only [Option.some.injEq, Prod.mk.injEq] at H
           obtain ⟨rfl, rfl⟩ := H
           have hnb54 := NB521_508.out
           have hnc54 := NB508_521.out
           have hnb55 := NB521_509.out
           have hnc55 := NB509_521.out
           have hcz56_0 : wc.cell? ⟨gb521, 0, none⟩ = some (.bool false) := (blk_cell BK521.out 0).trans rfl
           have hcz56_1 : wc.cell? ⟨gb521, 1, none⟩ = some (.bool t511) := (blk_cell BK521.out 1).trans rfl
           have hcz56_2 : wc.cell? ⟨gb521, 2, none⟩ = some (.bool t512) := (blk_cell BK521.out 2).trans rfl
           have hcz56_3 : wc.cell? ⟨gb521, 3, none⟩ = some (.int .i64 t513) := (blk_cell BK521.out 3).trans rfl
           have hcz56_4 : wc.cell? ⟨gb521, 4, none⟩ = some (.int .i64 t514) := (blk_cell BK521.out 4).trans rfl
           have hcz56_5 : wc.cell? ⟨gb521, 5, none⟩ = some (.int .i64 t515) := (blk_cell BK521.out 5).trans rfl
           have hcz56_6 : wc.cell? ⟨gb521, 6, none⟩ = some (.int .i64 t516) := (blk_cell BK521.out 6).trans rfl
           have hcz56_7 : wc.cell? ⟨gb521, 7, none⟩ = some (.int .i64 t517) := (blk_cell BK521.out 7).trans rfl
           have hcz56_8 : wc.cell? ⟨gb521, 8, none⟩ = some (.int .i64 t518) := (blk_cell BK521.out 8).trans rfl
           have hcz56_9 : wc.cell? ⟨gb521, 9, none⟩ = some (.int .i64 t519) := (blk_cell BK521.out 9).trans rfl
           have hcz56_10 : wc.cell? ⟨gb521, 10, none⟩ = some (.int .i64 t520) := (blk_cell BK521.out 10).trans rfl
           have hfz56_0 := blk_frozen BK521.out 0
           have hfz56_1 := blk_frozen BK521.out 1
           have hfz56_2 := blk_frozen BK521.out 2
           have hfz56_3 := blk_frozen BK521.out 3
           have hfz56_4 := blk_frozen BK521.out 4
           have hfz56_5 := blk_frozen BK521.out 5
           have hfz56_6 := blk_frozen BK521.out 6
           have hfz56_7 := blk_frozen BK521.out 7
           have hfz56_8 := blk_frozen BK521.out 8
           have hfz56_9 := blk_frozen BK521.out 9
           have hfz56_10 := blk_frozen BK521.out 10
           go_wp2_with (first | (go_at_call 43; (with_reducible refine (biremeref14_up.calls (wrap64 (a3 - (wrap64 (t515 - t513)))) (wrap64 (t516 - t514)) t522 _ A40.out).mono ?_); rintro e w' ⟨rfl, ⟨nd, rfl⟩⟩; (try first | exact ⟨rfl, _, World.drewN_drewN _ _ _⟩ | exact ⟨rfl, _, Eq.trans (World.drewN_drewN _ _ _) (congrArg (World.drewN _) (Nat.add_assoc _ _ _))⟩)))
           repeat (go_quiet (first | (go_at_call 43; (with_reducible refine (biremeref14_up.calls (wrap64 (a3 - (wrap64 (t515 - t513)))) (wrap64 (t516 - t514)) t522 _ A40.out).mono ?_); rintro e w' ⟨rfl, ⟨nd, rfl⟩⟩; (try first | exact ⟨rfl, _, World.drewN_drewN _ _ _⟩ | exact ⟨rfl, _, Eq.trans (World.drewN_drewN _ _ _) (congrArg (World.drewN _) (Nat.add_assoc _ _ _))⟩))); try go_wp2_with (first | (go_at_call 43; (with_reducible refine (biremeref14_up.calls (wrap64 (a3 - (wrap64 (t515 - t513)))) (wrap64 (t516 - t514)) t522 _ A40.out).mono ?_); rintro e w' ⟨rfl, ⟨nd, rfl⟩⟩; (try first | exact ⟨rfl, _, World.drewN_drewN _ _ _⟩ | exact ⟨rfl, _, Eq.trans (World.drewN_drewN _ _ _) (congrArg (World.drewN _) (Nat.add_assoc _ _ _))⟩))))
           go_ret2
           exact ⟨by first | rfl | (simp [errW_none, errW_some] <;> rfl) | (simp only [← hji41]; first | rfl | (simp [errW_none, errW_some] <;> rfl)) | (simp [*, errW_none, errW_some] <;> rfl), by repeat (first | (with_reducible first | exact HB.out | apply below_alloc | apply pw_below_drewN | apply below_drew1 | refine below_set ?_ GE508.out | refine below_set ?_ GE509.out | refine below_set ?_ GE521.out) | exact HB.out)⟩
       ·rw [if_neg c39] at H
        have c39b0 : decide (0 < (wrap64 (t516 - t514))) = false := decide_eq_false c39
        clear c39
        by_cases c57 : (wrap64 (t516 - t514)) < 0
        ·rw [if_pos c57] at H
         have c57b0 : decide ((wrap64 (t516 - t514)) < 0) = true := decide_eq_true c57
         clear c57
         replace H := Option.bind_eq_some_iff.mp H
         obtain ⟨t523, A580, H⟩ := H
         replace H : (if (mn t518 t523) < t517 then (some (0, false)) else (if (mn t518 t523) > t518 then (some (0, false)) else (if (wrap64 ((wrap64 (t515 - t513)) + (wrap64 ((wrap64 (t516 - t514)) * (mn t518 t523))))) < a3 then (some (0, false)) else (some (wrap64 ((wrap64 (t515 - t513)) + (wrap64 ((wrap64 (t516 - t514)) * (mn t518 t523)))), true))))) = some (r1, r2) := H
         have A58 := Aside0.mk A580
         clear A580
         obtain ⟨ji59, hji59⟩ : ∃ j_ : Int, (mn t518 t523) = j_ := ⟨_, rfl⟩
         replace H : (if (ji59) < t517 then (some (0, false)) else (if (ji59) > t518 then (some (0, false)) else (if (wrap64 ((wrap64 (t515 - t513)) + (wrap64 ((wrap64 (t516 - t514)) * (ji59))))) < a3 then (some (0, false)) else (some (wrap64 ((wrap64 (t515 - t513)) + (wrap64 ((wrap64 (t516 - t514)) * (ji59)))), true))))) = some (r1, r2) := by first | (rw [hji59] at H; exact H) | (simp only [hji59] at H ⊢; exact H)
         (try rw [hji59] at A58)
         have hji59_ : (if t523 < t518 then t523 else t518) = ji59 := hji59
         by_cases c60 : (ji59) < t517
         ·rw [if_pos c60] at H
          have c60b0 : decide ((ji59) < t517) = true := decide_eq_true c60
          clear c60
          simp only [Option.some.injEq, Prod.mk.injEq] at H
          obtain ⟨rfl, rfl⟩ := H
          have hnb61 := NB521_508.out
          have hnc61 := NB508_521.out
          have hnb62 := NB521_509.out
          have hnc62 := NB509_521.out
          have hcz63_0 : wc.cell? ⟨gb521, 0, none⟩ = some (.bool false) := (blk_cell BK521.out 0).trans rfl
          have hcz63_1 : wc.cell? ⟨gb521, 1, none⟩ = some (.bool t511) := (blk_cell BK521.out 1).trans rfl
          have hcz63_2 : wc.cell? ⟨gb521, 2, none⟩ = some (.bool t512) := (blk_cell BK521.out 2).trans rfl
          have hcz63_3 : wc.cell? ⟨gb521, 3, none⟩ = some (.int .i64 t513) := (blk_cell BK521.out 3).trans rfl
          have hcz63_4 : wc.cell? ⟨gb521, 4, none⟩ = some (.int .i64 t514) := (blk_cell BK521.out 4).trans rfl
          have hcz63_5 : wc.cell? ⟨gb521, 5, none⟩ = some (.int .i64 t515) := (blk_cell BK521.out 5).trans rfl
          have hcz63_6 : wc.cell? ⟨gb521, 6, none⟩ = some (.int .i64 t516) := (blk_cell BK521.out 6).trans rfl
          have hcz63_7 : wc.cell? ⟨gb521, 7, none⟩ = some (.int .i64 t517) := (blk_cell BK521.out 7).trans rfl
          have hcz63_8 : wc.cell? ⟨gb521, 8, none⟩ = some (.int .i64 t518) := (blk_cell BK521.out 8).trans rfl
          have hcz63_9 : wc.cell? ⟨gb521, 9, none⟩ = some (.int .i64 t519) := (blk_cell BK521.out 9).trans rfl
          have hcz63_10 : wc.cell? ⟨gb521, 10, none⟩ = some (.int .i64 t520) := (blk_cell BK521.out 10).trans rfl
          have hfz63_0 := blk_frozen BK521.out 0
          have hfz63_1 := blk_frozen BK521.out 1
          have hfz63_2 := blk_frozen BK521.out 2
          have hfz63_3 := blk_frozen BK521.out 3
          have hfz63_4 := blk_frozen BK521.out 4
          have hfz63_5 := blk_frozen BK521.out 5
          have hfz63_6 := blk_frozen BK521.out 6
          have hfz63_7 := blk_frozen BK521.out 7
          have hfz63_8 := blk_frozen BK521.out 8
          have hfz63_9 := blk_frozen BK521.out 9
          have hfz63_10 := blk_frozen BK521.out 10
          go_wp2_with (first | (go_at_call 44; (with_reducible refine (biremeref14_down.calls (wrap64 ((wrap64 (t515 - t513)) - a3)) (wrap64 (-(wrap64 (t516 - t514)))) t523 _ A58.out).mono ?_); rintro e w' ⟨rfl, ⟨nd, rfl⟩⟩; (try first | exact ⟨rfl, _, World.drewN_drewN _ _ _⟩ | exact ⟨rfl, _, Eq.trans (World.drewN_drewN _ _ _) (congrArg (World.drewN _) (Nat.add_assoc _ _ _))⟩)))
          repeat (go_quiet (first | (go_at_call 44; (with_reducible refine (biremeref14_down.calls (wrap64 ((wrap64 (t515 - t513)) - a3)) (wrap64 (-(wrap64 (t516 - t514)))) t523 _ A58.out).mono ?_); rintro e w' ⟨rfl, ⟨nd, rfl⟩⟩; (try first | exact ⟨rfl, _, World.drewN_drewN _ _ _⟩ | exact ⟨rfl, _, Eq.trans (World.drewN_drewN _ _ _) (congrArg (World.drewN _) (Nat.add_assoc _ _ _))⟩))); try go_wp2_with (first | (go_at_call 44; (with_reducible refine (biremeref14_down.calls (wrap64 ((wrap64 (t515 - t513)) - a3)) (wrap64 (-(wrap64 (t516 - t514)))) t523 _ A58.out).mono ?_); rintro e w' ⟨rfl, ⟨nd, rfl⟩⟩; (try first | exact ⟨rfl, _, World.drewN_drewN _ _ _⟩ | exact ⟨rfl, _, Eq.trans (World.drewN_drewN _ _ _) (congrArg (World.drewN _) (Nat.add_assoc _ _ _))⟩))))
          go_ret2
          exact ⟨by first | rfl | (simp [errW_none, errW_some] <;> rfl) | (simp only [← hji59]; first | rfl | (simp [errW_none, errW_some] <;> rfl)) | (simp [*, errW_none, errW_some] <;> rfl), by repeat (first | (with_reducible first | exact HB.out | apply below_alloc | apply pw_below_drewN | apply below_drew1 | refine below_set ?_ GE508.out | refine below_set ?_ GE509.out | refine below_set ?_ GE521.out) | exact HB.out)⟩
         ·rw [if_neg c60] at H
          have c60b0 : decide ((ji59) < t517) = false := decide_eq_false c60
          clear c60
          by_cases c64 : (ji59) > t518
          ·rw [if_pos c64] at H
           have c64b0 : decide (t518 < (ji59)) = true := decide_eq_true c64
           clear c64
           simp only [Option.some.injEq, Prod.mk.injEq] at H
           obtain ⟨rfl, rfl⟩ := H
           have hnb65 := NB521_508.out
           have hnc65 := NB508_521.out
           have hnb66 := NB521_509.out
           have hnc66 := NB509_521.out
           have hcz67_0 : wc.cell? ⟨gb521, 0, none⟩ = some (.bool false) := (blk_cell BK521.out 0).trans rfl
           have hcz67_1 : wc.cell? ⟨gb521, 1, none⟩ = some (.bool t511) := (blk_cell BK521.out 1).trans rfl
           have hcz67_2 : wc.cell? ⟨gb521, 2, none⟩ = some (.bool t512) := (blk_cell BK521.out 2).trans rfl
           have hcz67_3 : wc.cell? ⟨gb521, 3, none⟩ = some (.int .i64 t513) := (blk_cell BK521.out 3).trans rfl
           have hcz67_4 : wc.cell? ⟨gb521, 4, none⟩ = some (.int .i64 t514) := (blk_cell BK521.out 4).trans rfl
           have hcz67_5 : wc.cell? ⟨gb521, 5, none⟩ = some (.int .i64 t515) := (blk_cell BK521.out 5).trans rfl
           have hcz67_6 : wc.cell? ⟨gb521, 6, none⟩ = some (.int .i64 t516) := (blk_cell BK521.out 6).trans rfl
           have hcz67_7 : wc.cell? ⟨gb521, 7, none⟩ = some (.int .i64 t517) := (blk_cell BK521.out 7).trans rfl
           have hcz67_8 : wc.cell? ⟨gb521, 8, none⟩ = some (.int .i64 t518) := (blk_cell BK521.out 8).trans rfl
           have hcz67_9 : wc.cell? ⟨gb521, 9, none⟩ = some (.int .i64 t519) := (blk_cell BK521.out 9).trans rfl
           have hcz67_10 : wc.cell? ⟨gb521, 10, none⟩ = some (.int .i64 t520) := (blk_cell BK521.out 10).trans rfl
           have hfz67_0 := blk_frozen BK521.out 0
           have hfz67_1 := blk_frozen BK521.out 1
           have hfz67_2 := blk_frozen BK521.out 2
           have hfz67_3 := blk_frozen BK521.out 3
           have hfz67_4 := blk_frozen BK521.out 4
           have hfz67_5 := blk_frozen BK521.out 5
           have hfz67_6 := blk_frozen BK521.out 6
           have hfz67_7 := blk_frozen BK521.out 7
           have hfz67_8 := blk_frozen BK521.out 8
           have hfz67_9 := blk_frozen BK521.out 9
           have hfz67_10 := blk_frozen BK521.out 10
           go_wp2_with (first | (go_at_call 44; (with_reducible refine (biremeref14_down.calls (wrap64 ((wrap64 (t515 - t513)) - a3)) (wrap64 (-(wrap64 (t516 - t514)))) t523 _ A58.out).mono ?_); rintro e w' ⟨rfl, ⟨nd, rfl⟩⟩; (try first | exact ⟨rfl, _, World.drewN_drewN _ _ _⟩ | exact ⟨rfl, _, Eq.trans (World.drewN_drewN _ _ _) (congrArg (World.drewN _) (Nat.add_assoc _ _ _))⟩)))
           repeat (go_quiet (first | (go_at_call 44; (with_reducible refine (biremeref14_down.calls (wrap64 ((wrap64 (t515 - t513)) - a3)) (wrap64 (-(wrap64 (t516 - t514)))) t523 _ A58.out).mono ?_); rintro e w' ⟨rfl, ⟨nd, rfl⟩⟩; (try first | exact ⟨rfl, _, World.drewN_drewN _ _ _⟩ | exact ⟨rfl, _, Eq.trans (World.drewN_drewN _ _ _) (congrArg (World.drewN _) (Nat.add_assoc _ _ _))⟩))); try go_wp2_with (first | (go_at_call 44; (with_reducible refine (biremeref14_down.calls (wrap64 ((wrap64 (t515 - t513)) - a3)) (wrap64 (-(wrap64 (t516 - t514)))) t523 _ A58.out).mono ?_); rintro e w' ⟨rfl, ⟨nd, rfl⟩⟩; (try first | exact ⟨rfl, _, World.drewN_drewN _ _ _⟩ | exact ⟨rfl, _, Eq.trans (World.drewN_drewN _ _ _) (congrArg (World.drewN _) (Nat.add_assoc _ _ _))⟩))))
           go_ret2
           exact ⟨by first | rfl | (simp [errW_none, errW_some] <;> rfl) | (simp only [← hji59]; first | rfl | (simp [errW_none, errW_some] <;> rfl)) | (simp [*, errW_none, errW_some] <;> rfl), by repeat (first | (with_reducible first | exact HB.out | apply below_alloc | apply pw_below_drewN | apply below_drew1 | refine below_set ?_ GE508.out | refine below_set ?_ GE509.out | refine below_set ?_ GE521.out) | exact HB.out)⟩
          ·rw [if_neg c64] at H
           have c64b0 : decide (t518 < (ji59)) = false := decide_eq_false c64
           clear c64
           by_cases c68 : (wrap64 ((wrap64 (t515 - t513)) + (wrap64 ((wrap64 (t516 - t514)) * (ji59))))) < a3
           ·rw [if_pos c68] at H
            have c68b0 : decide ((wrap64 ((wrap64 (t515 - t513)) + (wrap64 ((wrap64 (t516 - t514)) * (ji59))))) < a3) = true := decide_eq_true c68
            clear c68
            simp only [Option.some.injEq, Prod.mk.injEq] at H
            obtain ⟨rfl, rfl⟩ := H
            have hnb69 := NB521_508.out
            have hnc69 := NB508_521.out
            have hnb70 := NB521_509.out
            have hnc70 := NB509_521.out
            have hcz71_0 : wc.cell? ⟨gb521, 0, none⟩ = some (.bool false) := (blk_cell BK521.out 0).trans rfl
            have hcz71_1 : wc.cell? ⟨gb521, 1, none⟩ = some (.bool t511) := (blk_cell BK521.out 1).trans rfl
            have hcz71_2 : wc.cell? ⟨gb521, 2, none⟩ = some (.bool t512) := (blk_cell BK521.out 2).trans rfl
            have hcz71_3 : wc.cell? ⟨gb521, 3, none⟩ = some (.int .i64 t513) := (blk_cell BK521.out 3).trans rfl
            have hcz71_4 : wc.cell? ⟨gb521, 4, none⟩ = some (.int .i64 t514) := (blk_cell BK521.out 4).trans rfl
            have hcz71_5 : wc.cell? ⟨gb521, 5, none⟩ = some (.int .i64 t515) := (blk_cell BK521.out 5).trans rfl
            have hcz71_6 : wc.cell? ⟨gb521, 6, none⟩ = some (.int .i64 t516) := (blk_cell BK521.out 6).trans rfl
            have hcz71_7 : wc.cell? ⟨gb521, 7, none⟩ = some (.int .i64 t517) := (blk_cell BK521.out 7).trans rfl
            have hcz71_8 : wc.cell? ⟨gb521, 8, none⟩ = some (.int .i64 t518) := (blk_cell BK521.out 8).trans rfl
            have hcz71_9 : wc.cell? ⟨gb521, 9, none⟩ = some (.int .i64 t519) := (blk_cell BK521.out 9).trans rfl
            have hcz71_10 : wc.cell? ⟨gb521, 10, none⟩ = some (.int .i64 t520) := (blk_cell BK521.out 10).trans rfl
            have hfz71_0 := blk_frozen BK521.out 0
            have hfz71_1 := blk_frozen BK521.out 1
            have hfz71_2 := blk_frozen BK521.out 2
            have hfz71_3 := blk_frozen BK521.out 3
            have hfz71_4 := blk_frozen BK521.out 4
            have hfz71_5 := blk_frozen BK521.out 5
            have hfz71_6 := blk_frozen BK521.out 6
            have hfz71_7 := blk_frozen BK521.out 7
            have hfz71_8 := blk_frozen BK521.out 8
            have hfz71_9 := blk_frozen BK521.out 9
            have hfz71_10 := blk_frozen BK521.out 10
            go_wp2_with (first | (go_at_call 44; (with_reducible refine (biremeref14_down.calls (wrap64 ((wrap64 (t515 - t513)) - a3)) (wrap64 (-(wrap64 (t516 - t514)))) t523 _ A58.out).mono ?_); rintro e w' ⟨rfl, ⟨nd, rfl⟩⟩; (try first | exact ⟨rfl, _, World.drewN_drewN _ _ _⟩ | exact ⟨rfl, _, Eq.trans (World.drewN_drewN _ _ _) (congrArg (World.drewN _) (Nat.add_assoc _ _ _))⟩)))
            repeat (go_quiet (first | (go_at_call 44; (with_reducible refine (biremeref14_down.calls (wrap64 ((wrap64 (t515 - t513)) - a3)) (wrap64 (-(wrap64 (t516 - t514)))) t523 _ A58.out).mono ?_); rintro e w' ⟨rfl, ⟨nd, rfl⟩⟩; (try first | exact ⟨rfl, _, World.drewN_drewN _ _ _⟩ | exact ⟨rfl, _, Eq.trans (World.drewN_drewN _ _ _) (congrArg (World.drewN _) (Nat.add_assoc _ _ _))⟩))); try go_wp2_with (first | (go_at_call 44; (with_reducible refine (biremeref14_down.calls (wrap64 ((wrap64 (t515 - t513)) - a3)) (wrap64 (-(wrap64 (t516 - t514)))) t523 _ A58.out).mono ?_); rintro e w' ⟨rfl, ⟨nd, rfl⟩⟩; (try first | exact ⟨rfl, _, World.drewN_drewN _ _ _⟩ | exact ⟨rfl, _, Eq.trans (World.drewN_drewN _ _ _) (congrArg (World.drewN _) (Nat.add_assoc _ _ _))⟩))))
            go_ret2
            exact ⟨by first | rfl | (simp [errW_none, errW_some] <;> rfl) | (simp only [← hji59]; first | rfl | (simp [errW_none, errW_some] <;> rfl)) | (simp [*, errW_none, errW_some] <;> rfl), by repeat (first | (with_reducible first | exact HB.out | apply below_alloc | apply pw_below_drewN | apply below_drew1 | refine below_set ?_ GE508.out | refine below_set ?_ GE509.out | refine below_set ?_ GE521.out) | exact HB.out)⟩
           ·rw [if_neg c68] at H
            have c68b0 : decide ((wrap64 ((wrap64 (t515 - t513)) + (wrap64 ((wrap64 (t516 - t514)) * (ji59))))) < a3) = false := decide_eq_false c68
            clear c68
            simp only [Option.some.injEq, Prod.mk.injEq] at H
            obtain ⟨rfl, rfl⟩ := H
            have hnb72 := NB521_508.out
            have hnc72 := NB508_521.out
            have hnb73 := NB521_509.out
            have hnc73 := NB509_521.out
            have hcz74_0 : wc.cell? ⟨gb521, 0, none⟩ = some (.bool false) := (blk_cell BK521.out 0).trans rfl
            have hcz74_1 : wc.cell? ⟨gb521, 1, none⟩ = some (.bool t511) := (blk_cell BK521.out 1).trans rfl
            have hcz74_2 : wc.cell? ⟨gb521, 2, none⟩ = some (.bool t512) := (blk_cell BK521.out 2).trans rfl
            have hcz74_3 : wc.cell? ⟨gb521, 3, none⟩ = some (.int .i64 t513) := (blk_cell BK521.out 3).trans rfl
            have hcz74_4 : wc.cell? ⟨gb521, 4, none⟩ = some (.int .i64 t514) := (blk_cell BK521.out 4).trans rfl
            have hcz74_5 : wc.cell? ⟨gb521, 5, none⟩ = some (.int .i64 t515) := (blk_cell BK521.out 5).trans rfl
            have hcz74_6 : wc.cell? ⟨gb521, 6, none⟩ = some (.int .i64 t516) := (blk_cell BK521.out 6).trans rfl
            have hcz74_7 : wc.cell? ⟨gb521, 7, none⟩ = some (.int .i64 t517) := (blk_cell BK521.out 7).trans rfl
            have hcz74_8 : wc.cell? ⟨gb521, 8, none⟩ = some (.int .i64 t518) := (blk_cell BK521.out 8).trans rfl
            have hcz74_9 : wc.cell? ⟨gb521, 9, none⟩ = some (.int .i64 t519) := (blk_cell BK521.out 9).trans rfl
            have hcz74_10 : wc.cell? ⟨gb521, 10, none⟩ = some (.int .i64 t520) := (blk_cell BK521.out 10).trans rfl
            have hfz74_0 := blk_frozen BK521.out 0
            have hfz74_1 := blk_frozen BK521.out 1
            have hfz74_2 := blk_frozen BK521.out 2
            have hfz74_3 := blk_frozen BK521.out 3
            have hfz74_4 := blk_frozen BK521.out 4
            have hfz74_5 := blk_frozen BK521.out 5
            have hfz74_6 := blk_frozen BK521.out 6
            have hfz74_7 := blk_frozen BK521.out 7
            have hfz74_8 := blk_frozen BK521.out 8
            have hfz74_9 := blk_frozen BK521.out 9
            have hfz74_10 := blk_frozen BK521.out 10
            go_wp2_with (first | (go_at_call 44; (with_reducible refine (biremeref14_down.calls (wrap64 ((wrap64 (t515 - t513)) - a3)) (wrap64 (-(wrap64 (t516 - t514)))) t523 _ A58.out).mono ?_); rintro e w' ⟨rfl, ⟨nd, rfl⟩⟩; (try first | exact ⟨rfl, _, World.drewN_drewN _ _ _⟩ | exact ⟨rfl, _, Eq.trans (World.drewN_drewN _ _ _) (congrArg (World.drewN _) (Nat.add_assoc _ _ _))⟩)))
            repeat (go_quiet (first | (go_at_call 44; (with_reducible refine (biremeref14_down.calls (wrap64 ((wrap64 (t515 - t513)) - a3)) (wrap64 (-(wrap64 (t516 - t514)))) t523 _ A58.out).mono ?_); rintro e w' ⟨rfl, ⟨nd, rfl⟩⟩; (try first | exact ⟨rfl, _, World.drewN_drewN _ _ _⟩ | exact ⟨rfl, _, Eq.trans (World.drewN_drewN _ _ _) (congrArg (World.drewN _) (Nat.add_assoc _ _ _))⟩))); try go_wp2_with (first | (go_at_call 44; (with_reducible refine (biremeref14_down.calls (wrap64 ((wrap64 (t515 - t513)) - a3)) (wrap64 (-(wrap64 (t516 - t514)))) t523 _ A58.out).mono ?_); rintro e w' ⟨rfl, ⟨nd, rfl⟩⟩; (try first | exact ⟨rfl, _, World.drewN_drewN _ _ _⟩ | exact ⟨rfl, _, Eq.trans (World.drewN_drewN _ _ _) (congrArg (World.drewN _) (Nat.add_assoc _ _ _))⟩))))
            go_ret2
            exact ⟨by first | rfl | (simp [errW_none, errW_some] <;> rfl) | (simp only [← hji59]; first | rfl | (simp [errW_none, errW_some] <;> rfl)) | (simp [*, errW_none, errW_some] <;> rfl), by repeat (first | (with_reducible first | exact HB.out | apply below_alloc | apply pw_below_drewN | apply below_drew1 | refine below_set ?_ GE508.out | refine below_set ?_ GE509.out | refine below_set ?_ GE521.out) | exact HB.out)⟩
        ·rw [if_neg c57] at H
         have c57b0 : decide ((wrap64 (t516 - t514)) < 0) = false := decide_eq_false c57
         clear c57
         by_cases c75 : t517 < t517
         ·exact absurd c75 (Int.lt_irrefl _)
         ·rw [if_neg c75] at H
          have c75b0 : decide (t517 < t517) = false := decide_eq_false c75
          clear c75
          by_cases c79 : t517 > t518
          ·rw [if_pos c79] at H
           have c79b0 : decide (t518 < t517) = true := decide_eq_true c79
           clear c79
           simp only [Option.some.injEq, Prod.mk.injEq] at H
           obtain ⟨rfl, rfl⟩ := H
           have hnb80 := NB521_508.out
           have hnc80 := NB508_521.out
           have hnb81 := NB521_509.out
           have hnc81 := NB509_521.out
           have hcz82_0 : wc.cell? ⟨gb521, 0, none⟩ = some (.bool false) := (blk_cell BK521.out 0).trans rfl
           have hcz82_1 : wc.cell? ⟨gb521, 1, none⟩ = some (.bool t511) := (blk_cell BK521.out 1).trans rfl
           have hcz82_2 : wc.cell? ⟨gb521, 2, none⟩ = some (.bool t512) := (blk_cell BK521.out 2).trans rfl
           have hcz82_3 : wc.cell? ⟨gb521, 3, none⟩ = some (.int .i64 t513) := (blk_cell BK521.out 3).trans rfl
           have hcz82_4 : wc.cell? ⟨gb521, 4, none⟩ = some (.int .i64 t514) := (blk_cell BK521.out 4).trans rfl
           have hcz82_5 : wc.cell? ⟨gb521, 5, none⟩ = some (.int .i64 t515) := (blk_cell BK521.out 5).trans rfl
           have hcz82_6 : wc.cell? ⟨gb521, 6, none⟩ = some (.int .i64 t516) := (blk_cell BK521.out 6).trans rfl
           have hcz82_7 : wc.cell? ⟨gb521, 7, none⟩ = some (.int .i64 t517) := (blk_cell BK521.out 7).trans rfl
           have hcz82_8 : wc.cell? ⟨gb521, 8, none⟩ = some (.int .i64 t518) := (blk_cell BK521.out 8).trans rfl
           have hcz82_9 : wc.cell? ⟨gb521, 9, none⟩ = some (.int .i64 t519) := (blk_cell BK521.out 9).trans rfl
           have hcz82_10 : wc.cell? ⟨gb521, 10, none⟩ = some (.int .i64 t520) := (blk_cell BK521.out 10).trans rfl
           have hfz82_0 := blk_frozen BK521.out 0
           have hfz82_1 := blk_frozen BK521.out 1
           have hfz82_2 := blk_frozen BK521.out 2
           have hfz82_3 := blk_frozen BK521.out 3
           have hfz82_4 := blk_frozen BK521.out 4
           have hfz82_5 := blk_frozen BK521.out 5
           have hfz82_6 := blk_frozen BK521.out 6
           have hfz82_7 := blk_frozen BK521.out 7
           have hfz82_8 := blk_frozen BK521.out 8
           have hfz82_9 := blk_frozen BK521.out 9
           have hfz82_10 := blk_frozen BK521.out 10
           go_wp2
           repeat (go_quiet (fail); try go_wp2)
           go_ret2
           exact ⟨by first | rfl | (simp [errW_none, errW_some] <;> rfl) | (simp [*, errW_none, errW_some] <;> rfl), by repeat (first | (with_reducible first | exact HB.out | apply below_alloc | apply pw_below_drewN | apply below_drew1 | refine below_set ?_ GE508.out | refine below_set ?_ GE509.out | refine below_set ?_ GE521.out) | exact HB.out)⟩
          ·rw [if_neg c79] at H
           have c79b0 : decide (t518 < t517) = false := decide_eq_false c79
           clear c79
           by_cases c83 : (wrap64 ((wrap64 (t515 - t513)) + (wrap64 ((wrap64 (t516 - t514)) * t517)))) < a3
           ·rw [if_pos c83] at H
            have c83b0 : decide ((wrap64 ((wrap64 (t515 - t513)) + (wrap64 ((wrap64 (t516 - t514)) * t517)))) < a3) = true := decide_eq_true c83
            clear c83
            simp only [Option.some.injEq, Prod.mk.injEq] at H
            obtain ⟨rfl, rfl⟩ := H
            have hnb84 := NB521_508.out
            have hnc84 := NB508_521.out
            have hnb85 := NB521_509.out
            have hnc85 := NB509_521.out
            have hcz86_0 : wc.cell? ⟨gb521, 0, none⟩ = some (.bool false) := (blk_cell BK521.out 0).trans rfl
            have hcz86_1 : wc.cell? ⟨gb521, 1, none⟩ = some (.bool t511) := (blk_cell BK521.out 1).trans rfl
            have hcz86_2 : wc.cell? ⟨gb521, 2, none⟩ = some (.bool t512) := (blk_cell BK521.out 2).trans rfl
            have hcz86_3 : wc.cell? ⟨gb521, 3, none⟩ = some (.int .i64 t513) := (blk_cell BK521.out 3).trans rfl
            have hcz86_4 : wc.cell? ⟨gb521, 4, none⟩ = some (.int .i64 t514) := (blk_cell BK521.out 4).trans rfl
            have hcz86_5 : wc.cell? ⟨gb521, 5, none⟩ = some (.int .i64 t515) := (blk_cell BK521.out 5).trans rfl
            have hcz86_6 : wc.cell? ⟨gb521, 6, none⟩ = some (.int .i64 t516) := (blk_cell BK521.out 6).trans rfl
            have hcz86_7 : wc.cell? ⟨gb521, 7, none⟩ = some (.int .i64 t517) := (blk_cell BK521.out 7).trans rfl
            have hcz86_8 : wc.cell? ⟨gb521, 8, none⟩ = some (.int .i64 t518) := (blk_cell BK521.out 8).trans rfl
            have hcz86_9 : wc.cell? ⟨gb521, 9, none⟩ = some (.int .i64 t519) := (blk_cell BK521.out 9).trans rfl
            have hcz86_10 : wc.cell? ⟨gb521, 10, none⟩ = some (.int .i64 t520) := (blk_cell BK521.out 10).trans rfl
            have hfz86_0 := blk_frozen BK521.out 0
            have hfz86_1 := blk_frozen BK521.out 1
            have hfz86_2 := blk_frozen BK521.out 2
            have hfz86_3 := blk_frozen BK521.out 3
            have hfz86_4 := blk_frozen BK521.out 4
            have hfz86_5 := blk_frozen BK521.out 5
            have hfz86_6 := blk_frozen BK521.out 6
            have hfz86_7 := blk_frozen BK521.out 7
            have hfz86_8 := blk_frozen BK521.out 8
            have hfz86_9 := blk_frozen BK521.out 9
            have hfz86_10 := blk_frozen BK521.out 10
            go_wp2
            repeat (go_quiet (fail); try go_wp2)
            go_ret2
            exact ⟨by first | rfl | (simp [errW_none, errW_some] <;> rfl) | (simp [*, errW_none, errW_some] <;> rfl), by repeat (first | (with_reducible first | exact HB.out | apply below_alloc | apply pw_below_drewN | apply below_drew1 | refine below_set ?_ GE508.out | refine below_set ?_ GE509.out | refine below_set ?_ GE521.out) | exact HB.out)⟩
           ·rw [if_neg c83] at H
            have c83b0 : decide ((wrap64 ((wrap64 (t515 - t513)) + (wrap64 ((wrap64 (t516 - t514)) * t517)))) < a3) = false := decide_eq_false c83
            clear c83
            simp only [Option.some.injEq, Prod.mk.injEq] at H
            obtain ⟨rfl, rfl⟩ := H
            have hnb87 := NB521_508.out
            have hnc87 := NB508_521.out
            have hnb88 := NB521_509.out
            have hnc88 := NB509_521.out
            have hcz89_0 : wc.cell? ⟨gb521, 0, none⟩ = some (.bool false) := (blk_cell BK521.out 0).trans rfl
            have hcz89_1 : wc.cell? ⟨gb521, 1, none⟩ = some (.bool t511) := (blk_cell BK521.out 1).trans rfl
            have hcz89_2 : wc.cell? ⟨gb521, 2, none⟩ = some (.bool t512) := (blk_cell BK521.out 2).trans rfl
            have hcz89_3 : wc.cell? ⟨gb521, 3, none⟩ = some (.int .i64 t513) := (blk_cell BK521.out 3).trans rfl
            have hcz89_4 : wc.cell? ⟨gb521, 4, none⟩ = some (.int .i64 t514) := (blk_cell BK521.out 4).trans rfl
            have hcz89_5 : wc.cell? ⟨gb521, 5, none⟩ = some (.int .i64 t515) := (blk_cell BK521.out 5).trans rfl
            have hcz89_6 : wc.cell? ⟨gb521, 6, none⟩ = some (.int .i64 t516) := (blk_cell BK521.out 6).trans rfl
            have hcz89_7 : wc.cell? ⟨gb521, 7, none⟩ = some (.int .i64 t517) := (blk_cell BK521.out 7).trans rfl
            have hcz89_8 : wc.cell? ⟨gb521, 8, none⟩ = some (.int .i64 t518) := (blk_cell BK521.out 8).trans rfl
            have hcz89_9 : wc.cell? ⟨gb521, 9, none⟩ = some (.int .i64 t519) := (blk_cell BK521.out 9).trans rfl
            have hcz89_10 : wc.cell? ⟨gb521, 10, none⟩ = some (.int .i64 t520) := (blk_cell BK521.out 10).trans rfl
            have hfz89_0 := blk_frozen BK521.out 0
            have hfz89_1 := blk_frozen BK521.out 1
            have hfz89_2 := blk_frozen BK521.out 2
            have hfz89_3 := blk_frozen BK521.out 3
            have hfz89_4 := blk_frozen BK521.out 4
            have hfz89_5 := blk_frozen BK521.out 5
            have hfz89_6 := blk_frozen BK521.out 6
            have hfz89_7 := blk_frozen BK521.out 7
            have hfz89_8 := blk_frozen BK521.out 8
            have hfz89_9 := blk_frozen BK521.out 9
            have hfz89_10 := blk_frozen BK521.out 10
            go_wp2
            repeat (go_quiet (fail); try go_wp2)
            go_ret2
            exact ⟨by first | rfl | (simp [errW_none, errW_some] <;> rfl) | (simp [*, errW_none, errW_some] <;> rfl), by repeat (first | (with_reducible first | exact HB.out | apply below_alloc | apply pw_below_drewN | apply below_drew1 | refine below_set ?_ GE508.out | refine below_set ?_ GE509.out | refine below_set ?_ GE521.out) | exact HB.out)⟩

end Go.Proofs.Ytiedehjmhlgicaa.PAll
