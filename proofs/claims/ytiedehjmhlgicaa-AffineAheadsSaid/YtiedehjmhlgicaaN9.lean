/- A call of the reference's Of returns what its plain definition tells, and changes no block that was there before. -/
import Derived.Test.YtiedehjmhlgicaaN8
namespace Go.Proofs.Ytiedehjmhlgicaa.PAll
open Go.RowKit Go.Proofs.YtiedehjmhlgicaaW.PrintWords Go.Proofs.YtiedehjmhlgicaaW.PrintLast Go.Proofs.YtiedehjmhlgicaaW.PrintMore
attribute [local go_sem] max2_int min2_int max_two min_two max_three min_three max_four min_four   -- for this text's walks alone
attribute [local go_sem high] eqA23
set_option linter.unusedVariables false
set_option linter.unusedSimpArgs false

theorem set_eleven {w : World} {g t : Nat} {v0 v1 v2 v3 v4 v5 v6 v7 v8 v9 v10 : Value} (h : w.heap[g]? = some (.cells #[v0, v1, v2, v3, v4, v5, v6, v7, v8, v9, v10] t (0, 0))) (u0 u1 u2 u3 u4 u5 u6 u7 u8 u9 u10 : Value) :
  (((((((((((w.setCell ⟨g, 0, none⟩ u0).setCell ⟨g, 1, none⟩ u1).setCell ⟨g, 2, none⟩ u2).setCell ⟨g, 3, none⟩ u3).setCell ⟨g, 4, none⟩ u4).setCell ⟨g, 5, none⟩ u5).setCell ⟨g, 6, none⟩ u6).setCell ⟨g, 7, none⟩ u7).setCell ⟨g, 8, none⟩ u8).setCell ⟨g, 9, none⟩ u9).setCell ⟨g, 10, none⟩ u10).heap[g]? = some (.cells #[u0, u1, u2, u3, u4, u5, u6, u7, u8, u9, u10] t (0, 0)) := by
 have h0 := blk_put (cs' := #[u0, v1, v2, v3, v4, v5, v6, v7, v8, v9, v10]) h 0 u0 rfl
 have h1 := blk_put (cs' := #[u0, u1, v2, v3, v4, v5, v6, v7, v8, v9, v10]) h0 1 u1 rfl
 have h2 := blk_put (cs' := #[u0, u1, u2, v3, v4, v5, v6, v7, v8, v9, v10]) h1 2 u2 rfl
 have h3 := blk_put (cs' := #[u0, u1, u2, u3, v4, v5, v6, v7, v8, v9, v10]) h2 3 u3 rfl
 have h4 := blk_put (cs' := #[u0, u1, u2, u3, u4, v5, v6, v7, v8, v9, v10]) h3 4 u4 rfl
 have h5 := blk_put (cs' := #[u0, u1, u2, u3, u4, u5, v6, v7, v8, v9, v10]) h4 5 u5 rfl
 have h6 := blk_put (cs' := #[u0, u1, u2, u3, u4, u5, u6, v7, v8, v9, v10]) h5 6 u6 rfl
 have h7 := blk_put (cs' := #[u0, u1, u2, u3, u4, u5, u6, u7, v8, v9, v10]) h6 7 u7 rfl
 have h8 := blk_put (cs' := #[u0, u1, u2, u3, u4, u5, u6, u7, u8, v9, v10]) h7 8 u8 rfl
 have h9 := blk_put (cs' := #[u0, u1, u2, u3, u4, u5, u6, u7, u8, u9, v10]) h8 9 u9 rfl
 have h10 := blk_put (cs' := #[u0, u1, u2, u3, u4, u5, u6, u7, u8, u9, u10]) h9 10 u10 rfl
 exact h10
def biremeref14_Of.T9 : Bool × List (List Nat × List Nat) := (true, [([], []), ([0], [0]), ([], []), ([2], [2]), ([], []), ([4], [4]), ([], []), ([6], [6]), ([0, 1], []), ([8, 1, 0, 1], [1, 8]), ([0, 1, 2, 3, 8, 9], []), ([10, 3, 9, 0, 1, 2, 3, 8, 9], [3, 10]), ([0, 1, 2, 3, 4, 5, 8, 9, 10, 11], []), ([12, 5, 11, 0, 1, 2, 3, 4, 5, 8, 9, 10, 11], [5, 12]), ([0, 1, 2, 3, 4, 5, 6, 7, 8, 9, 10, 11, 12, 13], []), ([14, 7, 13, 0, 1, 2, 3, 4, 5, 6, 7, 8, 9, 10, 11, 12, 13], [7, 14])])
def biremeref14_Of.B9 : List Nat := [0, 1, 0, 4, 0, 16, 0, 64, 3, 259, 783, 1807, 3903, 7999, 16383, 32767]
theorem biremeref14_Of.tab9 : rtab .any (opsOf Try.f42 9) = biremeref14_Of.T9 := by kernel_rfl
theorem biremeref14_Of.bits9 : waitsOk biremeref14_Of.T9.2 biremeref14_Of.B9 = true := by kernel_rfl
def biremeref14_Of.T16 : Bool × List (List Nat × List Nat) := (true, [([], []), ([0], [0]), ([], []), ([2], [2]), ([], []), ([4], [4]), ([3, 5], [3, 5]), ([], []), ([7], [7]), ([8], [8]), ([6, 9], [6, 9]), ([1, 10], [1, 10]), ([0, 1, 2, 3, 4, 5, 6, 7, 8, 9, 10, 11], []), ([12, 11, 10, 0, 1, 2, 3, 4, 5, 6, 7, 8, 9, 10, 11], [11, 12])])
def biremeref14_Of.B16 : List Nat := [0, 1, 0, 4, 0, 16, 60, 0, 128, 384, 1020, 2047, 4095, 8191]
theorem biremeref14_Of.tab16 : rtab .any (opsOf Try.f42 16) = biremeref14_Of.T16 := by kernel_rfl
theorem biremeref14_Of.bits16 : waitsOk biremeref14_Of.T16.2 biremeref14_Of.B16 = true := by kernel_rfl
def biremeref14_Of.T17 : Bool × List (List Nat × List Nat) := (true, [([], []), ([0], [0]), ([], []), ([2], [2]), ([], []), ([4], [4]), ([5], [5]), ([3, 6], [3, 6]), ([1, 7], [1, 7]), ([0, 1, 2, 3, 4, 5, 6, 7, 8], []), ([9, 8, 7, 0, 1, 2, 3, 4, 5, 6, 7, 8], [8, 9])])
def biremeref14_Of.B17 : List Nat := [0, 1, 0, 4, 0, 16, 48, 124, 255, 511, 1023]
theorem biremeref14_Of.tab17 : rtab .any (opsOf Try.f42 17) = biremeref14_Of.T17 := by kernel_rfl
theorem biremeref14_Of.bits17 : waitsOk biremeref14_Of.T17.2 biremeref14_Of.B17 = true := by kernel_rfl
def biremeref14_Of.T21 : Bool × List (List Nat × List Nat) := (true, [([], []), ([0], [0]), ([], []), ([2], [2]), ([3], [3]), ([], []), ([5], [5]), ([4, 6], [4, 6]), ([1, 7], [1, 7]), ([0, 1, 2, 3, 4, 5, 6, 7, 8], []), ([9, 8, 7, 0, 1, 2, 3, 4, 5, 6, 7, 8], [8, 9])])
def biremeref14_Of.B21 : List Nat := [0, 1, 0, 4, 12, 0, 32, 124, 255, 511, 1023]
theorem biremeref14_Of.tab21 : rtab .any (opsOf Try.f42 21) = biremeref14_Of.T21 := by kernel_rfl
theorem biremeref14_Of.bits21 : waitsOk biremeref14_Of.T21.2 biremeref14_Of.B21 = true := by kernel_rfl
def biremeref14_Of.T22 : Bool × List (List Nat × List Nat) := (true, [([], []), ([0], [0]), ([], []), ([2], [2]), ([], []), ([4], [4]), ([3, 5], [3, 5]), ([], []), ([7], [7]), ([6, 8], [6, 8]), ([1, 9], [1, 9]), ([0, 1, 2, 3, 4, 5, 6, 7, 8, 9, 10], []), ([11, 10, 9, 0, 1, 2, 3, 4, 5, 6, 7, 8, 9, 10], [10, 11])])
def biremeref14_Of.B22 : List Nat := [0, 1, 0, 4, 0, 16, 60, 0, 128, 508, 1023, 2047, 4095]
theorem biremeref14_Of.tab22 : rtab .any (opsOf Try.f42 22) = biremeref14_Of.T22 := by kernel_rfl
theorem biremeref14_Of.bits22 : waitsOk biremeref14_Of.T22.2 biremeref14_Of.B22 = true := by kernel_rfl
set_option maxHeartbeats 8000000 in
set_option maxRecDepth 100000 in
theorem biremeref14_Of.calls (k : Nat) (a0_0 : Int) (a0_1 : Int) (a1_0 : Int) (a1_1 : Int) (a2 : Int) (a3 : Int) (r1 : Bool) (r2 : Bool) (r3 : Bool) (r4 : Int) (r5 : Int) (r6 : Int) (r7 : Int) (r8 : Int) (r9 : Int) (r10 : Int) (r11 : Int) (w : World) (h : biremeref14_Of.f k a0_0 a0_1 a1_0 a1_1 a2 a3 = some (r1, r2, r3, r4, r5, r6, r7, r8, r9, r10, r11)) :
  Calls Try.prog 42 #[.agg #[.int .i64 a0_0, .int .i64 a0_1], .agg #[.int .i64 a1_0, .int .i64 a1_1], .int .i64 a2, .int .i64 a3] w fun e w' => e = .returned (.agg #[.bool r1, .bool r2, .bool r3, .int .i64 r4, .int .i64 r5, .int .i64 r6, .int .i64 r7, .int .i64 r8, .int .i64 r9, .int .i64 r10, .int .i64 r11]) ∧ Below w.heap.size w w' := by
 have hu33 := Try.underlying33
 have hu75 := Try.underlying75
 have hu23 := Try.underlying23
 have HB := Aside0.mk (Below.refl w.heap.size w)
 have H : ((biremeref14_Solve.f k a0_1 (wrap64 (-a1_1)) (wrap64 (a1_0 - a0_0))).bind fun bt450 => (if bt450.2.2.2.2 = true then (if a2 = 0 then (biremeref14_Of.j0 k a2 a3 true a0_0 a0_1 a1_0 a1_1 false false false 0 0 0 0 0 0 a2 a3 bt450.1 bt450.2.1 bt450.2.2.1 bt450.2.2.2.1) else (biremeref14_Of.j0 k a2 a3 (a3 == 0) a0_0 a0_1 a1_0 a1_1 false false false 0 0 0 0 0 0 a2 a3 bt450.1 bt450.2.1 bt450.2.2.1 bt450.2.2.2.1)) else (biremeref14_Of.j0 k a2 a3 true a0_0 a0_1 a1_0 a1_1 false false false 0 0 0 0 0 0 a2 a3 bt450.1 bt450.2.1 bt450.2.2.1 bt450.2.2.2.1))) = some (r1, r2, r3, r4, r5, r6, r7, r8, r9, r10, r11) := h
 clear h
 replace H := Option.bind_eq_some_iff.mp H
 obtain ⟨⟨t450, t451, t452, t453, t454⟩, A50, H⟩ := H
 replace H : (if t454 = true then (if a2 = 0 then (biremeref14_Of.j0 k a2 a3 true a0_0 a0_1 a1_0 a1_1 false false false 0 0 0 0 0 0 a2 a3 t450 t451 t452 t453) else (biremeref14_Of.j0 k a2 a3 (a3 == 0) a0_0 a0_1 a1_0 a1_1 false false false 0 0 0 0 0 0 a2 a3 t450 t451 t452 t453)) else (biremeref14_Of.j0 k a2 a3 true a0_0 a0_1 a1_0 a1_1 false false false 0 0 0 0 0 0 a2 a3 t450 t451 t452 t453)) = some (r1, r2, r3, r4, r5, r6, r7, r8, r9, r10, r11) := H
 have A5 := Aside0.mk A50
 clear A50
 have HC6 := Aside0.mk H
 clear H
 go_enter Try.func42, Try.ntmps42
 go_upto_block 0 with (first | ((with_reducible refine gate_dst (N := 4) rfl ?_); refine box_event ?hg (N := 4) ?hd (cs := #[.int .i64 a0_0, .int .i64 a0_1]) (t := 33) ?hr ?_; (case hd => rfl); (case hg => rfl); (case hr => first | (go_simp; done) | (go_simp; rfl)); intro gb446 hg w7 hbox hb; have n0_ := Aside0.mk (below_step (by repeat (first | (with_reducible first | exact HB.out | apply below_alloc | apply pw_below_drewN | apply below_drew1) | exact HB.out)) hb); have n1_ := Aside0.mk (hbox); have n2_ := Aside0.mk ((by rw [hg]; exact (below_size (by repeat (first | (with_reducible first | exact HB.out | apply below_alloc | apply pw_below_drewN | apply below_drew1) | exact HB.out))) : w.heap.size ≤ gb446)); have n3_ := Aside0.mk ((by rw [hg]; exact (below_size (by repeat (first | (with_reducible first | exact HB.out | apply below_alloc | apply pw_below_drewN | apply below_drew1) | exact HB.out))) : w.heap.size ≤ gb446)); clear HB; have HB := n0_; have BK446 := n1_; have GW446 := n2_; have GE446 := n3_; clear n0_ n1_ n2_ n3_; clear hb hbox hg) | ((with_reducible refine gate_dst (N := 5) rfl ?_); refine box_event ?hg (N := 5) ?hd (cs := #[.int .i64 a1_0, .int .i64 a1_1]) (t := 33) ?hr ?_; (case hd => rfl); (case hg => rfl); (case hr => first | (go_simp; done) | (go_simp; rfl)); intro gb447 hg w8 hbox hb; have n0_ := Aside0.mk (blk_below (g := gb446) (o := .cells #[.int .i64 a0_0, .int .i64 a0_1] 33 (0, 0)) (by (with_reducible repeat (first | refine blk_drewN ?_ _ | refine blk_drew ?_ | refine blk_alloc ?_ _)); exact BK446.out) hb); have n1_ := Aside0.mk (below_step (by repeat (first | (with_reducible first | exact HB.out | apply below_alloc | apply pw_below_drewN | apply below_drew1 | refine below_set ?_ GE446.out) | exact HB.out)) hb); have n2_ := Aside0.mk (hbox); have n3_ := Aside0.mk ((by rw [hg]; exact (below_size (by repeat (first | (with_reducible first | exact HB.out | apply below_alloc | apply pw_below_drewN | apply below_drew1 | refine below_set ?_ GE446.out) | exact HB.out))) : w.heap.size ≤ gb447)); have n4_ := Aside0.mk ((by rw [hg]; exact (below_size (by repeat (first | (with_reducible first | exact HB.out | apply below_alloc | apply pw_below_drewN | apply below_drew1 | refine below_set ?_ GE446.out) | exact HB.out))) : w.heap.size ≤ gb447)); have n5_ := Aside0.mk ((by rw [hg]; exact Nat.ne_of_lt (blk_lt (g := gb446) (o := .cells #[.int .i64 a0_0, .int .i64 a0_1] 33 (0, 0)) (by (with_reducible repeat (first | refine blk_drewN ?_ _ | refine blk_drew ?_ | refine blk_alloc ?_ _)); exact BK446.out)) : gb446 ≠ gb447)); have n6_ := Aside0.mk ((by rw [hg]; exact Nat.ne_of_gt (blk_lt (g := gb446) (o := .cells #[.int .i64 a0_0, .int .i64 a0_1] 33 (0, 0)) (by (with_reducible repeat (first | refine blk_drewN ?_ _ | refine blk_drew ?_ | refine blk_alloc ?_ _)); exact BK446.out)) : gb447 ≠ gb446)); clear BK446; clear HB; have BK446 := n0_; have HB := n1_; have BK447 := n2_; have GW447 := n3_; have GE447 := n4_; have NB446_447 := n5_; have NB447_446 := n6_; clear n0_ n1_ n2_ n3_ n4_ n5_ n6_; clear hb hbox hg) | ((with_reducible refine gate_dst (N := 8) rfl ?_); refine box_event ?hg (N := 8) ?hd (cs := #[.bool false, .bool false, .bool false, .int .i64 0, .int .i64 0, .int .i64 0, .int .i64 0, .int .i64 0, .int .i64 0, .int .i64 0, .int .i64 0]) (t := 75) ?hr ?_; (case hd => rfl); (case hg => rfl); (case hr => first | (go_simp; done) | (go_simp; rfl)); intro gb448 hg w9 hbox hb; have n0_ := Aside0.mk (blk_below (g := gb446) (o := .cells #[.int .i64 a0_0, .int .i64 a0_1] 33 (0, 0)) (by (with_reducible repeat (first | refine blk_drewN ?_ _ | refine blk_drew ?_ | refine blk_alloc ?_ _)); exact BK446.out) hb); have n1_ := Aside0.mk (blk_below (g := gb447) (o := .cells #[.int .i64 a1_0, .int .i64 a1_1] 33 (0, 0)) (by (with_reducible repeat (first | refine blk_drewN ?_ _ | refine blk_drew ?_ | refine blk_alloc ?_ _)); exact BK447.out) hb); have n2_ := Aside0.mk (below_step (by repeat (first | (with_reducible first | exact HB.out | apply below_alloc | apply pw_below_drewN | apply below_drew1 | refine below_set ?_ GE446.out | refine below_set ?_ GE447.out) | exact HB.out)) hb); have n3_ := Aside0.mk (hbox); have n4_ := Aside0.mk ((by rw [hg]; exact (below_size (by repeat (first | (with_reducible first | exact HB.out | apply below_alloc | apply pw_below_drewN | apply below_drew1 | refine below_set ?_ GE446.out | refine below_set ?_ GE447.out) | exact HB.out))) : w.heap.size ≤ gb448)); have n5_ := Aside0.mk ((by rw [hg]; exact (below_size (by repeat (first | (with_reducible first | exact HB.out | apply below_alloc | apply pw_below_drewN | apply below_drew1 | refine below_set ?_ GE446.out | refine below_set ?_ GE447.out) | exact HB.out))) : w.heap.size ≤ gb448)); have n6_ := Aside0.mk ((by rw [hg]; exact Nat.ne_of_lt (blk_lt (g := gb446) (o := .cells #[.int .i64 a0_0, .int .i64 a0_1] 33 (0, 0)) (by (with_reducible repeat (first | refine blk_drewN ?_ _ | refine blk_drew ?_ | refine blk_alloc ?_ _)); exact BK446.out)) : gb446 ≠ gb448)); have n7_ := Aside0.mk ((by rw [hg]; exact Nat.ne_of_gt (blk_lt (g := gb446) (o := .cells #[.int .i64 a0_0, .int .i64 a0_1] 33 (0, 0)) (by (with_reducible repeat (first | refine blk_drewN ?_ _ | refine blk_drew ?_ | refine blk_alloc ?_ _)); exact BK446.out)) : gb448 ≠ gb446)); have n8_ := Aside0.mk ((by rw [hg]; exact Nat.ne_of_lt (blk_lt (g := gb447) (o := .cells #[.int .i64 a1_0, .int .i64 a1_1] 33 (0, 0)) (by (with_reducible repeat (first | refine blk_drewN ?_ _ | refine blk_drew ?_ | refine blk_alloc ?_ _)); exact BK447.out)) : gb447 ≠ gb448)); have n9_ := Aside0.mk ((by rw [hg]; exact Nat.ne_of_gt (blk_lt (g := gb447) (o := .cells #[.int .i64 a1_0, .int .i64 a1_1] 33 (0, 0)) (by (with_reducible repeat (first | refine blk_drewN ?_ _ | refine blk_drew ?_ | refine blk_alloc ?_ _)); exact BK447.out)) : gb448 ≠ gb447)); clear BK446; clear BK447; clear HB; have BK446 := n0_; have BK447 := n1_; have HB := n2_; have BK448 := n3_; have GW448 := n4_; have GE448 := n5_; have NB446_448 := n6_; have NB448_446 := n7_; have NB447_448 := n8_; have NB448_447 := n9_; clear n0_ n1_ n2_ n3_ n4_ n5_ n6_ n7_ n8_ n9_; clear hb hbox hg) | ((with_reducible refine gate_dst (N := 9) rfl ?_); refine box_event ?hg (N := 9) ?hd (cs := #[.bool false, .bool false, .bool false, .int .i64 0, .int .i64 0, .int .i64 0, .int .i64 0, .int .i64 0, .int .i64 0, .int .i64 0, .int .i64 0]) (t := 75) ?hr ?_; (case hd => rfl); (case hg => rfl); (case hr => first | (go_simp; done) | (go_simp; rfl)); intro gb449 hg w10 hbox hb; have n0_ := Aside0.mk (blk_below (g := gb446) (o := .cells #[.int .i64 a0_0, .int .i64 a0_1] 33 (0, 0)) (by (with_reducible repeat (first | refine blk_drewN ?_ _ | refine blk_drew ?_ | refine blk_alloc ?_ _)); exact BK446.out) hb); have n1_ := Aside0.mk (blk_below (g := gb447) (o := .cells #[.int .i64 a1_0, .int .i64 a1_1] 33 (0, 0)) (by (with_reducible repeat (first | refine blk_drewN ?_ _ | refine blk_drew ?_ | refine blk_alloc ?_ _)); exact BK447.out) hb); have n2_ := Aside0.mk (blk_below (g := gb448) (o := .cells #[.bool false, .bool false, .bool false, .int .i64 0, .int .i64 0, .int .i64 0, .int .i64 0, .int .i64 0, .int .i64 0, .int .i64 0, .int .i64 0] 75 (0, 0)) (by (with_reducible repeat (first | refine blk_drewN ?_ _ | refine blk_drew ?_ | refine blk_alloc ?_ _)); exact BK448.out) hb); have n3_ := Aside0.mk (below_step (by repeat (first | (with_reducible first | exact HB.out | apply below_alloc | apply pw_below_drewN | apply below_drew1 | refine below_set ?_ GE446.out | refine below_set ?_ GE447.out | refine below_set ?_ GE448.out) | exact HB.out)) hb); have n4_ := Aside0.mk (hbox); have n5_ := Aside0.mk ((by rw [hg]; exact (below_size (by repeat (first | (with_reducible first | exact HB.out | apply below_alloc | apply pw_below_drewN | apply below_drew1 | refine below_set ?_ GE446.out | refine below_set ?_ GE447.out | refine below_set ?_ GE448.out) | exact HB.out))) : w.heap.size ≤ gb449)); have n6_ := Aside0.mk ((by rw [hg]; exact (below_size (by repeat (first | (with_reducible first | exact HB.out | apply below_alloc | apply pw_below_drewN | apply below_drew1 | refine below_set ?_ GE446.out | refine below_set ?_ GE447.out | refine below_set ?_ GE448.out) | exact HB.out))) : w.heap.size ≤ gb449)); have n7_ := Aside0.mk ((by rw [hg]; exact Nat.ne_of_lt (blk_lt (g := gb446) (o := .cells #[.int .i64 a0_0, .int .i64 a0_1] 33 (0, 0)) (by (with_reducible repeat (first | refine blk_drewN ?_ _ | refine blk_drew ?_ | refine blk_alloc ?_ _)); exact BK446.out)) : gb446 ≠ gb449)); have n8_ := Aside0.mk ((by rw [hg]; exact Nat.ne_of_gt (blk_lt (g := gb446) (o := .cells #[.int .i64 a0_0, .int .i64 a0_1] 33 (0, 0)) (by (with_reducible repeat (first | refine blk_drewN ?_ _ | refine blk_drew ?_ | refine blk_alloc ?_ _)); exact BK446.out)) : gb449 ≠ gb446)); have n9_ := Aside0.mk ((by rw [hg]; exact Nat.ne_of_lt (blk_lt (g := gb447) (o := .cells #[.int .i64 a1_0, .int .i64 a1_1] 33 (0, 0)) (by (with_reducible repeat (first | refine blk_drewN ?_ _ | refine blk_drew ?_ | refine blk_alloc ?_ _)); exact BK447.out)) : gb447 ≠ gb449)); have n10_ := Aside0.mk ((by rw [hg]; exact Nat.ne_of_gt (blk_lt (g := gb447) (o := .cells #[.int .i64 a1_0, .int .i64 a1_1] 33 (0, 0)) (by (with_reducible repeat (first | refine blk_drewN ?_ _ | refine blk_drew ?_ | refine blk_alloc ?_ _)); exact BK447.out)) : gb449 ≠ gb447)); have n11_ := Aside0.mk ((by rw [hg]; exact Nat.ne_of_lt (blk_lt (g := gb448) (o := .cells #[.bool false, .bool false, .bool false, .int .i64 0, .int .i64 0, .int .i64 0, .int .i64 0, .int .i64 0, .int .i64 0, .int .i64 0, .int .i64 0] 75 (0, 0)) (by (with_reducible repeat (first | refine blk_drewN ?_ _ | refine blk_drew ?_ | refine blk_alloc ?_ _)); exact BK448.out)) : gb448 ≠ gb449)); have n12_ := Aside0.mk ((by rw [hg]; exact Nat.ne_of_gt (blk_lt (g := gb448) (o := .cells #[.bool false, .bool false, .bool false, .int .i64 0, .int .i64 0, .int .i64 0, .int .i64 0, .int .i64 0, .int .i64 0, .int .i64 0, .int .i64 0] 75 (0, 0)) (by (with_reducible repeat (first | refine blk_drewN ?_ _ | refine blk_drew ?_ | refine blk_alloc ?_ _)); exact BK448.out)) : gb449 ≠ gb448)); clear BK446; clear BK447; clear BK448; clear HB; have BK446 := n0_; have BK447 := n1_; have BK448 := n2_; have HB := n3_; have BK449 := n4_; have GW449 := n5_; have GE449 := n6_; have NB446_449 := n7_; have NB449_446 := n8_; have NB447_449 := n9_; have NB449_447 := n10_; have NB448_449 := n11_; have NB449_448 := n12_; clear n0_ n1_ n2_ n3_ n4_ n5_ n6_ n7_ n8_ n9_ n10_ n11_ n12_; clear hb hbox hg; have hnb11 := NB449_446.out; have hnc11 := NB446_449.out; have hnb12 := NB449_447.out; have hnc12 := NB447_449.out; have hnb13 := NB449_448.out; have hnc13 := NB448_449.out; have hcz14_0 : w10.cell? ⟨gb449, 0, none⟩ = some (.bool false) := (blk_cell BK449.out 0).trans rfl; have hcz14_1 : w10.cell? ⟨gb449, 1, none⟩ = some (.bool false) := (blk_cell BK449.out 1).trans rfl; have hcz14_2 : w10.cell? ⟨gb449, 2, none⟩ = some (.bool false) := (blk_cell BK449.out 2).trans rfl; have hcz14_3 : w10.cell? ⟨gb449, 3, none⟩ = some (.int .i64 0) := (blk_cell BK449.out 3).trans rfl; have hcz14_4 : w10.cell? ⟨gb449, 4, none⟩ = some (.int .i64 0) := (blk_cell BK449.out 4).trans rfl; have hcz14_5 : w10.cell? ⟨gb449, 5, none⟩ = some (.int .i64 0) := (blk_cell BK449.out 5).trans rfl; have hcz14_6 : w10.cell? ⟨gb449, 6, none⟩ = some (.int .i64 0) := (blk_cell BK449.out 6).trans rfl; have hcz14_7 : w10.cell? ⟨gb449, 7, none⟩ = some (.int .i64 0) := (blk_cell BK449.out 7).trans rfl; have hcz14_8 : w10.cell? ⟨gb449, 8, none⟩ = some (.int .i64 0) := (blk_cell BK449.out 8).trans rfl; have hcz14_9 : w10.cell? ⟨gb449, 9, none⟩ = some (.int .i64 0) := (blk_cell BK449.out 9).trans rfl; have hcz14_10 : w10.cell? ⟨gb449, 10, none⟩ = some (.int .i64 0) := (blk_cell BK449.out 10).trans rfl; have hfz14_0 := blk_frozen BK449.out 0; have hfz14_1 := blk_frozen BK449.out 1; have hfz14_2 := blk_frozen BK449.out 2; have hfz14_3 := blk_frozen BK449.out 3; have hfz14_4 := blk_frozen BK449.out 4; have hfz14_5 := blk_frozen BK449.out 5; have hfz14_6 := blk_frozen BK449.out 6; have hfz14_7 := blk_frozen BK449.out 7; have hfz14_8 := blk_frozen BK449.out 8; have hfz14_9 := blk_frozen BK449.out 9; have hfz14_10 := blk_frozen BK449.out 10; have hnb15 := NB446_447.out; have hnc15 := NB447_446.out; have hnb16 := NB446_448.out; have hnc16 := NB448_446.out; have hcz17_0 : w10.cell? ⟨gb446, 0, none⟩ = some (.int .i64 a0_0) := (blk_cell BK446.out 0).trans rfl; have hcz17_1 : w10.cell? ⟨gb446, 1, none⟩ = some (.int .i64 a0_1) := (blk_cell BK446.out 1).trans rfl; have hfz17_0 := blk_frozen BK446.out 0; have hfz17_1 := blk_frozen BK446.out 1; have hnb18 := NB447_448.out; have hnc18 := NB448_447.out; have hcz19_0 : w10.cell? ⟨gb447, 0, none⟩ = some (.int .i64 a1_0) := (blk_cell BK447.out 0).trans rfl; have hcz19_1 : w10.cell? ⟨gb447, 1, none⟩ = some (.int .i64 a1_1) := (blk_cell BK447.out 1).trans rfl; have hfz19_0 := blk_frozen BK447.out 0; have hfz19_1 := blk_frozen BK447.out 1) | ((with_reducible refine gate_callee (f := 17) rfl ?_); refine goesL_ (some 26) rfl rfl Try.func17 (by kernel_rfl) rfl #[.int .i64 a0_1, .int .i64 (wrap64 (-a1_1)), .int .i64 (wrap64 (a1_0 - a0_0))] rfl (by (try simp only [List.map_toArray, List.map_cons, List.map_nil]); first | done | rfl | (simp only [List.length_drop, List.length_take]; rfl)) ?_; (with_reducible refine (biremeref14_Solve.calls k a0_1 (wrap64 (-a1_1)) (wrap64 (a1_0 - a0_0)) t450 t451 t452 t453 t454 _ A5.out).mono ?_); rintro e w20 ⟨rfl, hb⟩; refine ⟨_, rfl, ?_⟩; have n0_ := Aside0.mk (blk_below (g := gb446) (o := .cells #[.int .i64 a0_0, .int .i64 a0_1] 33 (0, 0)) (by (with_reducible repeat (first | refine blk_drewN ?_ _ | refine blk_drew ?_ | refine blk_alloc ?_ _)); refine blk_far ?_ NB446_449.out _; (with_reducible repeat (first | refine blk_drewN ?_ _ | refine blk_drew ?_ | refine blk_alloc ?_ _)); refine blk_far ?_ NB446_449.out _; (with_reducible repeat (first | refine blk_drewN ?_ _ | refine blk_drew ?_ | refine blk_alloc ?_ _)); refine blk_far ?_ NB446_449.out _; (with_reducible repeat (first | refine blk_drewN ?_ _ | refine blk_drew ?_ | refine blk_alloc ?_ _)); refine blk_far ?_ NB446_449.out _; (with_reducible repeat (first | refine blk_drewN ?_ _ | refine blk_drew ?_ | refine blk_alloc ?_ _)); refine blk_far ?_ NB446_449.out _; (with_reducible repeat (first | refine blk_drewN ?_ _ | refine blk_drew ?_ | refine blk_alloc ?_ _)); refine blk_far ?_ NB446_449.out _; (with_reducible repeat (first | refine blk_drewN ?_ _ | refine blk_drew ?_ | refine blk_alloc ?_ _)); refine blk_far ?_ NB446_449.out _; (with_reducible repeat (first | refine blk_drewN ?_ _ | refine blk_drew ?_ | refine blk_alloc ?_ _)); refine blk_far ?_ NB446_449.out _; (with_reducible repeat (first | refine blk_drewN ?_ _ | refine blk_drew ?_ | refine blk_alloc ?_ _)); refine blk_far ?_ NB446_449.out _; (with_reducible repeat (first | refine blk_drewN ?_ _ | refine blk_drew ?_ | refine blk_alloc ?_ _)); refine blk_far ?_ NB446_449.out _; (with_reducible repeat (first | refine blk_drewN ?_ _ | refine blk_drew ?_ | refine blk_alloc ?_ _)); refine blk_far ?_ NB446_449.out _; (with_reducible repeat (first | refine blk_drewN ?_ _ | refine blk_drew ?_ | refine blk_alloc ?_ _)); exact BK446.out) hb); have n1_ := Aside0.mk (blk_below (g := gb447) (o := .cells #[.int .i64 a1_0, .int .i64 a1_1] 33 (0, 0)) (by (with_reducible repeat (first | refine blk_drewN ?_ _ | refine blk_drew ?_ | refine blk_alloc ?_ _)); refine blk_far ?_ NB447_449.out _; (with_reducible repeat (first | refine blk_drewN ?_ _ | refine blk_drew ?_ | refine blk_alloc ?_ _)); refine blk_far ?_ NB447_449.out _; (with_reducible repeat (first | refine blk_drewN ?_ _ | refine blk_drew ?_ | refine blk_alloc ?_ _)); refine blk_far ?_ NB447_449.out _; (with_reducible repeat (first | refine blk_drewN ?_ _ | refine blk_drew ?_ | refine blk_alloc ?_ _)); refine blk_far ?_ NB447_449.out _; (with_reducible repeat (first | refine blk_drewN ?_ _ | refine blk_drew ?_ | refine blk_alloc ?_ _)); refine blk_far ?_ NB447_449.out _; (with_reducible repeat (first | refine blk_drewN ?_ _ | refine blk_drew ?_ | refine blk_alloc ?_ _)); refine blk_far ?_ NB447_449.out _; (with_reducible repeat (first | refine blk_drewN ?_ _ | refine blk_drew ?_ | refine blk_alloc ?_ _)); refine blk_far ?_ NB447_449.out _; (with_reducible repeat (first | refine blk_drewN ?_ _ | refine blk_drew ?_ | refine blk_alloc ?_ _)); refine blk_far ?_ NB447_449.out _; (with_reducible repeat (first | refine blk_drewN ?_ _ | refine blk_drew ?_ | refine blk_alloc ?_ _)); refine blk_far ?_ NB447_449.out _; (with_reducible repeat (first | refine blk_drewN ?_ _ | refine blk_drew ?_ | refine blk_alloc ?_ _)); refine blk_far ?_ NB447_449.out _; (with_reducible repeat (first | refine blk_drewN ?_ _ | refine blk_drew ?_ | refine blk_alloc ?_ _)); refine blk_far ?_ NB447_449.out _; (with_reducible repeat (first | refine blk_drewN ?_ _ | refine blk_drew ?_ | refine blk_alloc ?_ _)); exact BK447.out) hb); have n2_ := Aside0.mk (blk_below (g := gb448) (o := .cells #[.bool false, .bool false, .bool false, .int .i64 0, .int .i64 0, .int .i64 0, .int .i64 0, .int .i64 0, .int .i64 0, .int .i64 0, .int .i64 0] 75 (0, 0)) (by (with_reducible repeat (first | refine blk_drewN ?_ _ | refine blk_drew ?_ | refine blk_alloc ?_ _)); refine blk_far ?_ NB448_449.out _; (with_reducible repeat (first | refine blk_drewN ?_ _ | refine blk_drew ?_ | refine blk_alloc ?_ _)); refine blk_far ?_ NB448_449.out _; (with_reducible repeat (first | refine blk_drewN ?_ _ | refine blk_drew ?_ | refine blk_alloc ?_ _)); refine blk_far ?_ NB448_449.out _; (with_reducible repeat (first | refine blk_drewN ?_ _ | refine blk_drew ?_ | refine blk_alloc ?_ _)); refine blk_far ?_ NB448_449.out _; (with_reducible repeat (first | refine blk_drewN ?_ _ | refine blk_drew ?_ | refine blk_alloc ?_ _)); refine blk_far ?_ NB448_449.out _; (with_reducible repeat (first | refine blk_drewN ?_ _ | refine blk_drew ?_ | refine blk_alloc ?_ _)); refine blk_far ?_ NB448_449.out _; (with_reducible repeat (first | refine blk_drewN ?_ _ | refine blk_drew ?_ | refine blk_alloc ?_ _)); refine blk_far ?_ NB448_449.out _; (with_reducible repeat (first | refine blk_drewN ?_ _ | refine blk_drew ?_ | refine blk_alloc ?_ _)); refine blk_far ?_ NB448_449.out _; (with_reducible repeat (first | refine blk_drewN ?_ _ | refine blk_drew ?_ | refine blk_alloc ?_ _)); refine blk_far ?_ NB448_449.out _; (with_reducible repeat (first | refine blk_drewN ?_ _ | refine blk_drew ?_ | refine blk_alloc ?_ _)); refine blk_far ?_ NB448_449.out _; (with_reducible repeat (first | refine blk_drewN ?_ _ | refine blk_drew ?_ | refine blk_alloc ?_ _)); refine blk_far ?_ NB448_449.out _; (with_reducible repeat (first | refine blk_drewN ?_ _ | refine blk_drew ?_ | refine blk_alloc ?_ _)); exact BK448.out) hb); have n3_ := Aside0.mk (blk_below (g := gb449) (o := .cells #[.bool false, .bool false, .bool false, .int .i64 0, .int .i64 0, .int .i64 0, .int .i64 0, .int .i64 0, .int .i64 0, .int .i64 a2, .int .i64 a3] 75 (0, 0)) (by (with_reducible repeat (first | refine blk_drewN ?_ _ | refine blk_drew ?_ | refine blk_alloc ?_ _)); refine blk_put (cs := #[.bool false, .bool false, .bool false, .int .i64 0, .int .i64 0, .int .i64 0, .int .i64 0, .int .i64 0, .int .i64 0, .int .i64 a2, .int .i64 0]) ?_ 10 _ rfl; (with_reducible repeat (first | refine blk_drewN ?_ _ | refine blk_drew ?_ | refine blk_alloc ?_ _)); refine blk_put (cs := #[.bool false, .bool false, .bool false, .int .i64 0, .int .i64 0, .int .i64 0, .int .i64 0, .int .i64 0, .int .i64 0, .int .i64 0, .int .i64 0]) ?_ 9 _ rfl; (with_reducible repeat (first | refine blk_drewN ?_ _ | refine blk_drew ?_ | refine blk_alloc ?_ _)); refine blk_put (cs := #[.bool false, .bool false, .bool false, .int .i64 0, .int .i64 0, .int .i64 0, .int .i64 0, .int .i64 0, .int .i64 0, .int .i64 0, .int .i64 0]) ?_ 8 _ rfl; (with_reducible repeat (first | refine blk_drewN ?_ _ | refine blk_drew ?_ | refine blk_alloc ?_ _)); refine blk_put (cs := #[.bool false, .bool false, .bool false, .int .i64 0, .int .i64 0, .int .i64 0, .int .i64 0, .int .i64 0, .int .i64 0, .int .i64 0, .int .i64 0]) ?_ 7 _ rfl; (with_reducible repeat (first | refine blk_drewN ?_ _ | refine blk_drew ?_ | refine blk_alloc ?_ _)); refine blk_put (cs := #[.bool false, .bool false, .bool false, .int .i64 0, .int .i64 0, .int .i64 0, .int .i64 0, .int .i64 0, .int .i64 0, .int .i64 0, .int .i64 0]) ?_ 6 _ rfl; (with_reducible repeat (first | refine blk_drewN ?_ _ | refine blk_drew ?_ | refine blk_alloc ?_ _)); refine blk_put (cs := #[.bool false, .bool false, .bool false, .int .i64 0, .int .i64 0, .int .i64 0, .int .i64 0, .int .i64 0, .int .i64 0, .int .i64 0, .int .i64 0]) ?_ 5 _ rfl; (with_reducible repeat (first | refine blk_drewN ?_ _ | refine blk_drew ?_ | refine blk_alloc ?_ _)); refine blk_put (cs := #[.bool false, .bool false, .bool false, .int .i64 0, .int .i64 0, .int .i64 0, .int .i64 0, .int .i64 0, .int .i64 0, .int .i64 0, .int .i64 0]) ?_ 4 _ rfl; (with_reducible repeat (first | refine blk_drewN ?_ _ | refine blk_drew ?_ | refine blk_alloc ?_ _)); refine blk_put (cs := #[.bool false, .bool false, .bool false, .int .i64 0, .int .i64 0, .int .i64 0, .int .i64 0, .int .i64 0, .int .i64 0, .int .i64 0, .int .i64 0]) ?_ 3 _ rfl; (with_reducible repeat (first | refine blk_drewN ?_ _ | refine blk_drew ?_ | refine blk_alloc ?_ _)); refine blk_put (cs := #[.bool false, .bool false, .bool false, .int .i64 0, .int .i64 0, .int .i64 0, .int .i64 0, .int .i64 0, .int .i64 0, .int .i64 0, .int .i64 0]) ?_ 2 _ rfl; (with_reducible repeat (first | refine blk_drewN ?_ _ | refine blk_drew ?_ | refine blk_alloc ?_ _)); refine blk_put (cs := #[.bool false, .bool false, .bool false, .int .i64 0, .int .i64 0, .int .i64 0, .int .i64 0, .int .i64 0, .int .i64 0, .int .i64 0, .int .i64 0]) ?_ 1 _ rfl; (with_reducible repeat (first | refine blk_drewN ?_ _ | refine blk_drew ?_ | refine blk_alloc ?_ _)); refine blk_put (cs := #[.bool false, .bool false, .bool false, .int .i64 0, .int .i64 0, .int .i64 0, .int .i64 0, .int .i64 0, .int .i64 0, .int .i64 0, .int .i64 0]) ?_ 0 _ rfl; (with_reducible repeat (first | refine blk_drewN ?_ _ | refine blk_drew ?_ | refine blk_alloc ?_ _)); exact BK449.out) hb); have n4_ := Aside0.mk (below_step (by repeat (first | (with_reducible first | exact HB.out | apply below_alloc | apply pw_below_drewN | apply below_drew1 | refine below_set ?_ GE446.out | refine below_set ?_ GE447.out | refine below_set ?_ GE448.out | refine below_set ?_ GE449.out) | exact HB.out)) hb); clear BK446; clear BK447; clear BK448; clear BK449; clear HB; have BK446 := n0_; have BK447 := n1_; have BK448 := n2_; have BK449 := n3_; have HB := n4_; clear n0_ n1_ n2_ n3_ n4_; (try clear hb); (try clear hb2); (try clear hk); (try clear hi)) | ((with_reducible refine gate_dst (N := 10) rfl ?_); refine box_event ?hg (N := 10) ?hd (cs := #[.int .i64 0, .int .i64 0, .int .i64 0, .int .i64 0]) (t := 23) ?hr ?_; (case hd => rfl); (case hg => rfl); (case hr => first | (go_simp; done) | (go_simp; rfl)); intro gb455 hg w21 hbox hb; have n0_ := Aside0.mk (blk_below (g := gb446) (o := .cells #[.int .i64 a0_0, .int .i64 a0_1] 33 (0, 0)) (by (with_reducible repeat (first | refine blk_drewN ?_ _ | refine blk_drew ?_ | refine blk_alloc ?_ _)); exact BK446.out) hb); have n1_ := Aside0.mk (blk_below (g := gb447) (o := .cells #[.int .i64 a1_0, .int .i64 a1_1] 33 (0, 0)) (by (with_reducible repeat (first | refine blk_drewN ?_ _ | refine blk_drew ?_ | refine blk_alloc ?_ _)); exact BK447.out) hb); have n2_ := Aside0.mk (blk_below (g := gb448) (o := .cells #[.bool false, .bool false, .bool false, .int .i64 0, .int .i64 0, .int .i64 0, .int .i64 0, .int .i64 0, .int .i64 0, .int .i64 0, .int .i64 0] 75 (0, 0)) (by (with_reducible repeat (first | refine blk_drewN ?_ _ | refine blk_drew ?_ | refine blk_alloc ?_ _)); exact BK448.out) hb); have n3_ := Aside0.mk (blk_below (g := gb449) (o := .cells #[.bool false, .bool false, .bool false, .int .i64 0, .int .i64 0, .int .i64 0, .int .i64 0, .int .i64 0, .int .i64 0, .int .i64 a2, .int .i64 a3] 75 (0, 0)) (by (with_reducible repeat (first | refine blk_drewN ?_ _ | refine blk_drew ?_ | refine blk_alloc ?_ _)); exact BK449.out) hb); have n4_ := Aside0.mk (below_step (by repeat (first | (with_reducible first | exact HB.out | apply below_alloc | apply pw_below_drewN | apply below_drew1 | refine below_set ?_ GE446.out | refine below_set ?_ GE447.out | refine below_set ?_ GE448.out | refine below_set ?_ GE449.out) | exact HB.out)) hb); have n5_ := Aside0.mk (hbox); have n6_ := Aside0.mk ((by rw [hg]; exact (below_size (by repeat (first | (with_reducible first | exact HB.out | apply below_alloc | apply pw_below_drewN | apply below_drew1 | refine below_set ?_ GE446.out | refine below_set ?_ GE447.out | refine below_set ?_ GE448.out | refine below_set ?_ GE449.out) | exact HB.out))) : w.heap.size ≤ gb455)); have n7_ := Aside0.mk ((by rw [hg]; exact (below_size (by repeat (first | (with_reducible first | exact HB.out | apply below_alloc | apply pw_below_drewN | apply below_drew1 | refine below_set ?_ GE446.out | refine below_set ?_ GE447.out | refine below_set ?_ GE448.out | refine below_set ?_ GE449.out) | exact HB.out))) : w.heap.size ≤ gb455)); have n8_ := Aside0.mk ((by rw [hg]; exact Nat.ne_of_lt (blk_lt (g := gb446) (o := .cells #[.int .i64 a0_0, .int .i64 a0_1] 33 (0, 0)) (by (with_reducible repeat (first | refine blk_drewN ?_ _ | refine blk_drew ?_ | refine blk_alloc ?_ _)); exact BK446.out)) : gb446 ≠ gb455)); have n9_ := Aside0.mk ((by rw [hg]; exact Nat.ne_of_gt (blk_lt (g := gb446) (o := .cells #[.int .i64 a0_0, .int .i64 a0_1] 33 (0, 0)) (by (with_reducible repeat (first | refine blk_drewN ?_ _ | refine blk_drew ?_ | refine blk_alloc ?_ _)); exact BK446.out)) : gb455 ≠ gb446)); have n10_ := Aside0.mk ((by rw [hg]; exact Nat.ne_of_lt (blk_lt (g := gb447) (o := .cells #[.int .i64 a1_0, .int .i64 a1_1] 33 (0, 0)) (by (with_reducible repeat (first | refine blk_drewN ?_ _ | refine blk_drew ?_ | refine blk_alloc ?_ _)); exact BK447.out)) : gb447 ≠ gb455)); have n11_ := Aside0.mk ((by rw [hg]; exact Nat.ne_of_gt (blk_lt (g := gb447) (o := .cells #[.int .i64 a1_0, .int .i64 a1_1] 33 (0, 0)) (by (with_reducible repeat (first | refine blk_drewN ?_ _ | refine blk_drew ?_ | refine blk_alloc ?_ _)); exact BK447.out)) : gb455 ≠ gb447)); have n12_ := Aside0.mk ((by rw [hg]; exact Nat.ne_of_lt (blk_lt (g := gb448) (o := .cells #[.bool false, .bool false, .bool false, .int .i64 0, .int .i64 0, .int .i64 0, .int .i64 0, .int .i64 0, .int .i64 0, .int .i64 0, .int .i64 0] 75 (0, 0)) (by (with_reducible repeat (first | refine blk_drewN ?_ _ | refine blk_drew ?_ | refine blk_alloc ?_ _)); exact BK448.out)) : gb448 ≠ gb455)); have n13_ := Aside0.mk ((by rw [hg]; exact Nat.ne_of_gt (blk_lt (g := gb448) (o := .cells #[.bool false, .bool false, .bool false, .int .i64 0, .int .i64 0, .int .i64 0, .int .i64 0, .int .i64 0, .int .i64 0, .int .i64 0, .int .i64 0] 75 (0, 0)) (by (with_reducible repeat (first | refine blk_drewN ?_ _ | refine blk_drew ?_ | refine blk_alloc ?_ _)); exact BK448.out)) : gb455 ≠ gb448)); have n14_ := Aside0.mk ((by rw [hg]; exact Nat.ne_of_lt (blk_lt (g := gb449) (o := .cells #[.bool false, .bool false, .bool false, .int .i64 0, .int .i64 0, .int .i64 0, .int .i64 0, .int .i64 0, .int .i64 0, .int .i64 a2, .int .i64 a3] 75 (0, 0)) (by (with_reducible repeat (first | refine blk_drewN ?_ _ | refine blk_drew ?_ | refine blk_alloc ?_ _)); exact BK449.out)) : gb449 ≠ gb455)); have n15_ := Aside0.mk ((by rw [hg]; exact Nat.ne_of_gt (blk_lt (g := gb449) (o := .cells #[.bool false, .bool false, .bool false, .int .i64 0, .int .i64 0, .int .i64 0, .int .i64 0, .int .i64 0, .int .i64 0, .int .i64 a2, .int .i64 a3] 75 (0, 0)) (by (with_reducible repeat (first | refine blk_drewN ?_ _ | refine blk_drew ?_ | refine blk_alloc ?_ _)); exact BK449.out)) : gb455 ≠ gb449)); clear BK446; clear BK447; clear BK448; clear BK449; clear HB; have BK446 := n0_; have BK447 := n1_; have BK448 := n2_; have BK449 := n3_; have HB := n4_; have BK455 := n5_; have GW455 := n6_; have GE455 := n7_; have NB446_455 := n8_; have NB455_446 := n9_; have NB447_455 := n10_; have NB455_447 := n11_; have NB448_455 := n12_; have NB455_448 := n13_; have NB449_455 := n14_; have NB455_449 := n15_; clear n0_ n1_ n2_ n3_ n4_ n5_ n6_ n7_ n8_ n9_ n10_ n11_ n12_ n13_ n14_ n15_; clear hb hbox hg; have hnb22 := NB455_446.out; have hnc22 := NB446_455.out; have hnb23 := NB455_447.out; have hnc23 := NB447_455.out; have hnb24 := NB455_448.out; have hnc24 := NB448_455.out; have hnb25 := NB455_449.out; have hnc25 := NB449_455.out; have hcz26_0 : w21.cell? ⟨gb455, 0, none⟩ = some (.int .i64 0) := (blk_cell BK455.out 0).trans rfl; have hcz26_1 : w21.cell? ⟨gb455, 1, none⟩ = some (.int .i64 0) := (blk_cell BK455.out 1).trans rfl; have hcz26_2 : w21.cell? ⟨gb455, 2, none⟩ = some (.int .i64 0) := (blk_cell BK455.out 2).trans rfl; have hcz26_3 : w21.cell? ⟨gb455, 3, none⟩ = some (.int .i64 0) := (blk_cell BK455.out 3).trans rfl; have hfz26_0 := blk_frozen BK455.out 0; have hfz26_1 := blk_frozen BK455.out 1; have hfz26_2 := blk_frozen BK455.out 2; have hfz26_3 := blk_frozen BK455.out 3))
 (try simp only [Act.put, List.setIfInBounds_toArray, List.set_cons_zero, List.set_cons_succ])
 go_cut [] (fun wc => ∃ (kq : Nat) (x449000_5 : Bool) (x449001_5 : Bool) (x449002_5 : Bool) (x449003_5 : Int) (x449004_5 : Int) (x449005_5 : Int) (x449006_5 : Int) (x449007_5 : Int) (x449008_5 : Int) (x449009_5 : Int) (x449010_5 : Int) (x450000_5 : Bool) (x450001_5 : Bool), Aside0 (biremeref14_Of.j1 kq a2 a3 a1_0 a1_1 x450000_5 x450001_5 false 0 0 0 0 0 0 a2 a3 t450 t451 t452 t453 = some (r1, r2, r3, r4, r5, r6, r7, r8, r9, r10, r11)) ∧ Aside0 (kq ≤ k) ∧ Aside0 (wc.heap[gb446]? = some (.cells #[.int .i64 a0_0, .int .i64 a0_1] 33 (0, 0))) ∧ Aside0 (wc.heap[gb447]? = some (.cells #[.int .i64 a1_0, .int .i64 a1_1] 33 (0, 0))) ∧ Aside0 (wc.heap[gb448]? = some (.cells #[.bool x449000_5, .bool x449001_5, .bool x449002_5, .int .i64 x449003_5, .int .i64 x449004_5, .int .i64 x449005_5, .int .i64 x449006_5, .int .i64 x449007_5, .int .i64 x449008_5, .int .i64 x449009_5, .int .i64 x449010_5] 75 (0, 0))) ∧ Aside0 (wc.heap[gb449]? = some (.cells #[.bool x450000_5, .bool x450001_5, .bool false, .int .i64 0, .int .i64 0, .int .i64 0, .int .i64 0, .int .i64 0, .int .i64 0, .int .i64 a2, .int .i64 a3] 75 (0, 0))) ∧ Aside0 (wc.heap[gb455]? = some (.cells #[.int .i64 t450, .int .i64 t451, .int .i64 t452, .int .i64 t453] 23 (0, 0))) ∧ Aside0 (Below w.heap.size w wc))
 case first =>
  have H := HC6.out
  clear HC6
  have HC27 := Aside0.mk H
  clear H
  go_upto_region 3 with (fail)
  go_cut [29] (fun v29 wc => ∃ (kq : Nat) (x29_26 : Bool), v29 = .bool x29_26 ∧ Aside0 (biremeref14_Of.j0 kq a2 a3 x29_26 a0_0 a0_1 a1_0 a1_1 false false false 0 0 0 0 0 0 a2 a3 t450 t451 t452 t453 = some (r1, r2, r3, r4, r5, r6, r7, r8, r9, r10, r11)) ∧ Aside0 (kq ≤ k) ∧ Aside0 (wc.heap[gb446]? = some (.cells #[.int .i64 a0_0, .int .i64 a0_1] 33 (0, 0))) ∧ Aside0 (wc.heap[gb447]? = some (.cells #[.int .i64 a1_0, .int .i64 a1_1] 33 (0, 0))) ∧ Aside0 (wc.heap[gb448]? = some (.cells #[.bool false, .bool false, .bool false, .int .i64 0, .int .i64 0, .int .i64 0, .int .i64 0, .int .i64 0, .int .i64 0, .int .i64 0, .int .i64 0] 75 (0, 0))) ∧ Aside0 (wc.heap[gb449]? = some (.cells #[.bool false, .bool false, .bool false, .int .i64 0, .int .i64 0, .int .i64 0, .int .i64 0, .int .i64 0, .int .i64 0, .int .i64 a2, .int .i64 a3] 75 (0, 0))) ∧ Aside0 (wc.heap[gb455]? = some (.cells #[.int .i64 t450, .int .i64 t451, .int .i64 t452, .int .i64 t453] 23 (0, 0))) ∧ Aside0 (Below w.heap.size w wc))
  case first =>
   have H := HC27.out
   clear HC27
   by_cases c28 : t454 = true
   ·subst c28
    have H1 : (if a2 = 0 then (biremeref14_Of.j0 k a2 a3 true a0_0 a0_1 a1_0 a1_1 false false false 0 0 0 0 0 0 a2 a3 t450 t451 t452 t453) else (biremeref14_Of.j0 k a2 a3 (a3 == 0) a0_0 a0_1 a1_0 a1_1 false false false 0 0 0 0 0 0 a2 a3 t450 t451 t452 t453)) = some (r1, r2, r3, r4, r5, r6, r7, r8, r9, r10, r11) := by rw [if_pos rfl] at H; exact H
    clear H
    have H := H1
    clear H1
    by_cases c29 : a2 = 0
    ·rw [if_pos c29] at H
     have c29b0 : (a2 == 0) = true := beq_iff_eq.mpr c29
     have c29b1 : (a2 != 0) = false := bne_eq_false_iff_eq.mpr c29
     clear c29
     (first | rw [c29b0] | (simp only [i64_w, i32_w]; rw [c29b0]) | skip)
     have H' := Aside0.mk H
     clear H
     go_wp2
     go_meet
     case rel => exact ⟨_, (true), (by first | rfl | (simp; done) | (simp [*]; done)), H', ⟨by first | omega | exact Nat.le_refl _⟩, ⟨by (with_reducible repeat (first | refine blk_drewN ?_ _ | refine blk_drew ?_ | refine blk_alloc ?_ _)); refine blk_far ?_ NB446_455.out _; (with_reducible repeat (first | refine blk_drewN ?_ _ | refine blk_drew ?_ | refine blk_alloc ?_ _)); refine blk_far ?_ NB446_455.out _; (with_reducible repeat (first | refine blk_drewN ?_ _ | refine blk_drew ?_ | refine blk_alloc ?_ _)); refine blk_far ?_ NB446_455.out _; (with_reducible repeat (first | refine blk_drewN ?_ _ | refine blk_drew ?_ | refine blk_alloc ?_ _)); refine blk_far ?_ NB446_455.out _; (with_reducible repeat (first | refine blk_drewN ?_ _ | refine blk_drew ?_ | refine blk_alloc ?_ _)); exact BK446.out⟩, ⟨by (with_reducible repeat (first | refine blk_drewN ?_ _ | refine blk_drew ?_ | refine blk_alloc ?_ _)); refine blk_far ?_ NB447_455.out _; (with_reducible repeat (first | refine blk_drewN ?_ _ | refine blk_drew ?_ | refine blk_alloc ?_ _)); refine blk_far ?_ NB447_455.out _; (with_reducible repeat (first | refine blk_drewN ?_ _ | refine blk_drew ?_ | refine blk_alloc ?_ _)); refine blk_far ?_ NB447_455.out _; (with_reducible repeat (first | refine blk_drewN ?_ _ | refine blk_drew ?_ | refine blk_alloc ?_ _)); refine blk_far ?_ NB447_455.out _; (with_reducible repeat (first | refine blk_drewN ?_ _ | refine blk_drew ?_ | refine blk_alloc ?_ _)); exact BK447.out⟩, ⟨by (with_reducible repeat (first | refine blk_drewN ?_ _ | refine blk_drew ?_ | refine blk_alloc ?_ _)); refine blk_far ?_ NB448_455.out _; (with_reducible repeat (first | refine blk_drewN ?_ _ | refine blk_drew ?_ | refine blk_alloc ?_ _)); refine blk_far ?_ NB448_455.out _; (with_reducible repeat (first | refine blk_drewN ?_ _ | refine blk_drew ?_ | refine blk_alloc ?_ _)); refine blk_far ?_ NB448_455.out _; (with_reducible repeat (first | refine blk_drewN ?_ _ | refine blk_drew ?_ | refine blk_alloc ?_ _)); refine blk_far ?_ NB448_455.out _; (with_reducible repeat (first | refine blk_drewN ?_ _ | refine blk_drew ?_ | refine blk_alloc ?_ _)); exact BK448.out⟩, ⟨by (with_reducible repeat (first | refine blk_drewN ?_ _ | refine blk_drew ?_ | refine blk_alloc ?_ _)); refine blk_far ?_ NB449_455.out _; (with_reducible repeat (first | refine blk_drewN ?_ _ | refine blk_drew ?_ | refine blk_alloc ?_ _)); refine blk_far ?_ NB449_455.out _; (with_reducible repeat (first | refine blk_drewN ?_ _ | refine blk_drew ?_ | refine blk_alloc ?_ _)); refine blk_far ?_ NB449_455.out _; (with_reducible repeat (first | refine blk_drewN ?_ _ | refine blk_drew ?_ | refine blk_alloc ?_ _)); refine blk_far ?_ NB449_455.out _; (with_reducible repeat (first | refine blk_drewN ?_ _ | refine blk_drew ?_ | refine blk_alloc ?_ _)); exact BK449.out⟩, ⟨by (with_reducible repeat (first | refine blk_drewN ?_ _ | refine blk_drew ?_ | refine blk_alloc ?_ _)); refine blk_put (cs := #[.int .i64 t450, .int .i64 t451, .int .i64 t452, .int .i64 0]) ?_ 3 _ rfl; (with_reducible repeat (first | refine blk_drewN ?_ _ | refine blk_drew ?_ | refine blk_alloc ?_ _)); refine blk_put (cs := #[.int .i64 t450, .int .i64 t451, .int .i64 0, .int .i64 0]) ?_ 2 _ rfl; (with_reducible repeat (first | refine blk_drewN ?_ _ | refine blk_drew ?_ | refine blk_alloc ?_ _)); refine blk_put (cs := #[.int .i64 t450, .int .i64 0, .int .i64 0, .int .i64 0]) ?_ 1 _ rfl; (with_reducible repeat (first | refine blk_drewN ?_ _ | refine blk_drew ?_ | refine blk_alloc ?_ _)); refine blk_put (cs := #[.int .i64 0, .int .i64 0, .int .i64 0, .int .i64 0]) ?_ 0 _ rfl; (with_reducible repeat (first | refine blk_drewN ?_ _ | refine blk_drew ?_ | refine blk_alloc ?_ _)); exact BK455.out⟩, ⟨by repeat (first | (with_reducible first | exact HB.out | apply below_alloc | apply pw_below_drewN | apply below_drew1 | refine below_set ?_ GE446.out | refine below_set ?_ GE447.out | refine below_set ?_ GE448.out | refine below_set ?_ GE449.out | refine below_set ?_ GE455.out) | exact HB.out)⟩⟩
    ·rw [if_neg c29] at H
     have c29b0 : (a2 == 0) = false := beq_eq_false_iff_ne.mpr c29
     have c29b1 : (a2 != 0) = true := bne_iff_ne.mpr c29
     (first | rw [c29b0] | (simp only [i64_w, i32_w]; rw [c29b0]) | skip)
     have H' := Aside0.mk H
     clear H
     go_wp2
     go_meet
     case rel => exact ⟨_, ((a3 == 0)), (by first | rfl | (simp; done) | (simp [*]; done)), H', ⟨by first | omega | exact Nat.le_refl _⟩, ⟨by (with_reducible repeat (first | refine blk_drewN ?_ _ | refine blk_drew ?_ | refine blk_alloc ?_ _)); refine blk_far ?_ NB446_455.out _; (with_reducible repeat (first | refine blk_drewN ?_ _ | refine blk_drew ?_ | refine blk_alloc ?_ _)); refine blk_far ?_ NB446_455.out _; (with_reducible repeat (first | refine blk_drewN ?_ _ | refine blk_drew ?_ | refine blk_alloc ?_ _)); refine blk_far ?_ NB446_455.out _; (with_reducible repeat (first | refine blk_drewN ?_ _ | refine blk_drew ?_ | refine blk_alloc ?_ _)); refine blk_far ?_ NB446_455.out _; (with_reducible repeat (first | refine blk_drewN ?_ _ | refine blk_drew ?_ | refine blk_alloc ?_ _)); exact BK446.out⟩, ⟨by (with_reducible repeat (first | refine blk_drewN ?_ _ | refine blk_drew ?_ | refine blk_alloc ?_ _)); refine blk_far ?_ NB447_455.out _; (with_reducible repeat (first | refine blk_drewN ?_ _ | refine blk_drew ?_ | refine blk_alloc ?_ _)); refine blk_far ?_ NB447_455.out _; (with_reducible repeat (first | refine blk_drewN ?_ _ | refine blk_drew ?_ | refine blk_alloc ?_ _)); refine blk_far ?_ NB447_455.out _; (with_reducible repeat (first | refine blk_drewN ?_ _ | refine blk_drew ?_ | refine blk_alloc ?_ _)); refine blk_far ?_ NB447_455.out _; (with_reducible repeat (first | refine blk_drewN ?_ _ | refine blk_drew ?_ | refine blk_alloc ?_ _)); exact BK447.out⟩, ⟨by (with_reducible repeat (first | refine blk_drewN ?_ _ | refine blk_drew ?_ | refine blk_alloc ?_ _)); refine blk_far ?_ NB448_455.out _; (with_reducible repeat (first | refine blk_drewN ?_ _ | refine blk_drew ?_ | refine blk_alloc ?_ _)); refine blk_far ?_ NB448_455.out _; (with_reducible repeat (first | refine blk_drewN ?_ _ | refine blk_drew ?_ | refine blk_alloc ?_ _)); refine blk_far ?_ NB448_455.out _; (with_reducible repeat (first | refine blk_drewN ?_ _ | refine blk_drew ?_ | refine blk_alloc ?_ _)); refine blk_far ?_ NB448_455.out _; (with_reducible repeat (first | refine blk_drewN ?_ _ | refine blk_drew ?_ | refine blk_alloc ?_ _)); exact BK448.out⟩, ⟨by (with_reducible repeat (first | refine blk_drewN ?_ _ | refine blk_drew ?_ | refine blk_alloc ?_ _)); refine blk_far ?_ NB449_455.out _; (with_reducible repeat (first | refine blk_drewN ?_ _ | refine blk_drew ?_ | refine blk_alloc ?_ _)); refine blk_far ?_ NB449_455.out _; (with_reducible repeat (first | refine blk_drewN ?_ _ | refine blk_drew ?_ | refine blk_alloc ?_ _)); refine blk_far ?_ NB449_455.out _; (with_reducible repeat (first | refine blk_drewN ?_ _ | refine blk_drew ?_ | refine blk_alloc ?_ _)); refine blk_far ?_ NB449_455.out _; (with_reducible repeat (first | refine blk_drewN ?_ _ | refine blk_drew ?_ | refine blk_alloc ?_ _)); exact BK449.out⟩, ⟨by (with_reducible repeat (first | refine blk_drewN ?_ _ | refine blk_drew ?_ | refine blk_alloc ?_ _)); refine blk_put (cs := #[.int .i64 t450, .int .i64 t451, .int .i64 t452, .int .i64 0]) ?_ 3 _ rfl; (with_reducible repeat (first | refine blk_drewN ?_ _ | refine blk_drew ?_ | refine blk_alloc ?_ _)); refine blk_put (cs := #[.int .i64 t450, .int .i64 t451, .int .i64 0, .int .i64 0]) ?_ 2 _ rfl; (with_reducible repeat (first | refine blk_drewN ?_ _ | refine blk_drew ?_ | refine blk_alloc ?_ _)); refine blk_put (cs := #[.int .i64 t450, .int .i64 0, .int .i64 0, .int .i64 0]) ?_ 1 _ rfl; (with_reducible repeat (first | refine blk_drewN ?_ _ | refine blk_drew ?_ | refine blk_alloc ?_ _)); refine blk_put (cs := #[.int .i64 0, .int .i64 0, .int .i64 0, .int .i64 0]) ?_ 0 _ rfl; (with_reducible repeat (first | refine blk_drewN ?_ _ | refine blk_drew ?_ | refine blk_alloc ?_ _)); exact BK455.out⟩, ⟨by repeat (first | (with_reducible first | exact HB.out | apply below_alloc | apply pw_below_drewN | apply below_drew1 | refine below_set ?_ GE446.out | refine below_set ?_ GE447.out | refine below_set ?_ GE448.out | refine below_set ?_ GE449.out | refine below_set ?_ GE455.out) | exact HB.out)⟩⟩
   ·replace c28 := Bool.eq_false_iff.mpr c28
    subst c28
    have H1 : (biremeref14_Of.j0 k a2 a3 true a0_0 a0_1 a1_0 a1_1 false false false 0 0 0 0 0 0 a2 a3 t450 t451 t452 t453) = some (r1, r2, r3, r4, r5, r6, r7, r8, r9, r10, r11) := by rw [if_neg (show ¬ (false = true) by decide)] at H; exact H
    clear H
    have H := H1
    clear H1
    have H' := Aside0.mk H
    clear H
    go_wp2
    go_meet
    case rel => exact ⟨_, (true), (by first | rfl | (simp; done) | (simp [*]; done)), H', ⟨by first | omega | exact Nat.le_refl _⟩, ⟨by (with_reducible repeat (first | refine blk_drewN ?_ _ | refine blk_drew ?_ | refine blk_alloc ?_ _)); refine blk_far ?_ NB446_455.out _; (with_reducible repeat (first | refine blk_drewN ?_ _ | refine blk_drew ?_ | refine blk_alloc ?_ _)); refine blk_far ?_ NB446_455.out _; (with_reducible repeat (first | refine blk_drewN ?_ _ | refine blk_drew ?_ | refine blk_alloc ?_ _)); refine blk_far ?_ NB446_455.out _; (with_reducible repeat (first | refine blk_drewN ?_ _ | refine blk_drew ?_ | refine blk_alloc ?_ _)); refine blk_far ?_ NB446_455.out _; (with_reducible repeat (first | refine blk_drewN ?_ _ | refine blk_drew ?_ | refine blk_alloc ?_ _)); exact BK446.out⟩, ⟨by (with_reducible repeat (first | refine blk_drewN ?_ _ | refine blk_drew ?_ | refine blk_alloc ?_ _)); refine blk_far ?_ NB447_455.out _; (with_reducible repeat (first | refine blk_drewN ?_ _ | refine blk_drew ?_ | refine blk_alloc ?_ _)); refine blk_far ?_ NB447_455.out _; (with_reducible repeat (first | refine blk_drewN ?_ _ | refine blk_drew ?_ | refine blk_alloc ?_ _)); refine blk_far ?_ NB447_455.out _; (with_reducible repeat (first | refine blk_drewN ?_ _ | refine blk_drew ?_ | refine blk_alloc ?_ _)); refine blk_far ?_ NB447_455.out _; (with_reducible repeat (first | refine blk_drewN ?_ _ | refine blk_drew ?_ | refine blk_alloc ?_ _)); exact BK447.out⟩, ⟨by (with_reducible repeat (first | refine blk_drewN ?_ _ | refine blk_drew ?_ | refine blk_alloc ?_ _)); refine blk_far ?_ NB448_455.out _; (with_reducible repeat (first | refine blk_drewN ?_ _ | refine blk_drew ?_ | refine blk_alloc ?_ _)); refine blk_far ?_ NB448_455.out _; (with_reducible repeat (first | refine blk_drewN ?_ _ | refine blk_drew ?_ | refine blk_alloc ?_ _)); refine blk_far ?_ NB448_455.out _; (with_reducible repeat (first | refine blk_drewN ?_ _ | refine blk_drew ?_ | refine blk_alloc ?_ _)); refine blk_far ?_ NB448_455.out _; (with_reducible repeat (first | refine blk_drewN ?_ _ | refine blk_drew ?_ | refine blk_alloc ?_ _)); exact BK448.out⟩, ⟨by (with_reducible repeat (first | refine blk_drewN ?_ _ | refine blk_drew ?_ | refine blk_alloc ?_ _)); refine blk_far ?_ NB449_455.out _; (with_reducible repeat (first | refine blk_drewN ?_ _ | refine blk_drew ?_ | refine blk_alloc ?_ _)); refine blk_far ?_ NB449_455.out _; (with_reducible repeat (first | refine blk_drewN ?_ _ | refine blk_drew ?_ | refine blk_alloc ?_ _)); refine blk_far ?_ NB449_455.out _; (with_reducible repeat (first | refine blk_drewN ?_ _ | refine blk_drew ?_ | refine blk_alloc ?_ _)); refine blk_far ?_ NB449_455.out _; (with_reducible repeat (first | refine blk_drewN ?_ _ | refine blk_drew ?_ | refine blk_alloc ?_ _)); exact BK449.out⟩, ⟨by (with_reducible repeat (first | refine blk_drewN ?_ _ | refine blk_drew ?_ | refine blk_alloc ?_ _)); refine blk_put (cs := #[.int .i64 t450, .int .i64 t451, .int .i64 t452, .int .i64 0]) ?_ 3 _ rfl; (with_reducible repeat (first | refine blk_drewN ?_ _ | refine blk_drew ?_ | refine blk_alloc ?_ _)); refine blk_put (cs := #[.int .i64 t450, .int .i64 t451, .int .i64 0, .int .i64 0]) ?_ 2 _ rfl; (with_reducible repeat (first | refine blk_drewN ?_ _ | refine blk_drew ?_ | refine blk_alloc ?_ _)); refine blk_put (cs := #[.int .i64 t450, .int .i64 0, .int .i64 0, .int .i64 0]) ?_ 1 _ rfl; (with_reducible repeat (first | refine blk_drewN ?_ _ | refine blk_drew ?_ | refine blk_alloc ?_ _)); refine blk_put (cs := #[.int .i64 0, .int .i64 0, .int .i64 0, .int .i64 0]) ?_ 0 _ rfl; (with_reducible repeat (first | refine blk_drewN ?_ _ | refine blk_drew ?_ | refine blk_alloc ?_ _)); exact BK455.out⟩, ⟨by repeat (first | (with_reducible first | exact HB.out | apply below_alloc | apply pw_below_drewN | apply below_drew1 | refine below_set ?_ GE446.out | refine below_set ?_ GE447.out | refine below_set ?_ GE448.out | refine below_set ?_ GE449.out | refine below_set ?_ GE455.out) | exact HB.out)⟩⟩
  case rest =>
   clear HC27
   try clear c1
   try clear c2
   try clear p2
   try clear c4
   try clear p6
   try clear c11
   try clear c12
   try clear c13
   try clear c15
   try clear c16
   try clear c17
   try clear c18
   try clear c22
   try clear c23
   try clear c24
   try clear c25
   try clear c28
   try clear c29
   try clear c29b0
   try clear c29b1
   try clear hcz14_0
   try clear hcz14_1
   try clear hcz14_10
   try clear hcz14_2
   try clear hcz14_3
   try clear hcz14_4
   try clear hcz14_5
   try clear hcz14_6
   try clear hcz14_7
   try clear hcz14_8
   try clear hcz14_9
   try clear hcz17_0
   try clear hcz17_1
   try clear hcz19_0
   try clear hcz19_1
   try clear hcz26_0
   try clear hcz26_1
   try clear hcz26_2
   try clear hcz26_3
   try clear hfz14_0
   try clear hfz14_1
   try clear hfz14_10
   try clear hfz14_2
   try clear hfz14_3
   try clear hfz14_4
   try clear hfz14_5
   try clear hfz14_6
   try clear hfz14_7
   try clear hfz14_8
   try clear hfz14_9
   try clear hfz17_0
   try clear hfz17_1
   try clear hfz19_0
   try clear hfz19_1
   try clear hfz26_0
   try clear hfz26_1
   try clear hfz26_2
   try clear hfz26_3
   obtain ⟨kq, x29_26, rfl, HA, HJ26, BK446, BK447, BK448, BK449, BK455, HB⟩ := hcut
   cases kq with
   | zero => exact absurd HA.out (by simp [biremeref14_Of.j0])
   | succ kj26 =>
    have H := HA.out
    clear HA
    simp only [biremeref14_Of.j0] at H
    by_cases c30 : x29_26 = true
    ·subst c30
     have H1 : (some (true, false, false, 0, 0, 0, 0, 0, 0, a2, a3)) = some (r1, r2, r3, r4, r5, r6, r7, r8, r9, r10, r11) := by rw [if_pos rfl] at H; exact H
     clear H
     have H := H1
     clear H1
     simp only [Option.some.injEq, Prod.mk.injEq] at H
     obtain ⟨rfl, rfl, rfl, rfl, rfl, rfl, rfl, rfl, rfl, rfl, rfl⟩ := H
     have hnb31 := NB449_446.out
     have hnc31 := NB446_449.out
     have hnb32 := NB449_447.out
     have hnc32 := NB447_449.out
     have hnb33 := NB449_448.out
     have hnc33 := NB448_449.out
     have hnb34 := NB449_455.out
     have hnc34 := NB455_449.out
     have hcz35_0 : wc.cell? ⟨gb449, 0, none⟩ = some (.bool false) := (blk_cell BK449.out 0).trans rfl
     have hcz35_1 : wc.cell? ⟨gb449, 1, none⟩ = some (.bool false) := (blk_cell BK449.out 1).trans rfl
     have hcz35_2 : wc.cell? ⟨gb449, 2, none⟩ = some (.bool false) := (blk_cell BK449.out 2).trans rfl
     have hcz35_3 : wc.cell? ⟨gb449, 3, none⟩ = some (.int .i64 0) := (blk_cell BK449.out 3).trans rfl
     have hcz35_4 : wc.cell? ⟨gb449, 4, none⟩ = some (.int .i64 0) := (blk_cell BK449.out 4).trans rfl
     have hcz35_5 : wc.cell? ⟨gb449, 5, none⟩ = some (.int .i64 0) := (blk_cell BK449.out 5).trans rfl
     have hcz35_6 : wc.cell? ⟨gb449, 6, none⟩ = some (.int .i64 0) := (blk_cell BK449.out 6).trans rfl
     have hcz35_7 : wc.cell? ⟨gb449, 7, none⟩ = some (.int .i64 0) := (blk_cell BK449.out 7).trans rfl
     have hcz35_8 : wc.cell? ⟨gb449, 8, none⟩ = some (.int .i64 0) := (blk_cell BK449.out 8).trans rfl
     have hcz35_9 : wc.cell? ⟨gb449, 9, none⟩ = some (.int .i64 a2) := (blk_cell BK449.out 9).trans rfl
     have hcz35_10 : wc.cell? ⟨gb449, 10, none⟩ = some (.int .i64 a3) := (blk_cell BK449.out 10).trans rfl
     have hfz35_0 := blk_frozen BK449.out 0
     have hfz35_1 := blk_frozen BK449.out 1
     have hfz35_2 := blk_frozen BK449.out 2
     have hfz35_3 := blk_frozen BK449.out 3
     have hfz35_4 := blk_frozen BK449.out 4
     have hfz35_5 := blk_frozen BK449.out 5
     have hfz35_6 := blk_frozen BK449.out 6
     have hfz35_7 := blk_frozen BK449.out 7
     have hfz35_8 := blk_frozen BK449.out 8
     have hfz35_9 := blk_frozen BK449.out 9
     have hfz35_10 := blk_frozen BK449.out 10
     have hnb36 := NB448_446.out
     have hnc36 := NB446_448.out
     have hnb37 := NB448_447.out
     have hnc37 := NB447_448.out
     have hnb38 := NB448_455.out
     have hnc38 := NB455_448.out
     have hcz39_0 : wc.cell? ⟨gb448, 0, none⟩ = some (.bool false) := (blk_cell BK448.out 0).trans rfl
     have hcz39_1 : wc.cell? ⟨gb448, 1, none⟩ = some (.bool false) := (blk_cell BK448.out 1).trans rfl
     have hcz39_2 : wc.cell? ⟨gb448, 2, none⟩ = some (.bool false) := (blk_cell BK448.out 2).trans rfl
     have hcz39_3 : wc.cell? ⟨gb448, 3, none⟩ = some (.int .i64 0) := (blk_cell BK448.out 3).trans rfl
     have hcz39_4 : wc.cell? ⟨gb448, 4, none⟩ = some (.int .i64 0) := (blk_cell BK448.out 4).trans rfl
     have hcz39_5 : wc.cell? ⟨gb448, 5, none⟩ = some (.int .i64 0) := (blk_cell BK448.out 5).trans rfl
     have hcz39_6 : wc.cell? ⟨gb448, 6, none⟩ = some (.int .i64 0) := (blk_cell BK448.out 6).trans rfl
     have hcz39_7 : wc.cell? ⟨gb448, 7, none⟩ = some (.int .i64 0) := (blk_cell BK448.out 7).trans rfl
     have hcz39_8 : wc.cell? ⟨gb448, 8, none⟩ = some (.int .i64 0) := (blk_cell BK448.out 8).trans rfl
     have hcz39_9 : wc.cell? ⟨gb448, 9, none⟩ = some (.int .i64 0) := (blk_cell BK448.out 9).trans rfl
     have hcz39_10 : wc.cell? ⟨gb448, 10, none⟩ = some (.int .i64 0) := (blk_cell BK448.out 10).trans rfl
     have hfz39_0 := blk_frozen BK448.out 0
     have hfz39_1 := blk_frozen BK448.out 1
     have hfz39_2 := blk_frozen BK448.out 2
     have hfz39_3 := blk_frozen BK448.out 3
     have hfz39_4 := blk_frozen BK448.out 4
     have hfz39_5 := blk_frozen BK448.out 5
     have hfz39_6 := blk_frozen BK448.out 6
     have hfz39_7 := blk_frozen BK448.out 7
     have hfz39_8 := blk_frozen BK448.out 8
     have hfz39_9 := blk_frozen BK448.out 9
     have hfz39_10 := blk_frozen BK448.out 10
     go_wp2
     refine bodyPost_ret (results_cell_row rfl _ _ gb448 75 #[.bool true, .bool false, .bool false, .int .i64 0, .int .i64 0, .int .i64 0, .int .i64 0, .int .i64 0, .int .i64 0, .int .i64 a2, .int .i64 a3] (0, 0) _ rfl (by (with_reducible repeat (first | refine blk_drewN ?_ _ | refine blk_drew ?_ | refine blk_alloc ?_ _)); refine blk_put (cs := #[.bool true, .bool false, .bool false, .int .i64 0, .int .i64 0, .int .i64 0, .int .i64 0, .int .i64 0, .int .i64 0, .int .i64 a2, .int .i64 0]) ?_ 10 _ rfl; (with_reducible repeat (first | refine blk_drewN ?_ _ | refine blk_drew ?_ | refine blk_alloc ?_ _)); refine blk_put (cs := #[.bool true, .bool false, .bool false, .int .i64 0, .int .i64 0, .int .i64 0, .int .i64 0, .int .i64 0, .int .i64 0, .int .i64 0, .int .i64 0]) ?_ 9 _ rfl; (with_reducible repeat (first | refine blk_drewN ?_ _ | refine blk_drew ?_ | refine blk_alloc ?_ _)); refine blk_put (cs := #[.bool true, .bool false, .bool false, .int .i64 0, .int .i64 0, .int .i64 0, .int .i64 0, .int .i64 0, .int .i64 0, .int .i64 0, .int .i64 0]) ?_ 8 _ rfl; (with_reducible repeat (first | refine blk_drewN ?_ _ | refine blk_drew ?_ | refine blk_alloc ?_ _)); refine blk_put (cs := #[.bool true, .bool false, .bool false, .int .i64 0, .int .i64 0, .int .i64 0, .int .i64 0, .int .i64 0, .int .i64 0, .int .i64 0, .int .i64 0]) ?_ 7 _ rfl; (with_reducible repeat (first | refine blk_drewN ?_ _ | refine blk_drew ?_ | refine blk_alloc ?_ _)); refine blk_put (cs := #[.bool true, .bool false, .bool false, .int .i64 0, .int .i64 0, .int .i64 0, .int .i64 0, .int .i64 0, .int .i64 0, .int .i64 0, .int .i64 0]) ?_ 6 _ rfl; (with_reducible repeat (first | refine blk_drewN ?_ _ | refine blk_drew ?_ | refine blk_alloc ?_ _)); refine blk_put (cs := #[.bool true, .bool false, .bool false, .int .i64 0, .int .i64 0, .int .i64 0, .int .i64 0, .int .i64 0, .int .i64 0, .int .i64 0, .int .i64 0]) ?_ 5 _ rfl; (with_reducible repeat (first | refine blk_drewN ?_ _ | refine blk_drew ?_ | refine blk_alloc ?_ _)); refine blk_put (cs := #[.bool true, .bool false, .bool false, .int .i64 0, .int .i64 0, .int .i64 0, .int .i64 0, .int .i64 0, .int .i64 0, .int .i64 0, .int .i64 0]) ?_ 4 _ rfl; (with_reducible repeat (first | refine blk_drewN ?_ _ | refine blk_drew ?_ | refine blk_alloc ?_ _)); refine blk_put (cs := #[.bool true, .bool false, .bool false, .int .i64 0, .int .i64 0, .int .i64 0, .int .i64 0, .int .i64 0, .int .i64 0, .int .i64 0, .int .i64 0]) ?_ 3 _ rfl; (with_reducible repeat (first | refine blk_drewN ?_ _ | refine blk_drew ?_ | refine blk_alloc ?_ _)); refine blk_put (cs := #[.bool true, .bool false, .bool false, .int .i64 0, .int .i64 0, .int .i64 0, .int .i64 0, .int .i64 0, .int .i64 0, .int .i64 0, .int .i64 0]) ?_ 2 _ rfl; (with_reducible repeat (first | refine blk_drewN ?_ _ | refine blk_drew ?_ | refine blk_alloc ?_ _)); refine blk_put (cs := #[.bool true, .bool false, .bool false, .int .i64 0, .int .i64 0, .int .i64 0, .int .i64 0, .int .i64 0, .int .i64 0, .int .i64 0, .int .i64 0]) ?_ 1 _ rfl; (with_reducible repeat (first | refine blk_drewN ?_ _ | refine blk_drew ?_ | refine blk_alloc ?_ _)); refine blk_put (cs := #[.bool false, .bool false, .bool false, .int .i64 0, .int .i64 0, .int .i64 0, .int .i64 0, .int .i64 0, .int .i64 0, .int .i64 0, .int .i64 0]) ?_ 0 _ rfl; (with_reducible repeat (first | refine blk_drewN ?_ _ | refine blk_drew ?_ | refine blk_alloc ?_ _)); refine blk_far ?_ NB448_449.out _; (with_reducible repeat (first | refine blk_drewN ?_ _ | refine blk_drew ?_ | refine blk_alloc ?_ _)); exact BK448.out) Try.underlying75 rfl (by kernel_rfl)) rfl ?_
     exact ⟨by first | rfl | (simp [errW_none, errW_some] <;> rfl) | (simp [*, errW_none, errW_some] <;> rfl), by repeat (first | (with_reducible first | exact HB.out | apply below_alloc | apply pw_below_drewN | apply below_drew1 | refine below_set ?_ GE446.out | refine below_set ?_ GE447.out | refine below_set ?_ GE448.out | refine below_set ?_ GE449.out | refine below_set ?_ GE455.out) | exact HB.out)⟩
    ·replace c30 := Bool.eq_false_iff.mpr c30
     subst c30
     have H1 : (if a0_1 = 0 then (if a1_1 = 0 then (some (false, true, false, 0, 0, 0, 0, 0, 0, a2, a3)) else (biremeref14_Of.j1 kj26 a2 a3 a1_0 a1_1 false false false 0 0 0 0 0 0 a2 a3 t450 t451 t452 t453)) else (biremeref14_Of.j1 kj26 a2 a3 a1_0 a1_1 false false false 0 0 0 0 0 0 a2 a3 t450 t451 t452 t453)) = some (r1, r2, r3, r4, r5, r6, r7, r8, r9, r10, r11) := by rw [if_neg (show ¬ (false = true) by decide)] at H; exact H
     clear H
     have H := H1
     clear H1
     by_cases c40 : a0_1 = 0
     ·rw [if_pos c40] at H
      have c40b0 : (a0_1 == 0) = true := beq_iff_eq.mpr c40
      have c40b1 : (a0_1 != 0) = false := bne_eq_false_iff_eq.mpr c40
      clear c40
      by_cases c41 : a1_1 = 0
      ·rw [if_pos c41] at H
       have c41b0 : (a1_1 == 0) = true := beq_iff_eq.mpr c41
       have c41b1 : (a1_1 != 0) = false := bne_eq_false_iff_eq.mpr c41
       clear c41
       simp only [Option.some.injEq, Prod.mk.injEq] at H
       obtain ⟨rfl, rfl, rfl, rfl, rfl, rfl, rfl, rfl, rfl, rfl, rfl⟩ := H
       have hnb42 := NB446_447.out
       have hnc42 := NB447_446.out
       have hnb43 := NB446_448.out
       have hnc43 := NB448_446.out
       have hnb44 := NB446_449.out
       have hnc44 := NB449_446.out
       have hnb45 := NB446_455.out
       have hnc45 := NB455_446.out
       have hcz46_0 : wc.cell? ⟨gb446, 0, none⟩ = some (.int .i64 a0_0) := (blk_cell BK446.out 0).trans rfl
       have hcz46_1 : wc.cell? ⟨gb446, 1, none⟩ = some (.int .i64 a0_1) := (blk_cell BK446.out 1).trans rfl
       have hfz46_0 := blk_frozen BK446.out 0
       have hfz46_1 := blk_frozen BK446.out 1
       have hnb47 := NB447_448.out
       have hnc47 := NB448_447.out
       have hnb48 := NB447_449.out
       have hnc48 := NB449_447.out
       have hnb49 := NB447_455.out
       have hnc49 := NB455_447.out
       have hcz50_0 : wc.cell? ⟨gb447, 0, none⟩ = some (.int .i64 a1_0) := (blk_cell BK447.out 0).trans rfl
       have hcz50_1 : wc.cell? ⟨gb447, 1, none⟩ = some (.int .i64 a1_1) := (blk_cell BK447.out 1).trans rfl
       have hfz50_0 := blk_frozen BK447.out 0
       have hfz50_1 := blk_frozen BK447.out 1
       have hnb51 := NB449_448.out
       have hnc51 := NB448_449.out
       have hnb52 := NB449_455.out
       have hnc52 := NB455_449.out
       have hcz53_0 : wc.cell? ⟨gb449, 0, none⟩ = some (.bool false) := (blk_cell BK449.out 0).trans rfl
       have hcz53_1 : wc.cell? ⟨gb449, 1, none⟩ = some (.bool false) := (blk_cell BK449.out 1).trans rfl
       have hcz53_2 : wc.cell? ⟨gb449, 2, none⟩ = some (.bool false) := (blk_cell BK449.out 2).trans rfl
       have hcz53_3 : wc.cell? ⟨gb449, 3, none⟩ = some (.int .i64 0) := (blk_cell BK449.out 3).trans rfl
       have hcz53_4 : wc.cell? ⟨gb449, 4, none⟩ = some (.int .i64 0) := (blk_cell BK449.out 4).trans rfl
       have hcz53_5 : wc.cell? ⟨gb449, 5, none⟩ = some (.int .i64 0) := (blk_cell BK449.out 5).trans rfl
       have hcz53_6 : wc.cell? ⟨gb449, 6, none⟩ = some (.int .i64 0) := (blk_cell BK449.out 6).trans rfl
       have hcz53_7 : wc.cell? ⟨gb449, 7, none⟩ = some (.int .i64 0) := (blk_cell BK449.out 7).trans rfl
       have hcz53_8 : wc.cell? ⟨gb449, 8, none⟩ = some (.int .i64 0) := (blk_cell BK449.out 8).trans rfl
       have hcz53_9 : wc.cell? ⟨gb449, 9, none⟩ = some (.int .i64 a2) := (blk_cell BK449.out 9).trans rfl
       have hcz53_10 : wc.cell? ⟨gb449, 10, none⟩ = some (.int .i64 a3) := (blk_cell BK449.out 10).trans rfl
       have hfz53_0 := blk_frozen BK449.out 0
       have hfz53_1 := blk_frozen BK449.out 1
       have hfz53_2 := blk_frozen BK449.out 2
       have hfz53_3 := blk_frozen BK449.out 3
       have hfz53_4 := blk_frozen BK449.out 4
       have hfz53_5 := blk_frozen BK449.out 5
       have hfz53_6 := blk_frozen BK449.out 6
       have hfz53_7 := blk_frozen BK449.out 7
       have hfz53_8 := blk_frozen BK449.out 8
       have hfz53_9 := blk_frozen BK449.out 9
       have hfz53_10 := blk_frozen BK449.out 10
       have hnb54 := NB448_455.out
       have hnc54 := NB455_448.out
       have hcz55_0 : wc.cell? ⟨gb448, 0, none⟩ = some (.bool false) := (blk_cell BK448.out 0).trans rfl
       have hcz55_1 : wc.cell? ⟨gb448, 1, none⟩ = some (.bool false) := (blk_cell BK448.out 1).trans rfl
       have hcz55_2 : wc.cell? ⟨gb448, 2, none⟩ = some (.bool false) := (blk_cell BK448.out 2).trans rfl
       have hcz55_3 : wc.cell? ⟨gb448, 3, none⟩ = some (.int .i64 0) := (blk_cell BK448.out 3).trans rfl
       have hcz55_4 : wc.cell? ⟨gb448, 4, none⟩ = some (.int .i64 0) := (blk_cell BK448.out 4).trans rfl
       have hcz55_5 : wc.cell? ⟨gb448, 5, none⟩ = some (.int .i64 0) := (blk_cell BK448.out 5).trans rfl
       have hcz55_6 : wc.cell? ⟨gb448, 6, none⟩ = some (.int .i64 0) := (blk_cell BK448.out 6).trans rfl
       have hcz55_7 : wc.cell? ⟨gb448, 7, none⟩ = some (.int .i64 0) := (blk_cell BK448.out 7).trans rfl
       have hcz55_8 : wc.cell? ⟨gb448, 8, none⟩ = some (.int .i64 0) := (blk_cell BK448.out 8).trans rfl
       have hcz55_9 : wc.cell? ⟨gb448, 9, none⟩ = some (.int .i64 0) := (blk_cell BK448.out 9).trans rfl
       have hcz55_10 : wc.cell? ⟨gb448, 10, none⟩ = some (.int .i64 0) := (blk_cell BK448.out 10).trans rfl
       have hfz55_0 := blk_frozen BK448.out 0
       have hfz55_1 := blk_frozen BK448.out 1
       have hfz55_2 := blk_frozen BK448.out 2
       have hfz55_3 := blk_frozen BK448.out 3
       have hfz55_4 := blk_frozen BK448.out 4
       have hfz55_5 := blk_frozen BK448.out 5
       have hfz55_6 := blk_frozen BK448.out 6
       have hfz55_7 := blk_frozen BK448.out 7
       have hfz55_8 := blk_frozen BK448.out 8
       have hfz55_9 := blk_frozen BK448.out 9
       have hfz55_10 := blk_frozen BK448.out 10
       go_wp2
       refine bodyPost_ret (results_cell_row rfl _ _ gb448 75 #[.bool false, .bool true, .bool false, .int .i64 0, .int .i64 0, .int .i64 0, .int .i64 0, .int .i64 0, .int .i64 0, .int .i64 a2, .int .i64 a3] (0, 0) _ rfl (by (with_reducible repeat (first | refine blk_drewN ?_ _ | refine blk_drew ?_ | refine blk_alloc ?_ _)); refine blk_put (cs := #[.bool false, .bool true, .bool false, .int .i64 0, .int .i64 0, .int .i64 0, .int .i64 0, .int .i64 0, .int .i64 0, .int .i64 a2, .int .i64 0]) ?_ 10 _ rfl; (with_reducible repeat (first | refine blk_drewN ?_ _ | refine blk_drew ?_ | refine blk_alloc ?_ _)); refine blk_put (cs := #[.bool false, .bool true, .bool false, .int .i64 0, .int .i64 0, .int .i64 0, .int .i64 0, .int .i64 0, .int .i64 0, .int .i64 0, .int .i64 0]) ?_ 9 _ rfl; (with_reducible repeat (first | refine blk_drewN ?_ _ | refine blk_drew ?_ | refine blk_alloc ?_ _)); refine blk_put (cs := #[.bool false, .bool true, .bool false, .int .i64 0, .int .i64 0, .int .i64 0, .int .i64 0, .int .i64 0, .int .i64 0, .int .i64 0, .int .i64 0]) ?_ 8 _ rfl; (with_reducible repeat (first | refine blk_drewN ?_ _ | refine blk_drew ?_ | refine blk_alloc ?_ _)); refine blk_put (cs := #[.bool false, .bool true, .bool false, .int .i64 0, .int .i64 0, .int .i64 0, .int .i64 0, .int .i64 0, .int .i64 0, .int .i64 0, .int .i64 0]) ?_ 7 _ rfl; (with_reducible repeat (first | refine blk_drewN ?_ _ | refine blk_drew ?_ | refine blk_alloc ?_ _)); refine blk_put (cs := #[.bool false, .bool true, .bool false, .int .i64 0, .int .i64 0, .int .i64 0, .int .i64 0, .int .i64 0, .int .i64 0, .int .i64 0, .int .i64 0]) ?_ 6 _ rfl; (with_reducible repeat (first | refine blk_drewN ?_ _ | refine blk_drew ?_ | refine blk_alloc ?_ _)); refine blk_put (cs := #[.bool false, .bool true, .bool false, .int .i64 0, .int .i64 0, .int .i64 0, .int .i64 0, .int .i64 0, .int .i64 0, .int .i64 0, .int .i64 0]) ?_ 5 _ rfl; (with_reducible repeat (first | refine blk_drewN ?_ _ | refine blk_drew ?_ | refine blk_alloc ?_ _)); refine blk_put (cs := #[.bool false, .bool true, .bool false, .int .i64 0, .int .i64 0, .int .i64 0, .int .i64 0, .int .i64 0, .int .i64 0, .int .i64 0, .int .i64 0]) ?_ 4 _ rfl; (with_reducible repeat (first | refine blk_drewN ?_ _ | refine blk_drew ?_ | refine blk_alloc ?_ _)); refine blk_put (cs := #[.bool false, .bool true, .bool false, .int .i64 0, .int .i64 0, .int .i64 0, .int .i64 0, .int .i64 0, .int .i64 0, .int .i64 0, .int .i64 0]) ?_ 3 _ rfl; (with_reducible repeat (first | refine blk_drewN ?_ _ | refine blk_drew ?_ | refine blk_alloc ?_ _)); refine blk_put (cs := #[.bool false, .bool true, .bool false, .int .i64 0, .int .i64 0, .int .i64 0, .int .i64 0, .int .i64 0, .int .i64 0, .int .i64 0, .int .i64 0]) ?_ 2 _ rfl; (with_reducible repeat (first | refine blk_drewN ?_ _ | refine blk_drew ?_ | refine blk_alloc ?_ _)); refine blk_put (cs := #[.bool false, .bool false, .bool false, .int .i64 0, .int .i64 0, .int .i64 0, .int .i64 0, .int .i64 0, .int .i64 0, .int .i64 0, .int .i64 0]) ?_ 1 _ rfl; (with_reducible repeat (first | refine blk_drewN ?_ _ | refine blk_drew ?_ | refine blk_alloc ?_ _)); refine blk_put (cs := #[.bool false, .bool false, .bool false, .int .i64 0, .int .i64 0, .int .i64 0, .int .i64 0, .int .i64 0, .int .i64 0, .int .i64 0, .int .i64 0]) ?_ 0 _ rfl; (with_reducible repeat (first | refine blk_drewN ?_ _ | refine blk_drew ?_ | refine blk_alloc ?_ _)); refine blk_far ?_ NB448_449.out _; (with_reducible repeat (first | refine blk_drewN ?_ _ | refine blk_drew ?_ | refine blk_alloc ?_ _)); exact BK448.out) Try.underlying75 rfl (by kernel_rfl)) rfl ?_
       exact ⟨by first | rfl | (simp [errW_none, errW_some] <;> rfl) | (simp [*, errW_none, errW_some] <;> rfl), by repeat (first | (with_reducible first | exact HB.out | apply below_alloc | apply pw_below_drewN | apply below_drew1 | refine below_set ?_ GE446.out | refine below_set ?_ GE447.out | refine below_set ?_ GE448.out | refine below_set ?_ GE449.out | refine below_set ?_ GE455.out) | exact HB.out)⟩
      ·rw [if_neg c41] at H
       have c41b0 : (a1_1 == 0) = false := beq_eq_false_iff_ne.mpr c41
       have c41b1 : (a1_1 != 0) = true := bne_iff_ne.mpr c41
       have H' := Aside0.mk H
       clear H
       have hnb56 := NB446_447.out
       have hnc56 := NB447_446.out
       have hnb57 := NB446_448.out
       have hnc57 := NB448_446.out
       have hnb58 := NB446_449.out
       have hnc58 := NB449_446.out
       have hnb59 := NB446_455.out
       have hnc59 := NB455_446.out
       have hcz60_0 : wc.cell? ⟨gb446, 0, none⟩ = some (.int .i64 a0_0) := (blk_cell BK446.out 0).trans rfl
       have hcz60_1 : wc.cell? ⟨gb446, 1, none⟩ = some (.int .i64 a0_1) := (blk_cell BK446.out 1).trans rfl
       have hfz60_0 := blk_frozen BK446.out 0
       have hfz60_1 := blk_frozen BK446.out 1
       have hnb61 := NB447_448.out
       have hnc61 := NB448_447.out
       have hnb62 := NB447_449.out
       have hnc62 := NB449_447.out
       have hnb63 := NB447_455.out
       have hnc63 := NB455_447.out
       have hcz64_0 : wc.cell? ⟨gb447, 0, none⟩ = some (.int .i64 a1_0) := (blk_cell BK447.out 0).trans rfl
       have hcz64_1 : wc.cell? ⟨gb447, 1, none⟩ = some (.int .i64 a1_1) := (blk_cell BK447.out 1).trans rfl
       have hfz64_0 := blk_frozen BK447.out 0
       have hfz64_1 := blk_frozen BK447.out 1
       go_wp2
       go_meet
       case rel => exact ⟨_, (false), (false), (false), (0), (0), (0), (0), (0), (0), (0), (0), (false), (false), H', ⟨by have := HJ26.out; first | omega | exact Nat.le_refl _⟩, ⟨by (with_reducible repeat (first | refine blk_drewN ?_ _ | refine blk_drew ?_ | refine blk_alloc ?_ _)); exact BK446.out⟩, ⟨by (with_reducible repeat (first | refine blk_drewN ?_ _ | refine blk_drew ?_ | refine blk_alloc ?_ _)); exact BK447.out⟩, ⟨by (with_reducible repeat (first | refine blk_drewN ?_ _ | refine blk_drew ?_ | refine blk_alloc ?_ _)); exact BK448.out⟩, ⟨by (with_reducible repeat (first | refine blk_drewN ?_ _ | refine blk_drew ?_ | refine blk_alloc ?_ _)); exact BK449.out⟩, ⟨by (with_reducible repeat (first | refine blk_drewN ?_ _ | refine blk_drew ?_ | refine blk_alloc ?_ _)); exact BK455.out⟩, ⟨by repeat (first | (with_reducible first | exact HB.out | apply below_alloc | apply pw_below_drewN | apply below_drew1 | refine below_set ?_ GE446.out | refine below_set ?_ GE447.out | refine below_set ?_ GE448.out | refine below_set ?_ GE449.out | refine below_set ?_ GE455.out) | exact HB.out)⟩⟩
     ·rw [if_neg c40] at H
      have c40b0 : (a0_1 == 0) = false := beq_eq_false_iff_ne.mpr c40
      have c40b1 : (a0_1 != 0) = true := bne_iff_ne.mpr c40
      have H' := Aside0.mk H
      clear H
      have hnb65 := NB446_447.out
      have hnc65 := NB447_446.out
      have hnb66 := NB446_448.out
      have hnc66 := NB448_446.out
      have hnb67 := NB446_449.out
      have hnc67 := NB449_446.out
      have hnb68 := NB446_455.out
      have hnc68 := NB455_446.out
      have hcz69_0 : wc.cell? ⟨gb446, 0, none⟩ = some (.int .i64 a0_0) := (blk_cell BK446.out 0).trans rfl
      have hcz69_1 : wc.cell? ⟨gb446, 1, none⟩ = some (.int .i64 a0_1) := (blk_cell BK446.out 1).trans rfl
      have hfz69_0 := blk_frozen BK446.out 0
      have hfz69_1 := blk_frozen BK446.out 1
      go_wp2
      go_meet
      case rel => exact ⟨_, (false), (false), (false), (0), (0), (0), (0), (0), (0), (0), (0), (false), (false), H', ⟨by have := HJ26.out; first | omega | exact Nat.le_refl _⟩, ⟨by (with_reducible repeat (first | refine blk_drewN ?_ _ | refine blk_drew ?_ | refine blk_alloc ?_ _)); exact BK446.out⟩, ⟨by (with_reducible repeat (first | refine blk_drewN ?_ _ | refine blk_drew ?_ | refine blk_alloc ?_ _)); exact BK447.out⟩, ⟨by (with_reducible repeat (first | refine blk_drewN ?_ _ | refine blk_drew ?_ | refine blk_alloc ?_ _)); exact BK448.out⟩, ⟨by (with_reducible repeat (first | refine blk_drewN ?_ _ | refine blk_drew ?_ | refine blk_alloc ?_ _)); exact BK449.out⟩, ⟨by (with_reducible repeat (first | refine blk_drewN ?_ _ | refine blk_drew ?_ | refine blk_alloc ?_ _)); exact BK455.out⟩, ⟨by repeat (first | (with_reducible first | exact HB.out | apply below_alloc | apply pw_below_drewN | apply below_drew1 | refine below_set ?_ GE446.out | refine below_set ?_ GE447.out | refine below_set ?_ GE448.out | refine below_set ?_ GE449.out | refine below_set ?_ GE455.out) | exact HB.out)⟩⟩
 case rest =>
  clear HC6
  try clear c1
  try clear c2
  try clear p2
  try clear c3
  try clear c4
  try clear c5
  try clear c6
  try clear p6
  try clear c11
  try clear c12
  try clear c13
  try clear c15
  try clear c16
  try clear c17
  try clear c18
  try clear c22
  try clear c23
  try clear c24
  try clear c25
  try clear c28
  try clear c29
  try clear c29b0
  try clear c29b1
  try clear c30
  try clear c31
  try clear c32
  try clear c33
  try clear c34
  try clear c36
  try clear c37
  try clear c38
  try clear c40
  try clear c40b0
  try clear c40b1
  try clear c41
  try clear c41b0
  try clear c41b1
  try clear c42
  try clear c43
  try clear c44
  try clear c45
  try clear c47
  try clear c48
  try clear c49
  try clear c51
  try clear c52
  try clear c54
  try clear c56
  try clear c57
  try clear c58
  try clear c59
  try clear c61
  try clear c62
  try clear c63
  try clear p64
  try clear c65
  try clear c66
  try clear c67
  try clear c68
  try clear hcz14_0
  try clear hcz14_1
  try clear hcz14_10
  try clear hcz14_2
  try clear hcz14_3
  try clear hcz14_4
  try clear hcz14_5
  try clear hcz14_6
  try clear hcz14_7
  try clear hcz14_8
  try clear hcz14_9
  try clear hcz17_0
  try clear hcz17_1
  try clear hcz19_0
  try clear hcz19_1
  try clear hcz26_0
  try clear hcz26_1
  try clear hcz26_2
  try clear hcz26_3
  try clear hcz35_0
  try clear hcz35_1
  try clear hcz35_10
  try clear hcz35_2
  try clear hcz35_3
  try clear hcz35_4
  try clear hcz35_5
  try clear hcz35_6
  try clear hcz35_7
  try clear hcz35_8
  try clear hcz35_9
  try clear hcz39_0
  try clear hcz39_1
  try clear hcz39_10
  try clear hcz39_2
  try clear hcz39_3
  try clear hcz39_4
  try clear hcz39_5
  try clear hcz39_6
  try clear hcz39_7
  try clear hcz39_8
  try clear hcz39_9
  try clear hcz46_0
  try clear hcz46_1
  try clear hcz50_0
  try clear hcz50_1
  try clear hcz53_0
  try clear hcz53_1
  try clear hcz53_10
  try clear hcz53_2
  try clear hcz53_3
  try clear hcz53_4
  try clear hcz53_5
  try clear hcz53_6
  try clear hcz53_7
  try clear hcz53_8
  try clear hcz53_9
  try clear hcz55_0
  try clear hcz55_1
  try clear hcz55_10
  try clear hcz55_2
  try clear hcz55_3
  try clear hcz55_4
  try clear hcz55_5
  try clear hcz55_6
  try clear hcz55_7
  try clear hcz55_8
  try clear hcz55_9
  try clear hcz60_0
  try clear hcz60_1
  try clear hcz64_0
  try clear hcz64_1
  try clear hcz69_0
  try clear hcz69_1
  try clear hfz14_0
  try clear hfz14_1
  try clear hfz14_10
  try clear hfz14_2
  try clear hfz14_3
  try clear hfz14_4
  try clear hfz14_5
  try clear hfz14_6
  try clear hfz14_7
  try clear hfz14_8
  try clear hfz14_9
  try clear hfz17_0
  try clear hfz17_1
  try clear hfz19_0
  try clear hfz19_1
  try clear hfz26_0
  try clear hfz26_1
  try clear hfz26_2
  try clear hfz26_3
  try clear hfz35_0
  try clear hfz35_1
  try clear hfz35_10
  try clear hfz35_2
  try clear hfz35_3
  try clear hfz35_4
  try clear hfz35_5
  try clear hfz35_6
  try clear hfz35_7
  try clear hfz35_8
  try clear hfz35_9
  try clear hfz39_0
  try clear hfz39_1
  try clear hfz39_10
  try clear hfz39_2
  try clear hfz39_3
  try clear hfz39_4
  try clear hfz39_5
  try clear hfz39_6
  try clear hfz39_7
  try clear hfz39_8
  try clear hfz39_9
  try clear hfz46_0
  try clear hfz46_1
  try clear hfz50_0
  try clear hfz50_1
  try clear hfz53_0
  try clear hfz53_1
  try clear hfz53_10
  try clear hfz53_2
  try clear hfz53_3
  try clear hfz53_4
  try clear hfz53_5
  try clear hfz53_6
  try clear hfz53_7
  try clear hfz53_8
  try clear hfz53_9
  try clear hfz55_0
  try clear hfz55_1
  try clear hfz55_10
  try clear hfz55_2
  try clear hfz55_3
  try clear hfz55_4
  try clear hfz55_5
  try clear hfz55_6
  try clear hfz55_7
  try clear hfz55_8
  try clear hfz55_9
  try clear hfz60_0
  try clear hfz60_1
  try clear hfz64_0
  try clear hfz64_1
  try clear hfz69_0
  try clear hfz69_1
  try clear p2
  try clear p6
  obtain ⟨kq, x449000_5, x449001_5, x449002_5, x449003_5, x449004_5, x449005_5, x449006_5, x449007_5, x449008_5, x449009_5, x449010_5, x450000_5, x450001_5, HA, HJ5, BK446, BK447, BK448, BK449, BK455, HB⟩ := hcut
  cases kq with
  | zero => exact absurd HA.out (by simp [biremeref14_Of.j1])
  | succ kj5 =>
   have H := HA.out
   clear HA
   simp only [biremeref14_Of.j1] at H
   have HK := Aside0.mk H
   clear H
   go_upto_region 9 with (fail)
   go_cut [] (fun wc => Aside0 (wc.heap[gb446]? = some (.cells #[.int .i64 a0_0, .int .i64 a0_1] 33 (0, 0))) ∧ Aside0 (wc.heap[gb447]? = some (.cells #[.int .i64 a1_0, .int .i64 a1_1] 33 (0, 0))) ∧ Aside0 (wc.heap[gb448]? = some (.cells #[.bool x449000_5, .bool x449001_5, .bool x449002_5, .int .i64 x449003_5, .int .i64 x449004_5, .int .i64 x449005_5, .int .i64 x449006_5, .int .i64 x449007_5, .int .i64 x449008_5, .int .i64 x449009_5, .int .i64 x449010_5] 75 (0, 0))) ∧ Aside0 (wc.heap[gb449]? = some (.cells #[.bool x450000_5, .bool x450001_5, .bool false, .int .i64 t450, .int .i64 t451, .int .i64 t452, .int .i64 t453, .int .i64 0, .int .i64 0, .int .i64 a2, .int .i64 a3] 75 (0, 0))) ∧ Aside0 (wc.heap[gb455]? = some (.cells #[.int .i64 t450, .int .i64 t451, .int .i64 t452, .int .i64 t453] 23 (0, 0))) ∧ Aside0 (Below w.heap.size w wc))
   case first =>
    try go_wp2
    have n0_ := Aside0.mk (blk_drew BK446.out)
    have n1_ := Aside0.mk (blk_drew BK447.out)
    have n2_ := Aside0.mk (blk_drew BK448.out)
    have n3_ := Aside0.mk (blk_drew BK449.out)
    have n4_ := Aside0.mk (blk_drew BK455.out)
    have n5_ := Aside0.mk (below_drew1 HB.out)
    clear BK446
    clear BK447
    clear BK448
    clear BK449
    clear BK455
    clear HB
    have BK446 := n0_
    have BK447 := n1_
    have BK448 := n2_
    have BK449 := n3_
    have BK455 := n4_
    have HB := n5_
    clear n0_ n1_ n2_ n3_ n4_ n5_
    refine start_ (n := 16) (S := fun w' => w'.cell? ⟨gb455, 0, none⟩ = some (.int .i64 t450) ∧ w'.cell? ⟨gb455, 1, none⟩ = some (.int .i64 t451) ∧ w'.cell? ⟨gb455, 2, none⟩ = some (.int .i64 t452) ∧ w'.cell? ⟨gb455, 3, none⟩ = some (.int .i64 t453)) (ds := []) #[false, false, false, false, false, false, false, false, false, false, false, false, false, false, false, false] (by kernel_rfl) rfl rfl ⟨(blk_cell BK455.out 0).trans rfl, (blk_cell BK455.out 1).trans rfl, (blk_cell BK455.out 2).trans rfl, (blk_cell BK455.out 3).trans rfl⟩ (fun hHeld => ?_); refine with_tabW biremeref14_Of.tab9 biremeref14_Of.bits9 (fun HT_ HW_ => ?_)
    generalize wc.drew = w72 at BK446 BK447 BK448 BK449 BK455 HB hHeld ⊢
    refine pure_ (i := 0) (N := some 53) (v := ?_) (a' := ?_) #[true, false, false, false, false, false, false, false, false, false, false, false, false, false, false, false] rfl rfl (any_of HT_.out (by kernel_rfl)) (fun _ _ _ h => h) (Or.inl ⟨by rfl, ?_⟩) ?_ ?_
    rotate_left
    ·intro w'
     go_simp
     with_reducible rfl
    rotate_left
    ·simp only [Act.put, List.setIfInBounds_toArray, List.set_cons_zero, List.set_cons_succ, i64_w, i32_w]
     rfl
    refine pure_ (i := 2) (N := some 55) (v := ?_) (a' := ?_) #[true, false, true, false, false, false, false, false, false, false, false, false, false, false, false, false] rfl rfl (any_of HT_.out (by kernel_rfl)) (fun _ _ _ h => h) (Or.inl ⟨by rfl, ?_⟩) ?_ ?_
    rotate_left
    ·intro w'
     go_simp
     with_reducible rfl
    rotate_left
    ·simp only [Act.put, List.setIfInBounds_toArray, List.set_cons_zero, List.set_cons_succ, i64_w, i32_w]
     rfl
    refine pure_ (i := 4) (N := some 57) (v := ?_) (a' := ?_) #[true, false, true, false, true, false, false, false, false, false, false, false, false, false, false, false] rfl rfl (any_of HT_.out (by kernel_rfl)) (fun _ _ _ h => h) (Or.inl ⟨by rfl, ?_⟩) ?_ ?_
    rotate_left
    ·intro w'
     go_simp
     with_reducible rfl
    rotate_left
    ·simp only [Act.put, List.setIfInBounds_toArray, List.set_cons_zero, List.set_cons_succ, i64_w, i32_w]
     rfl
    refine pure_ (i := 6) (N := some 59) (v := ?_) (a' := ?_) #[true, false, true, false, true, false, true, false, false, false, false, false, false, false, false, false] rfl rfl (any_of HT_.out (by kernel_rfl)) (fun _ _ _ h => h) (Or.inl ⟨by rfl, ?_⟩) ?_ ?_
    rotate_left
    ·intro w'
     go_simp
     with_reducible rfl
    rotate_left
    ·simp only [Act.put, List.setIfInBounds_toArray, List.set_cons_zero, List.set_cons_succ, i64_w, i32_w]
     rfl
    refine take_ (i := 1) (N := some 54) (v := ?_) (a' := ?_) #[true, true, true, false, true, false, true, false, false, false, false, false, false, false, false, false] rfl rfl (take_ofW HT_.out HW_.out (by kernel_rfl)) (fun _ _ _ h => h) (Or.inl ⟨by rfl, ?_⟩) hHeld ?_ ?_
    rotate_left
    ·rintro w' ⟨s0, s1, s2, s3⟩
     go_simp
     with_reducible rfl
    rotate_left
    ·simp only [Act.put, List.setIfInBounds_toArray, List.set_cons_zero, List.set_cons_succ, i64_w, i32_w]
     rfl
    refine pure_ (i := 8) (N := some 61) (v := ?_) (a' := ?_) #[true, true, true, false, true, false, true, false, true, false, false, false, false, false, false, false] rfl rfl (any_of HT_.out (by kernel_rfl)) (fun _ _ _ h => h) (Or.inl ⟨by rfl, ?_⟩) ?_ ?_
    rotate_left
    ·intro w'
     go_simp
     with_reducible rfl
    rotate_left
    ·simp only [Act.put, List.setIfInBounds_toArray, List.set_cons_zero, List.set_cons_succ, i64_w, i32_w]
     rfl
    refine take_ (i := 3) (N := some 56) (v := ?_) (a' := ?_) #[true, true, true, true, true, false, true, false, true, false, false, false, false, false, false, false] rfl rfl (take_ofW HT_.out HW_.out (by kernel_rfl)) (fun _ _ _ h => h) (Or.inl ⟨by rfl, ?_⟩) hHeld ?_ ?_
    rotate_left
    ·rintro w' ⟨s0, s1, s2, s3⟩
     go_simp
     with_reducible rfl
    rotate_left
    ·simp only [Act.put, List.setIfInBounds_toArray, List.set_cons_zero, List.set_cons_succ, i64_w, i32_w]
     rfl
    refine take_ (i := 5) (N := some 58) (v := ?_) (a' := ?_) #[true, true, true, true, true, true, true, false, true, false, false, false, false, false, false, false] rfl rfl (take_ofW HT_.out HW_.out (by kernel_rfl)) (fun _ _ _ h => h) (Or.inl ⟨by rfl, ?_⟩) hHeld ?_ ?_
    rotate_left
    ·rintro w' ⟨s0, s1, s2, s3⟩
     go_simp
     with_reducible rfl
    rotate_left
    ·simp only [Act.put, List.setIfInBounds_toArray, List.set_cons_zero, List.set_cons_succ, i64_w, i32_w]
     rfl
    refine take_ (i := 7) (N := some 60) (v := ?_) (a' := ?_) #[true, true, true, true, true, true, true, true, true, false, false, false, false, false, false, false] rfl rfl (take_ofW HT_.out HW_.out (by kernel_rfl)) (fun _ _ _ h => h) (Or.inl ⟨by rfl, ?_⟩) hHeld ?_ ?_
    rotate_left
    ·rintro w' ⟨s0, s1, s2, s3⟩
     go_simp
     with_reducible rfl
    rotate_left
    ·simp only [Act.put, List.setIfInBounds_toArray, List.set_cons_zero, List.set_cons_succ, i64_w, i32_w]
     rfl
    refine one_ (i := 9) (N := none) #[true, true, true, true, true, true, true, true, true, true, false, false, false, false, false, false] rfl rfl (one_of HT_.out (by kernel_rfl)) (by decide) (fun K hK => ?_)
    have hs73 : w72.cell? ⟨gb449, 3, none⟩ = some (.int .i64 0) := (blk_cell BK449.out 3).trans rfl
    have hfs73 := blk_frozen BK449.out 3
    have hns73_0 := NB446_449.out
    have hns73_1 := NB447_449.out
    have hns73_2 := NB448_449.out
    have hns73_4 := NB455_449.out
    have hms73_0 := NB449_446.out
    have hms73_1 := NB449_447.out
    have hms73_2 := NB449_448.out
    have hms73_4 := NB449_455.out
    refine skip_ (w1 := ?_) (by rfl) rfl ?_ ?_
    rotate_left
    ·go_simp
     rfl
    refine hK.out _ _ ⟨((cell_far (p := ⟨gb449, _, none⟩) NB455_449.out _).trans (hHeld.1)), ((cell_far (p := ⟨gb449, _, none⟩) NB455_449.out _).trans (hHeld.2.1)), ((cell_far (p := ⟨gb449, _, none⟩) NB455_449.out _).trans (hHeld.2.2.1)), ((cell_far (p := ⟨gb449, _, none⟩) NB455_449.out _).trans (hHeld.2.2.2))⟩ (fun hHeld => ?_)
    clear hK K
    refine pure_ (i := 10) (N := some 62) (v := ?_) (a' := ?_) #[true, true, true, true, true, true, true, true, true, true, true, false, false, false, false, false] rfl rfl (any_of HT_.out (by kernel_rfl)) (fun _ _ _ h => h) (Or.inl ⟨by rfl, ?_⟩) ?_ ?_
    rotate_left
    ·intro w'
     go_simp
     with_reducible rfl
    rotate_left
    ·simp only [Act.put, List.setIfInBounds_toArray, List.set_cons_zero, List.set_cons_succ, i64_w, i32_w]
     rfl
    refine one_ (i := 11) (N := none) #[true, true, true, true, true, true, true, true, true, true, true, true, false, false, false, false] rfl rfl (one_of HT_.out (by kernel_rfl)) (by decide) (fun K hK => ?_)
    have hs74 : w72.cell? ⟨gb449, 4, none⟩ = some (.int .i64 0) := (blk_cell BK449.out 4).trans rfl
    have hfs74 := blk_frozen BK449.out 4
    have hns74_0 := NB446_449.out
    have hns74_1 := NB447_449.out
    have hns74_2 := NB448_449.out
    have hns74_4 := NB455_449.out
    have hms74_0 := NB449_446.out
    have hms74_1 := NB449_447.out
    have hms74_2 := NB449_448.out
    have hms74_4 := NB449_455.out
    refine skip_ (w1 := ?_) (by rfl) rfl ?_ ?_
    rotate_left
    ·go_simp
     rfl
    refine hK.out _ _ ⟨((cell_far (p := ⟨gb449, _, none⟩) NB455_449.out _).trans (hHeld.1)), ((cell_far (p := ⟨gb449, _, none⟩) NB455_449.out _).trans (hHeld.2.1)), ((cell_far (p := ⟨gb449, _, none⟩) NB455_449.out _).trans (hHeld.2.2.1)), ((cell_far (p := ⟨gb449, _, none⟩) NB455_449.out _).trans (hHeld.2.2.2))⟩ (fun hHeld => ?_)
    clear hK K
    refine pure_ (i := 12) (N := some 63) (v := ?_) (a' := ?_) #[true, true, true, true, true, true, true, true, true, true, true, true, true, false, false, false] rfl rfl (any_of HT_.out (by kernel_rfl)) (fun _ _ _ h => h) (Or.inl ⟨by rfl, ?_⟩) ?_ ?_
    rotate_left
    ·intro w'
     go_simp
     with_reducible rfl
    rotate_left
    ·simp only [Act.put, List.setIfInBounds_toArray, List.set_cons_zero, List.set_cons_succ, i64_w, i32_w]
     rfl
    refine one_ (i := 13) (N := none) #[true, true, true, true, true, true, true, true, true, true, true, true, true, true, false, false] rfl rfl (one_of HT_.out (by kernel_rfl)) (by decide) (fun K hK => ?_)
    have hs75 : w72.cell? ⟨gb449, 5, none⟩ = some (.int .i64 0) := (blk_cell BK449.out 5).trans rfl
    have hfs75 := blk_frozen BK449.out 5
    have hns75_0 := NB446_449.out
    have hns75_1 := NB447_449.out
    have hns75_2 := NB448_449.out
    have hns75_4 := NB455_449.out
    have hms75_0 := NB449_446.out
    have hms75_1 := NB449_447.out
    have hms75_2 := NB449_448.out
    have hms75_4 := NB449_455.out
    refine skip_ (w1 := ?_) (by rfl) rfl ?_ ?_
    rotate_left
    ·go_simp
     rfl
    refine hK.out _ _ ⟨((cell_far (p := ⟨gb449, _, none⟩) NB455_449.out _).trans (hHeld.1)), ((cell_far (p := ⟨gb449, _, none⟩) NB455_449.out _).trans (hHeld.2.1)), ((cell_far (p := ⟨gb449, _, none⟩) NB455_449.out _).trans (hHeld.2.2.1)), ((cell_far (p := ⟨gb449, _, none⟩) NB455_449.out _).trans (hHeld.2.2.2))⟩ (fun hHeld => ?_)
    clear hK K
    refine pure_ (i := 14) (N := some 64) (v := ?_) (a' := ?_) #[true, true, true, true, true, true, true, true, true, true, true, true, true, true, true, false] rfl rfl (any_of HT_.out (by kernel_rfl)) (fun _ _ _ h => h) (Or.inl ⟨by rfl, ?_⟩) ?_ ?_
    rotate_left
    ·intro w'
     go_simp
     with_reducible rfl
    rotate_left
    ·simp only [Act.put, List.setIfInBounds_toArray, List.set_cons_zero, List.set_cons_succ, i64_w, i32_w]
     rfl
    refine one_ (i := 15) (N := none) #[true, true, true, true, true, true, true, true, true, true, true, true, true, true, true, true] rfl rfl (one_of HT_.out (by kernel_rfl)) (by decide) (fun K hK => ?_)
    have hs76 : w72.cell? ⟨gb449, 6, none⟩ = some (.int .i64 0) := (blk_cell BK449.out 6).trans rfl
    have hfs76 := blk_frozen BK449.out 6
    have hns76_0 := NB446_449.out
    have hns76_1 := NB447_449.out
    have hns76_2 := NB448_449.out
    have hns76_4 := NB455_449.out
    have hms76_0 := NB449_446.out
    have hms76_1 := NB449_447.out
    have hms76_2 := NB449_448.out
    have hms76_4 := NB449_455.out
    refine skip_ (w1 := ?_) (by rfl) rfl ?_ ?_
    rotate_left
    ·go_simp
     rfl
    refine hK.out _ _ ⟨((cell_far (p := ⟨gb449, _, none⟩) NB455_449.out _).trans (hHeld.1)), ((cell_far (p := ⟨gb449, _, none⟩) NB455_449.out _).trans (hHeld.2.1)), ((cell_far (p := ⟨gb449, _, none⟩) NB455_449.out _).trans (hHeld.2.2.1)), ((cell_far (p := ⟨gb449, _, none⟩) NB455_449.out _).trans (hHeld.2.2.2))⟩ (fun hHeld => ?_)
    clear hK K
    refine done_ (done_of HT_.out (by kernel_rfl)) ?_
    refine Met.intro ?_
    go_step
    go_meet
    case rel => exact ⟨⟨by repeat (with_reducible first | exact BK446.out | refine blk_far ?_ NB446_449.out _ | refine blk_drew ?_ | refine blk_drewN ?_ _)⟩, ⟨by repeat (with_reducible first | exact BK447.out | refine blk_far ?_ NB447_449.out _ | refine blk_drew ?_ | refine blk_drewN ?_ _)⟩, ⟨by repeat (with_reducible first | exact BK448.out | refine blk_far ?_ NB448_449.out _ | refine blk_drew ?_ | refine blk_drewN ?_ _)⟩, ⟨by (with_reducible repeat (first | refine blk_drewN ?_ _ | refine blk_drew ?_ | refine blk_alloc ?_ _)); refine blk_put (cs := #[.bool x450000_5, .bool x450001_5, .bool false, .int .i64 t450, .int .i64 t451, .int .i64 t452, .int .i64 0, .int .i64 0, .int .i64 0, .int .i64 a2, .int .i64 a3]) ?_ 6 _ rfl; (with_reducible repeat (first | refine blk_drewN ?_ _ | refine blk_drew ?_ | refine blk_alloc ?_ _)); refine blk_put (cs := #[.bool x450000_5, .bool x450001_5, .bool false, .int .i64 t450, .int .i64 t451, .int .i64 0, .int .i64 0, .int .i64 0, .int .i64 0, .int .i64 a2, .int .i64 a3]) ?_ 5 _ rfl; (with_reducible repeat (first | refine blk_drewN ?_ _ | refine blk_drew ?_ | refine blk_alloc ?_ _)); refine blk_put (cs := #[.bool x450000_5, .bool x450001_5, .bool false, .int .i64 t450, .int .i64 0, .int .i64 0, .int .i64 0, .int .i64 0, .int .i64 0, .int .i64 a2, .int .i64 a3]) ?_ 4 _ rfl; (with_reducible repeat (first | refine blk_drewN ?_ _ | refine blk_drew ?_ | refine blk_alloc ?_ _)); refine blk_put (cs := #[.bool x450000_5, .bool x450001_5, .bool false, .int .i64 0, .int .i64 0, .int .i64 0, .int .i64 0, .int .i64 0, .int .i64 0, .int .i64 a2, .int .i64 a3]) ?_ 3 _ rfl; (with_reducible repeat (first | refine blk_drewN ?_ _ | refine blk_drew ?_ | refine blk_alloc ?_ _)); exact BK449.out⟩, ⟨by repeat (with_reducible first | exact BK455.out | refine blk_far ?_ NB455_449.out _ | refine blk_drew ?_ | refine blk_drewN ?_ _)⟩, ⟨by repeat (first | (with_reducible first | exact HB.out | apply below_alloc | apply pw_below_drewN | apply below_drew1 | refine below_set ?_ GE446.out | refine below_set ?_ GE447.out | refine below_set ?_ GE448.out | refine below_set ?_ GE449.out | refine below_set ?_ GE455.out) | exact HB.out)⟩⟩
   case rest =>
    clear BK446 BK447 BK448 BK449 BK455 HB
    obtain ⟨BK446, BK447, BK448, BK449, BK455, HB⟩ := hcut
    have H := HK.out
    clear HK
    have hnb77 := NB447_446.out
    have hnc77 := NB446_447.out
    have hnb78 := NB447_448.out
    have hnc78 := NB448_447.out
    have hnb79 := NB447_449.out
    have hnc79 := NB449_447.out
    have hnb80 := NB447_455.out
    have hnc80 := NB455_447.out
    have hcz81_0 : wc.cell? ⟨gb447, 0, none⟩ = some (.int .i64 a1_0) := (blk_cell BK447.out 0).trans rfl
    have hcz81_1 : wc.cell? ⟨gb447, 1, none⟩ = some (.int .i64 a1_1) := (blk_cell BK447.out 1).trans rfl
    have hfz81_0 := blk_frozen BK447.out 0
    have hfz81_1 := blk_frozen BK447.out 1
    have hnb82 := NB449_446.out
    have hnc82 := NB446_449.out
    have hnb83 := NB449_448.out
    have hnc83 := NB448_449.out
    have hnb84 := NB449_455.out
    have hnc84 := NB455_449.out
    have hcz85_0 : wc.cell? ⟨gb449, 0, none⟩ = some (.bool x450000_5) := (blk_cell BK449.out 0).trans rfl
    have hcz85_1 : wc.cell? ⟨gb449, 1, none⟩ = some (.bool x450001_5) := (blk_cell BK449.out 1).trans rfl
    have hcz85_2 : wc.cell? ⟨gb449, 2, none⟩ = some (.bool false) := (blk_cell BK449.out 2).trans rfl
    have hcz85_3 : wc.cell? ⟨gb449, 3, none⟩ = some (.int .i64 t450) := (blk_cell BK449.out 3).trans rfl
    have hcz85_4 : wc.cell? ⟨gb449, 4, none⟩ = some (.int .i64 t451) := (blk_cell BK449.out 4).trans rfl
    have hcz85_5 : wc.cell? ⟨gb449, 5, none⟩ = some (.int .i64 t452) := (blk_cell BK449.out 5).trans rfl
    have hcz85_6 : wc.cell? ⟨gb449, 6, none⟩ = some (.int .i64 t453) := (blk_cell BK449.out 6).trans rfl
    have hcz85_7 : wc.cell? ⟨gb449, 7, none⟩ = some (.int .i64 0) := (blk_cell BK449.out 7).trans rfl
    have hcz85_8 : wc.cell? ⟨gb449, 8, none⟩ = some (.int .i64 0) := (blk_cell BK449.out 8).trans rfl
    have hcz85_9 : wc.cell? ⟨gb449, 9, none⟩ = some (.int .i64 a2) := (blk_cell BK449.out 9).trans rfl
    have hcz85_10 : wc.cell? ⟨gb449, 10, none⟩ = some (.int .i64 a3) := (blk_cell BK449.out 10).trans rfl
    have hfz85_0 := blk_frozen BK449.out 0
    have hfz85_1 := blk_frozen BK449.out 1
    have hfz85_2 := blk_frozen BK449.out 2
    have hfz85_3 := blk_frozen BK449.out 3
    have hfz85_4 := blk_frozen BK449.out 4
    have hfz85_5 := blk_frozen BK449.out 5
    have hfz85_6 := blk_frozen BK449.out 6
    have hfz85_7 := blk_frozen BK449.out 7
    have hfz85_8 := blk_frozen BK449.out 8
    have hfz85_9 := blk_frozen BK449.out 9
    have hfz85_10 := blk_frozen BK449.out 10
    have hnb86 := NB448_446.out
    have hnc86 := NB446_448.out
    have hnb87 := NB448_455.out
    have hnc87 := NB455_448.out
    have hcz88_0 : wc.cell? ⟨gb448, 0, none⟩ = some (.bool x449000_5) := (blk_cell BK448.out 0).trans rfl
    have hcz88_1 : wc.cell? ⟨gb448, 1, none⟩ = some (.bool x449001_5) := (blk_cell BK448.out 1).trans rfl
    have hcz88_2 : wc.cell? ⟨gb448, 2, none⟩ = some (.bool x449002_5) := (blk_cell BK448.out 2).trans rfl
    have hcz88_3 : wc.cell? ⟨gb448, 3, none⟩ = some (.int .i64 x449003_5) := (blk_cell BK448.out 3).trans rfl
    have hcz88_4 : wc.cell? ⟨gb448, 4, none⟩ = some (.int .i64 x449004_5) := (blk_cell BK448.out 4).trans rfl
    have hcz88_5 : wc.cell? ⟨gb448, 5, none⟩ = some (.int .i64 x449005_5) := (blk_cell BK448.out 5).trans rfl
    have hcz88_6 : wc.cell? ⟨gb448, 6, none⟩ = some (.int .i64 x449006_5) := (blk_cell BK448.out 6).trans rfl
    have hcz88_7 : wc.cell? ⟨gb448, 7, none⟩ = some (.int .i64 x449007_5) := (blk_cell BK448.out 7).trans rfl
    have hcz88_8 : wc.cell? ⟨gb448, 8, none⟩ = some (.int .i64 x449008_5) := (blk_cell BK448.out 8).trans rfl
    have hcz88_9 : wc.cell? ⟨gb448, 9, none⟩ = some (.int .i64 x449009_5) := (blk_cell BK448.out 9).trans rfl
    have hcz88_10 : wc.cell? ⟨gb448, 10, none⟩ = some (.int .i64 x449010_5) := (blk_cell BK448.out 10).trans rfl
    have hfz88_0 := blk_frozen BK448.out 0
    have hfz88_1 := blk_frozen BK448.out 1
    have hfz88_2 := blk_frozen BK448.out 2
    have hfz88_3 := blk_frozen BK448.out 3
    have hfz88_4 := blk_frozen BK448.out 4
    have hfz88_5 := blk_frozen BK448.out 5
    have hfz88_6 := blk_frozen BK448.out 6
    have hfz88_7 := blk_frozen BK448.out 7
    have hfz88_8 := blk_frozen BK448.out 8
    have hfz88_9 := blk_frozen BK448.out 9
    have hfz88_10 := blk_frozen BK448.out 10
    by_cases c70 : a1_1 = 0
    ·rw [if_pos c70] at H
     have c70b0 : (a1_1 == 0) = true := beq_iff_eq.mpr c70
     have c70b1 : (a1_1 != 0) = false := bne_eq_false_iff_eq.mpr c70
     clear c70
     by_cases c71 : t450 < 0
     ·rw [if_pos c71] at H
      have c71b0 : decide (t450 < 0) = true := decide_eq_true c71
      clear c71
      simp only [Option.some.injEq, Prod.mk.injEq] at H
      obtain ⟨rfl, rfl, rfl, rfl, rfl, rfl, rfl, rfl, rfl, rfl, rfl⟩ := H
      try go_wp2
      refine bodyPost_ret (results_cell_row rfl _ _ gb448 75 #[.bool true, .bool x450001_5, .bool true, .int .i64 t450, .int .i64 t451, .int .i64 t452, .int .i64 t453, .int .i64 0, .int .i64 0, .int .i64 a2, .int .i64 a3] (0, 0) _ rfl (by (with_reducible repeat (first | refine blk_drewN ?_ _ | refine blk_drew ?_)); refine set_eleven (v0 := .bool x449000_5) (v1 := .bool x449001_5) (v2 := .bool x449002_5) (v3 := .int .i64 x449003_5) (v4 := .int .i64 x449004_5) (v5 := .int .i64 x449005_5) (v6 := .int .i64 x449006_5) (v7 := .int .i64 x449007_5) (v8 := .int .i64 x449008_5) (v9 := .int .i64 x449009_5) (v10 := .int .i64 x449010_5) ?_ _ _ _ _ _ _ _ _ _ _ _; repeat (with_reducible first | exact BK448.out | refine blk_far ?_ NB448_449.out _ | refine blk_drew ?_ | refine blk_drewN ?_ _)) Try.underlying75 rfl (by kernel_rfl)) rfl ?_
      exact ⟨by first | rfl | (simp [errW_none, errW_some] <;> rfl) | (simp [*, errW_none, errW_some] <;> rfl), by repeat (first | (with_reducible first | exact HB.out | apply below_alloc | apply pw_below_drewN | apply below_drew1 | refine below_set ?_ GE446.out | refine below_set ?_ GE447.out | refine below_set ?_ GE448.out | refine below_set ?_ GE449.out | refine below_set ?_ GE455.out) | exact HB.out)⟩
     ·rw [if_neg c71] at H
      have c71b0 : decide (t450 < 0) = false := decide_eq_false c71
      clear c71
      simp only [Option.some.injEq, Prod.mk.injEq] at H
      obtain ⟨rfl, rfl, rfl, rfl, rfl, rfl, rfl, rfl, rfl, rfl, rfl⟩ := H
      try go_wp2
      refine bodyPost_ret (results_cell_row rfl _ _ gb448 75 #[.bool (decide (t450 ≥ a2)), .bool x450001_5, .bool true, .int .i64 t450, .int .i64 t451, .int .i64 t452, .int .i64 t453, .int .i64 0, .int .i64 0, .int .i64 a2, .int .i64 a3] (0, 0) _ rfl (by (with_reducible repeat (first | refine blk_drewN ?_ _ | refine blk_drew ?_)); refine set_eleven (v0 := .bool x449000_5) (v1 := .bool x449001_5) (v2 := .bool x449002_5) (v3 := .int .i64 x449003_5) (v4 := .int .i64 x449004_5) (v5 := .int .i64 x449005_5) (v6 := .int .i64 x449006_5) (v7 := .int .i64 x449007_5) (v8 := .int .i64 x449008_5) (v9 := .int .i64 x449009_5) (v10 := .int .i64 x449010_5) ?_ _ _ _ _ _ _ _ _ _ _ _; repeat (with_reducible first | exact BK448.out | refine blk_far ?_ NB448_449.out _ | refine blk_drew ?_ | refine blk_drewN ?_ _)) Try.underlying75 rfl (by kernel_rfl)) rfl ?_
      exact ⟨by first | rfl | (simp [errW_none, errW_some] <;> rfl) | (simp [*, errW_none, errW_some] <;> rfl), by repeat (first | (with_reducible first | exact HB.out | apply below_alloc | apply pw_below_drewN | apply below_drew1 | refine below_set ?_ GE446.out | refine below_set ?_ GE447.out | refine below_set ?_ GE448.out | refine below_set ?_ GE449.out | refine below_set ?_ GE455.out) | exact HB.out)⟩
    ·rw [if_neg c70] at H
     have c70b0 : (a1_1 == 0) = false := beq_eq_false_iff_ne.mpr c70
     have c70b1 : (a1_1 != 0) = true := bne_iff_ne.mpr c70
     replace H := Option.bind_eq_some_iff.mp H
     obtain ⟨t456, A1060, H⟩ := H
     replace H : (if t453 = 0 then (if t452 < 0 then (some (true, x450001_5, false, t450, t451, t452, t453, 0, t456, a2, a3)) else (if t452 ≥ a3 then (some (true, x450001_5, false, t450, t451, t452, t453, 0, t456, a2, a3)) else (some (decide (0 > t456), x450001_5, false, t450, t451, t452, t453, 0, t456, a2, a3)))) else (if t453 > 0 then ((biremeref14_up.f (wrap64 (-t452)) t453).bind fun t457 => ((biremeref14_down.f (wrap64 ((wrap64 (a3 - 1)) - t452)) t453).bind fun t458 => (if x450000_5 = true then (some (true, x450001_5, false, t450, t451, t452, t453, mx 0 t457, mn t456 t458, a2, a3)) else (some (decide ((mx 0 t457) > (mn t456 t458)), x450001_5, false, t450, t451, t452, t453, mx 0 t457, mn t456 t458, a2, a3))))) else ((biremeref14_up.f (wrap64 (t452 - (wrap64 (a3 - 1)))) (wrap64 (-t453))).bind fun t459 => ((biremeref14_down.f t452 (wrap64 (-t453))).bind fun t460 => (if x450000_5 = true then (some (true, x450001_5, false, t450, t451, t452, t453, mx 0 t459, mn t456 t460, a2, a3)) else (some (decide ((mx 0 t459) > (mn t456 t460)), x450001_5, false, t450, t451, t452, t453, mx 0 t459, mn t456 t460, a2, a3))))))) = some (r1, r2, r3, r4, r5, r6, r7, r8, r9, r10, r11) := H
     have A106 := Aside0.mk A1060
     clear A1060
     have HK := Aside0.mk H
     clear H
     go_upto_block 1 with (first | ((with_reducible refine gate_callee (f := 44) rfl ?_); refine goesL_ (some 88) rfl rfl Try.func44 (by kernel_rfl) rfl #[.int .i64 (wrap64 ((wrap64 (a2 - 1)) - t450)), .int .i64 t451] rfl (by (try simp only [List.map_toArray, List.map_cons, List.map_nil]); first | done | rfl | (simp only [List.length_drop, List.length_take]; rfl)) ?_; (with_reducible refine (biremeref14_down.calls (wrap64 ((wrap64 (a2 - 1)) - t450)) t451 t456 _ A106.out).mono ?_); rintro e w' ⟨rfl, ⟨nd, rfl⟩⟩; refine ⟨_, rfl, ?_⟩; have hnb123 := NB448_446.out; have hnc123 := NB446_448.out; have hnb124 := NB448_455.out; have hnc124 := NB455_448.out; have hcz125_0 : wc.cell? ⟨gb448, 0, none⟩ = some (.bool x449000_5) := (blk_cell BK448.out 0).trans rfl; have hcz125_1 : wc.cell? ⟨gb448, 1, none⟩ = some (.bool x449001_5) := (blk_cell BK448.out 1).trans rfl; have hcz125_2 : wc.cell? ⟨gb448, 2, none⟩ = some (.bool x449002_5) := (blk_cell BK448.out 2).trans rfl; have hcz125_3 : wc.cell? ⟨gb448, 3, none⟩ = some (.int .i64 x449003_5) := (blk_cell BK448.out 3).trans rfl; have hcz125_4 : wc.cell? ⟨gb448, 4, none⟩ = some (.int .i64 x449004_5) := (blk_cell BK448.out 4).trans rfl; have hcz125_5 : wc.cell? ⟨gb448, 5, none⟩ = some (.int .i64 x449005_5) := (blk_cell BK448.out 5).trans rfl; have hcz125_6 : wc.cell? ⟨gb448, 6, none⟩ = some (.int .i64 x449006_5) := (blk_cell BK448.out 6).trans rfl; have hcz125_7 : wc.cell? ⟨gb448, 7, none⟩ = some (.int .i64 x449007_5) := (blk_cell BK448.out 7).trans rfl; have hcz125_8 : wc.cell? ⟨gb448, 8, none⟩ = some (.int .i64 x449008_5) := (blk_cell BK448.out 8).trans rfl; have hcz125_9 : wc.cell? ⟨gb448, 9, none⟩ = some (.int .i64 x449009_5) := (blk_cell BK448.out 9).trans rfl; have hcz125_10 : wc.cell? ⟨gb448, 10, none⟩ = some (.int .i64 x449010_5) := (blk_cell BK448.out 10).trans rfl; have hfz125_0 := blk_frozen BK448.out 0; have hfz125_1 := blk_frozen BK448.out 1; have hfz125_2 := blk_frozen BK448.out 2; have hfz125_3 := blk_frozen BK448.out 3; have hfz125_4 := blk_frozen BK448.out 4; have hfz125_5 := blk_frozen BK448.out 5; have hfz125_6 := blk_frozen BK448.out 6; have hfz125_7 := blk_frozen BK448.out 7; have hfz125_8 := blk_frozen BK448.out 8; have hfz125_9 := blk_frozen BK448.out 9; have hfz125_10 := blk_frozen BK448.out 10))
     go_cut [] (fun wc => ∃ (z0 : Bool) (z7 z8 : Int), Aside0 ((if z0 = true then (some (true, x450001_5, false, t450, t451, t452, t453, z7, z8, a2, a3)) else (some (decide (z7 > z8), x450001_5, false, t450, t451, t452, t453, z7, z8, a2, a3))) = some (r1, r2, r3, r4, r5, r6, r7, r8, r9, r10, r11)) ∧ Aside0 (wc.heap[gb446]? = some (.cells #[.int .i64 a0_0, .int .i64 a0_1] 33 (0, 0))) ∧ Aside0 (wc.heap[gb447]? = some (.cells #[.int .i64 a1_0, .int .i64 a1_1] 33 (0, 0))) ∧ Aside0 (wc.heap[gb448]? = some (.cells #[.bool x449000_5, .bool x449001_5, .bool x449002_5, .int .i64 x449003_5, .int .i64 x449004_5, .int .i64 x449005_5, .int .i64 x449006_5, .int .i64 x449007_5, .int .i64 x449008_5, .int .i64 x449009_5, .int .i64 x449010_5] 75 (0, 0))) ∧ Aside0 (wc.heap[gb449]? = some (.cells #[.bool z0, .bool x450001_5, .bool false, .int .i64 t450, .int .i64 t451, .int .i64 t452, .int .i64 t453, .int .i64 z7, .int .i64 z8, .int .i64 a2, .int .i64 a3] 75 (0, 0))) ∧ Aside0 (wc.heap[gb455]? = some (.cells #[.int .i64 t450, .int .i64 t451, .int .i64 t452, .int .i64 t453] 23 (0, 0))) ∧ Aside0 (Below w.heap.size w wc))
     case first =>
      have H := HK.out
      clear HK
      by_cases c107 : t453 = 0
      ·rw [if_pos c107] at H
       have c107b0 : (t453 == 0) = true := beq_iff_eq.mpr c107
       have c107b1 : (t453 != 0) = false := bne_eq_false_iff_eq.mpr c107
       clear c107
       by_cases c108 : t452 < 0
       ·rw [if_pos c108] at H
        have c108b0 : decide (t452 < 0) = true := decide_eq_true c108
        clear c108
        have H' := Aside0.mk H
        clear H
        go_wp2
        go_meet
        case rel => exact ⟨true, 0, t456, ⟨by rw [if_pos rfl]; exact H'.out⟩, ⟨by repeat (with_reducible first | exact BK446.out | refine blk_far ?_ NB446_449.out _ | refine blk_drew ?_ | refine blk_drewN ?_ _)⟩, ⟨by repeat (with_reducible first | exact BK447.out | refine blk_far ?_ NB447_449.out _ | refine blk_drew ?_ | refine blk_drewN ?_ _)⟩, ⟨by repeat (with_reducible first | exact BK448.out | refine blk_far ?_ NB448_449.out _ | refine blk_drew ?_ | refine blk_drewN ?_ _)⟩, ⟨by (with_reducible repeat (first | refine blk_drewN ?_ _ | refine blk_drew ?_ | refine blk_alloc ?_ _)); refine blk_put (cs := #[.bool x450000_5, .bool x450001_5, .bool false, .int .i64 t450, .int .i64 t451, .int .i64 t452, .int .i64 t453, .int .i64 0, .int .i64 t456, .int .i64 a2, .int .i64 a3]) ?_ 0 _ rfl; (with_reducible repeat (first | refine blk_drewN ?_ _ | refine blk_drew ?_ | refine blk_alloc ?_ _)); refine blk_put (cs := #[.bool x450000_5, .bool x450001_5, .bool false, .int .i64 t450, .int .i64 t451, .int .i64 t452, .int .i64 t453, .int .i64 0, .int .i64 0, .int .i64 a2, .int .i64 a3]) ?_ 8 _ rfl; (with_reducible repeat (first | refine blk_drewN ?_ _ | refine blk_drew ?_ | refine blk_alloc ?_ _)); refine blk_put (cs := #[.bool x450000_5, .bool x450001_5, .bool false, .int .i64 t450, .int .i64 t451, .int .i64 t452, .int .i64 t453, .int .i64 0, .int .i64 0, .int .i64 a2, .int .i64 a3]) ?_ 7 _ rfl; (with_reducible repeat (first | refine blk_drewN ?_ _ | refine blk_drew ?_ | refine blk_alloc ?_ _)); exact BK449.out⟩, ⟨by repeat (with_reducible first | exact BK455.out | refine blk_far ?_ NB455_449.out _ | refine blk_drew ?_ | refine blk_drewN ?_ _)⟩, ⟨by repeat (first | (with_reducible first | exact HB.out | apply below_alloc | apply pw_below_drewN | apply below_drew1 | refine below_set ?_ GE446.out | refine below_set ?_ GE447.out | refine below_set ?_ GE448.out | refine below_set ?_ GE449.out | refine below_set ?_ GE455.out) | exact HB.out)⟩⟩
       ·rw [if_neg c108] at H
        have c108b0 : decide (t452 < 0) = false := decide_eq_false c108
        clear c108
        by_cases c126 : t452 ≥ a3
        ·rw [if_pos c126] at H
         have c126b0 : decide (t452 ≥ a3) = true := decide_eq_true c126
         clear c126
         have H' := Aside0.mk H
         clear H
         go_wp2
         go_meet
         case rel => exact ⟨true, 0, t456, ⟨by rw [if_pos rfl]; exact H'.out⟩, ⟨by repeat (with_reducible first | exact BK446.out | refine blk_far ?_ NB446_449.out _ | refine blk_drew ?_ | refine blk_drewN ?_ _)⟩, ⟨by repeat (with_reducible first | exact BK447.out | refine blk_far ?_ NB447_449.out _ | refine blk_drew ?_ | refine blk_drewN ?_ _)⟩, ⟨by repeat (with_reducible first | exact BK448.out | refine blk_far ?_ NB448_449.out _ | refine blk_drew ?_ | refine blk_drewN ?_ _)⟩, ⟨by (with_reducible repeat (first | refine blk_drewN ?_ _ | refine blk_drew ?_ | refine blk_alloc ?_ _)); refine blk_put (cs := #[.bool x450000_5, .bool x450001_5, .bool false, .int .i64 t450, .int .i64 t451, .int .i64 t452, .int .i64 t453, .int .i64 0, .int .i64 t456, .int .i64 a2, .int .i64 a3]) ?_ 0 _ rfl; (with_reducible repeat (first | refine blk_drewN ?_ _ | refine blk_drew ?_ | refine blk_alloc ?_ _)); refine blk_put (cs := #[.bool x450000_5, .bool x450001_5, .bool false, .int .i64 t450, .int .i64 t451, .int .i64 t452, .int .i64 t453, .int .i64 0, .int .i64 0, .int .i64 a2, .int .i64 a3]) ?_ 8 _ rfl; (with_reducible repeat (first | refine blk_drewN ?_ _ | refine blk_drew ?_ | refine blk_alloc ?_ _)); refine blk_put (cs := #[.bool x450000_5, .bool x450001_5, .bool false, .int .i64 t450, .int .i64 t451, .int .i64 t452, .int .i64 t453, .int .i64 0, .int .i64 0, .int .i64 a2, .int .i64 a3]) ?_ 7 _ rfl; (with_reducible repeat (first | refine blk_drewN ?_ _ | refine blk_drew ?_ | refine blk_alloc ?_ _)); exact BK449.out⟩, ⟨by repeat (with_reducible first | exact BK455.out | refine blk_far ?_ NB455_449.out _ | refine blk_drew ?_ | refine blk_drewN ?_ _)⟩, ⟨by repeat (first | (with_reducible first | exact HB.out | apply below_alloc | apply pw_below_drewN | apply below_drew1 | refine below_set ?_ GE446.out | refine below_set ?_ GE447.out | refine below_set ?_ GE448.out | refine below_set ?_ GE449.out | refine below_set ?_ GE455.out) | exact HB.out)⟩⟩
        ·rw [if_neg c126] at H
         have c126b0 : decide (t452 ≥ a3) = false := decide_eq_false c126
         clear c126
         have H' := Aside0.mk H
         clear H
         go_wp2
         go_meet
         case rel => exact ⟨false, 0, t456, ⟨by rw [if_neg (by decide)]; exact H'.out⟩, ⟨by repeat (with_reducible first | exact BK446.out | refine blk_far ?_ NB446_449.out _ | refine blk_drew ?_ | refine blk_drewN ?_ _)⟩, ⟨by repeat (with_reducible first | exact BK447.out | refine blk_far ?_ NB447_449.out _ | refine blk_drew ?_ | refine blk_drewN ?_ _)⟩, ⟨by repeat (with_reducible first | exact BK448.out | refine blk_far ?_ NB448_449.out _ | refine blk_drew ?_ | refine blk_drewN ?_ _)⟩, ⟨by (with_reducible repeat (first | refine blk_drewN ?_ _ | refine blk_drew ?_ | refine blk_alloc ?_ _)); refine blk_put (cs := #[.bool x450000_5, .bool x450001_5, .bool false, .int .i64 t450, .int .i64 t451, .int .i64 t452, .int .i64 t453, .int .i64 0, .int .i64 t456, .int .i64 a2, .int .i64 a3]) ?_ 0 _ rfl; (with_reducible repeat (first | refine blk_drewN ?_ _ | refine blk_drew ?_ | refine blk_alloc ?_ _)); refine blk_put (cs := #[.bool x450000_5, .bool x450001_5, .bool false, .int .i64 t450, .int .i64 t451, .int .i64 t452, .int .i64 t453, .int .i64 0, .int .i64 0, .int .i64 a2, .int .i64 a3]) ?_ 8 _ rfl; (with_reducible repeat (first | refine blk_drewN ?_ _ | refine blk_drew ?_ | refine blk_alloc ?_ _)); refine blk_put (cs := #[.bool x450000_5, .bool x450001_5, .bool false, .int .i64 t450, .int .i64 t451, .int .i64 t452, .int .i64 t453, .int .i64 0, .int .i64 0, .int .i64 a2, .int .i64 a3]) ?_ 7 _ rfl; (with_reducible repeat (first | refine blk_drewN ?_ _ | refine blk_drew ?_ | refine blk_alloc ?_ _)); exact BK449.out⟩, ⟨by repeat (with_reducible first | exact BK455.out | refine blk_far ?_ NB455_449.out _ | refine blk_drew ?_ | refine blk_drewN ?_ _)⟩, ⟨by repeat (first | (with_reducible first | exact HB.out | apply below_alloc | apply pw_below_drewN | apply below_drew1 | refine below_set ?_ GE446.out | refine below_set ?_ GE447.out | refine below_set ?_ GE448.out | refine below_set ?_ GE449.out | refine below_set ?_ GE455.out) | exact HB.out)⟩⟩
      ·rw [if_neg c107] at H
       have c107b0 : (t453 == 0) = false := beq_eq_false_iff_ne.mpr c107
       have c107b1 : (t453 != 0) = true := bne_iff_ne.mpr c107
       by_cases c161 : t453 > 0
       ·rw [if_pos c161] at H
        have c161b0 : decide (0 < t453) = true := decide_eq_true c161
        clear c161
        replace H := Option.bind_eq_some_iff.mp H
        obtain ⟨t457, A1620, H⟩ := H
        replace H : ((biremeref14_down.f (wrap64 ((wrap64 (a3 - 1)) - t452)) t453).bind fun t458 => (if x450000_5 = true then (some (true, x450001_5, false, t450, t451, t452, t453, mx 0 t457, mn t456 t458, a2, a3)) else (some (decide ((mx 0 t457) > (mn t456 t458)), x450001_5, false, t450, t451, t452, t453, mx 0 t457, mn t456 t458, a2, a3)))) = some (r1, r2, r3, r4, r5, r6, r7, r8, r9, r10, r11) := H
        have A162 := Aside0.mk A1620
        clear A1620
        obtain ⟨ji163, hji163⟩ : ∃ j_ : Int, (mx 0 t457) = j_ := ⟨_, rfl⟩
        replace H : ((biremeref14_down.f (wrap64 ((wrap64 (a3 - 1)) - t452)) t453).bind fun t458 => (if x450000_5 = true then (some (true, x450001_5, false, t450, t451, t452, t453, ji163, mn t456 t458, a2, a3)) else (some (decide ((ji163) > (mn t456 t458)), x450001_5, false, t450, t451, t452, t453, ji163, mn t456 t458, a2, a3)))) = some (r1, r2, r3, r4, r5, r6, r7, r8, r9, r10, r11) := by first | (rw [hji163] at H; exact H) | (simp only [hji163] at H ⊢; exact H)
        (try rw [hji163] at A106)
        (try rw [hji163] at A162)
        (try (have hji163l : 0 ≤ ji163 := by (rw [← hji163]; unfold mx; (repeat' split) <;> omega)))
        (try (have hji163m : 0 ≤ ji163 := by omega))
        have hji163_ : (if 0 < t457 then t457 else 0) = ji163 := hji163
        replace H := Option.bind_eq_some_iff.mp H
        obtain ⟨t458, A1640, H⟩ := H
        replace H : (if x450000_5 = true then (some (true, x450001_5, false, t450, t451, t452, t453, ji163, mn t456 t458, a2, a3)) else (some (decide ((ji163) > (mn t456 t458)), x450001_5, false, t450, t451, t452, t453, ji163, mn t456 t458, a2, a3))) = some (r1, r2, r3, r4, r5, r6, r7, r8, r9, r10, r11) := H
        have A164 := Aside0.mk A1640
        clear A1640
        obtain ⟨ji165, hji165⟩ : ∃ j_ : Int, (mn t456 t458) = j_ := ⟨_, rfl⟩
        replace H : (if x450000_5 = true then (some (true, x450001_5, false, t450, t451, t452, t453, ji163, ji165, a2, a3)) else (some (decide ((ji163) > (ji165)), x450001_5, false, t450, t451, t452, t453, ji163, ji165, a2, a3))) = some (r1, r2, r3, r4, r5, r6, r7, r8, r9, r10, r11) := by first | (rw [hji165] at H; exact H) | (simp only [hji165] at H ⊢; exact H)
        (try rw [hji165] at A106)
        (try rw [hji165] at A162)
        (try rw [hji165] at A164)
        have hji165_ : (if t458 < t456 then t458 else t456) = ji165 := hji165
        have HR := Aside0.mk H
        clear H
        try go_wp2
        have n0_ : Aside0 ((((wc.setCell ⟨gb449, 7, none⟩ (.int .i64 0)).drewN nd).setCell ⟨gb449, 8, none⟩ (.int .i64 t456)).heap[gb446]? = some (.cells #[.int .i64 a0_0, .int .i64 a0_1] 33 (0, 0))) := ⟨by repeat (with_reducible first | exact BK446.out | refine blk_far ?_ NB446_449.out _ | refine blk_drew ?_ | refine blk_drewN ?_ _)⟩
        have n1_ : Aside0 ((((wc.setCell ⟨gb449, 7, none⟩ (.int .i64 0)).drewN nd).setCell ⟨gb449, 8, none⟩ (.int .i64 t456)).heap[gb447]? = some (.cells #[.int .i64 a1_0, .int .i64 a1_1] 33 (0, 0))) := ⟨by repeat (with_reducible first | exact BK447.out | refine blk_far ?_ NB447_449.out _ | refine blk_drew ?_ | refine blk_drewN ?_ _)⟩
        have n2_ : Aside0 ((((wc.setCell ⟨gb449, 7, none⟩ (.int .i64 0)).drewN nd).setCell ⟨gb449, 8, none⟩ (.int .i64 t456)).heap[gb448]? = some (.cells #[.bool x449000_5, .bool x449001_5, .bool x449002_5, .int .i64 x449003_5, .int .i64 x449004_5, .int .i64 x449005_5, .int .i64 x449006_5, .int .i64 x449007_5, .int .i64 x449008_5, .int .i64 x449009_5, .int .i64 x449010_5] 75 (0, 0))) := ⟨by repeat (with_reducible first | exact BK448.out | refine blk_far ?_ NB448_449.out _ | refine blk_drew ?_ | refine blk_drewN ?_ _)⟩
        have n3_ : Aside0 ((((wc.setCell ⟨gb449, 7, none⟩ (.int .i64 0)).drewN nd).setCell ⟨gb449, 8, none⟩ (.int .i64 t456)).heap[gb449]? = some (.cells #[.bool x450000_5, .bool x450001_5, .bool false, .int .i64 t450, .int .i64 t451, .int .i64 t452, .int .i64 t453, .int .i64 0, .int .i64 t456, .int .i64 a2, .int .i64 a3] 75 (0, 0))) := ⟨by (with_reducible repeat (first | refine blk_drewN ?_ _ | refine blk_drew ?_ | refine blk_alloc ?_ _)); refine blk_put (cs := #[.bool x450000_5, .bool x450001_5, .bool false, .int .i64 t450, .int .i64 t451, .int .i64 t452, .int .i64 t453, .int .i64 0, .int .i64 0, .int .i64 a2, .int .i64 a3]) ?_ 8 _ rfl; (with_reducible repeat (first | refine blk_drewN ?_ _ | refine blk_drew ?_ | refine blk_alloc ?_ _)); refine blk_put (cs := #[.bool x450000_5, .bool x450001_5, .bool false, .int .i64 t450, .int .i64 t451, .int .i64 t452, .int .i64 t453, .int .i64 0, .int .i64 0, .int .i64 a2, .int .i64 a3]) ?_ 7 _ rfl; (with_reducible repeat (first | refine blk_drewN ?_ _ | refine blk_drew ?_ | refine blk_alloc ?_ _)); exact BK449.out⟩
        have n4_ : Aside0 ((((wc.setCell ⟨gb449, 7, none⟩ (.int .i64 0)).drewN nd).setCell ⟨gb449, 8, none⟩ (.int .i64 t456)).heap[gb455]? = some (.cells #[.int .i64 t450, .int .i64 t451, .int .i64 t452, .int .i64 t453] 23 (0, 0))) := ⟨by repeat (with_reducible first | exact BK455.out | refine blk_far ?_ NB455_449.out _ | refine blk_drew ?_ | refine blk_drewN ?_ _)⟩
        have n5_ : Aside0 (Below w.heap.size w (((wc.setCell ⟨gb449, 7, none⟩ (.int .i64 0)).drewN nd).setCell ⟨gb449, 8, none⟩ (.int .i64 t456))) := ⟨by repeat (first | (with_reducible first | exact HB.out | apply below_alloc | apply pw_below_drewN | apply below_drew1 | refine below_set ?_ GE446.out | refine below_set ?_ GE447.out | refine below_set ?_ GE448.out | refine below_set ?_ GE449.out | refine below_set ?_ GE455.out) | exact HB.out)⟩
        clear BK446 BK447 BK448 BK449 BK455 HB
        generalize (((wc.setCell ⟨gb449, 7, none⟩ (.int .i64 0)).drewN nd).setCell ⟨gb449, 8, none⟩ (.int .i64 t456)) = w181 at n0_ n1_ n2_ n3_ n4_ n5_ ⊢
        have BK446 := n0_
        have BK447 := n1_
        have BK448 := n2_
        have BK449 := n3_
        have BK455 := n4_
        have HB := n5_
        clear n0_ n1_ n2_ n3_ n4_ n5_
        (try (rw [drewN_self w181]; generalize hq_ : World.drewN w181 _ = w181; have n0_ : Aside0 (w181.heap[gb446]? = some (.cells #[.int .i64 a0_0, .int .i64 a0_1] 33 (0, 0))) := ⟨by rw [← hq_]; exact (by (with_reducible repeat (first | refine blk_drewN ?_ _ | refine blk_drew ?_ | refine blk_alloc ?_ _)); exact BK446.out)⟩; have n1_ : Aside0 (w181.heap[gb447]? = some (.cells #[.int .i64 a1_0, .int .i64 a1_1] 33 (0, 0))) := ⟨by rw [← hq_]; exact (by (with_reducible repeat (first | refine blk_drewN ?_ _ | refine blk_drew ?_ | refine blk_alloc ?_ _)); exact BK447.out)⟩; have n2_ : Aside0 (w181.heap[gb448]? = some (.cells #[.bool x449000_5, .bool x449001_5, .bool x449002_5, .int .i64 x449003_5, .int .i64 x449004_5, .int .i64 x449005_5, .int .i64 x449006_5, .int .i64 x449007_5, .int .i64 x449008_5, .int .i64 x449009_5, .int .i64 x449010_5] 75 (0, 0))) := ⟨by rw [← hq_]; exact (by (with_reducible repeat (first | refine blk_drewN ?_ _ | refine blk_drew ?_ | refine blk_alloc ?_ _)); exact BK448.out)⟩; have n3_ : Aside0 (w181.heap[gb449]? = some (.cells #[.bool x450000_5, .bool x450001_5, .bool false, .int .i64 t450, .int .i64 t451, .int .i64 t452, .int .i64 t453, .int .i64 0, .int .i64 t456, .int .i64 a2, .int .i64 a3] 75 (0, 0))) := ⟨by rw [← hq_]; exact (by (with_reducible repeat (first | refine blk_drewN ?_ _ | refine blk_drew ?_ | refine blk_alloc ?_ _)); exact BK449.out)⟩; have n4_ : Aside0 (w181.heap[gb455]? = some (.cells #[.int .i64 t450, .int .i64 t451, .int .i64 t452, .int .i64 t453] 23 (0, 0))) := ⟨by rw [← hq_]; exact (by (with_reducible repeat (first | refine blk_drewN ?_ _ | refine blk_drew ?_ | refine blk_alloc ?_ _)); exact BK455.out)⟩; have n5_ : Aside0 (Below w.heap.size w w181) := ⟨by rw [← hq_]; exact (by repeat (first | (with_reducible first | exact HB.out | apply below_alloc | apply pw_below_drewN | apply below_drew1 | refine below_set ?_ GE446.out | refine below_set ?_ GE447.out | refine below_set ?_ GE448.out | refine below_set ?_ GE449.out | refine below_set ?_ GE455.out) | exact HB.out))⟩; clear BK446 BK447 BK448 BK449 BK455 HB hq_; have BK446 := n0_; have BK447 := n1_; have BK448 := n2_; have BK449 := n3_; have BK455 := n4_; have HB := n5_; clear n0_ n1_ n2_ n3_ n4_ n5_))
        have n0_ := Aside0.mk (blk_drew BK446.out)
        have n1_ := Aside0.mk (blk_drew BK447.out)
        have n2_ := Aside0.mk (blk_drew BK448.out)
        have n3_ := Aside0.mk (blk_drew BK449.out)
        have n4_ := Aside0.mk (blk_drew BK455.out)
        have n5_ := Aside0.mk (below_drew1 HB.out)
        clear BK446
        clear BK447
        clear BK448
        clear BK449
        clear BK455
        clear HB
        have BK446 := n0_
        have BK447 := n1_
        have BK448 := n2_
        have BK449 := n3_
        have BK455 := n4_
        have HB := n5_
        clear n0_ n1_ n2_ n3_ n4_ n5_
        refine start_ (n := 11) (S := fun w' => w'.cell? ⟨gb449, 0, none⟩ = some (.bool x450000_5) ∧ w'.cell? ⟨gb449, 1, none⟩ = some (.bool x450001_5) ∧ w'.cell? ⟨gb449, 2, none⟩ = some (.bool false) ∧ w'.cell? ⟨gb449, 3, none⟩ = some (.int .i64 t450) ∧ w'.cell? ⟨gb449, 4, none⟩ = some (.int .i64 t451) ∧ w'.cell? ⟨gb449, 5, none⟩ = some (.int .i64 t452) ∧ w'.cell? ⟨gb449, 6, none⟩ = some (.int .i64 t453) ∧ w'.cell? ⟨gb449, 7, none⟩ = some (.int .i64 0) ∧ w'.cell? ⟨gb449, 8, none⟩ = some (.int .i64 t456) ∧ w'.cell? ⟨gb449, 9, none⟩ = some (.int .i64 a2) ∧ w'.cell? ⟨gb449, 10, none⟩ = some (.int .i64 a3)) (ds := [10]) #[false, false, false, false, false, false, false, false, false, false, false] (by kernel_rfl) rfl rfl ⟨(blk_cell BK449.out 0).trans rfl, (blk_cell BK449.out 1).trans rfl, (blk_cell BK449.out 2).trans rfl, (blk_cell BK449.out 3).trans rfl, (blk_cell BK449.out 4).trans rfl, (blk_cell BK449.out 5).trans rfl, (blk_cell BK449.out 6).trans rfl, (blk_cell BK449.out 7).trans rfl, (blk_cell BK449.out 8).trans rfl, (blk_cell BK449.out 9).trans rfl, (blk_cell BK449.out 10).trans rfl⟩ (fun hHeld => ?_); refine with_tabW biremeref14_Of.tab21 biremeref14_Of.bits21 (fun HT_ HW_ => ?_)
        generalize w181.drew = w182 at BK446 BK447 BK448 BK449 BK455 HB hHeld ⊢
        refine pure_ (i := 0) (N := some 131) (v := ?_) (a' := ?_) #[true, false, false, false, false, false, false, false, false, false, false] rfl rfl (any_of HT_.out (by kernel_rfl)) (fun _ _ _ h => h) (Or.inl ⟨by rfl, ?_⟩) ?_ ?_
        rotate_left
        ·intro w'
         go_simp
         with_reducible rfl
        rotate_left
        ·simp only [Act.put, List.setIfInBounds_toArray, List.set_cons_zero, List.set_cons_succ, i64_w, i32_w]
         rfl
        refine pure_ (i := 2) (N := some 133) (v := ?_) (a' := ?_) #[true, false, true, false, false, false, false, false, false, false, false] rfl rfl (any_of HT_.out (by kernel_rfl)) (fun _ _ _ h => h) (Or.inl ⟨by rfl, ?_⟩) ?_ ?_
        rotate_left
        ·intro w'
         go_simp
         with_reducible rfl
        rotate_left
        ·simp only [Act.put, List.setIfInBounds_toArray, List.set_cons_zero, List.set_cons_succ, i64_w, i32_w]
         rfl
        refine pure_ (i := 5) (N := some 136) (v := ?_) (a' := ?_) #[true, false, true, false, false, true, false, false, false, false, false] rfl rfl (any_of HT_.out (by kernel_rfl)) (fun _ _ _ h => h) (Or.inl ⟨by rfl, ?_⟩) ?_ ?_
        rotate_left
        ·intro w'
         go_simp
         with_reducible rfl
        rotate_left
        ·simp only [Act.put, List.setIfInBounds_toArray, List.set_cons_zero, List.set_cons_succ, i64_w, i32_w]
         rfl
        refine take_ (i := 1) (N := some 132) (v := ?_) (a' := ?_) #[true, true, true, false, false, true, false, false, false, false, false] rfl rfl (take_ofW HT_.out HW_.out (by kernel_rfl)) (fun _ _ _ h => h) (Or.inl ⟨by rfl, ?_⟩) hHeld ?_ ?_
        rotate_left
        ·rintro w' ⟨s0, s1, s2, s3, s4, s5, s6, s7, s8, s9, s10⟩
         go_simp
         with_reducible rfl
        rotate_left
        ·simp only [Act.put, List.setIfInBounds_toArray, List.set_cons_zero, List.set_cons_succ, i64_w, i32_w]
         rfl
        refine take_ (i := 3) (N := some 134) (v := ?_) (a' := ?_) #[true, true, true, true, false, true, false, false, false, false, false] rfl rfl (take_ofW HT_.out HW_.out (by kernel_rfl)) (fun _ _ _ h => h) (Or.inl ⟨by rfl, ?_⟩) hHeld ?_ ?_
        rotate_left
        ·rintro w' ⟨s0, s1, s2, s3, s4, s5, s6, s7, s8, s9, s10⟩
         go_simp
         with_reducible rfl
        rotate_left
        ·simp only [Act.put, List.setIfInBounds_toArray, List.set_cons_zero, List.set_cons_succ, i64_w, i32_w]
         rfl
        refine pure_ (i := 4) (N := some 135) (v := ?_) (a' := ?_) #[true, true, true, true, true, true, false, false, false, false, false] rfl rfl (any_of HT_.out (by kernel_rfl)) (fun _ _ _ h => h) (Or.inl ⟨by rfl, ?_⟩) ?_ ?_
        rotate_left
        ·intro w'
         go_simp
         with_reducible rfl
        rotate_left
        ·simp only [Act.put, List.setIfInBounds_toArray, List.set_cons_zero, List.set_cons_succ, i64_w, i32_w]
         rfl
        refine take_ (i := 6) (N := some 137) (v := ?_) (a' := ?_) #[true, true, true, true, true, true, true, false, false, false, false] rfl rfl (take_ofW HT_.out HW_.out (by kernel_rfl)) (fun _ _ _ h => h) (Or.inl ⟨by rfl, ?_⟩) hHeld ?_ ?_
        rotate_left
        ·rintro w' ⟨s0, s1, s2, s3, s4, s5, s6, s7, s8, s9, s10⟩
         go_simp
         with_reducible rfl
        rotate_left
        ·simp only [Act.put, List.setIfInBounds_toArray, List.set_cons_zero, List.set_cons_succ, i64_w, i32_w]
         rfl
        refine one_ (i := 7) (N := some 138) #[true, true, true, true, true, true, true, true, false, false, false] rfl rfl (one_of HT_.out (by kernel_rfl)) (by decide) (fun K hK => ?_)
        refine goes_ Try.func43 (by kernel_rfl) rfl #[.int .i64 (wrap64 (-t452)), .int .i64 t453] (by rfl) rfl rfl (by (try simp only [List.map_toArray, List.map_cons, List.map_nil]); first | done | rfl | (simp only [List.length_drop, List.length_take]; rfl)) ?_
        with_reducible refine (biremeref14_up.calls (wrap64 (-t452)) t453 t457 _ A162.out).mono ?_
        rintro e w' ⟨rfl, ⟨nd, rfl⟩⟩
        refine ⟨_, rfl, ?_⟩
        refine hK.out _ _ ⟨(blk_cell BK449.out 0).trans rfl, (blk_cell BK449.out 1).trans rfl, (blk_cell BK449.out 2).trans rfl, (blk_cell BK449.out 3).trans rfl, (blk_cell BK449.out 4).trans rfl, (blk_cell BK449.out 5).trans rfl, (blk_cell BK449.out 6).trans rfl, (blk_cell BK449.out 7).trans rfl, (blk_cell BK449.out 8).trans rfl, (blk_cell BK449.out 9).trans rfl, (blk_cell BK449.out 10).trans rfl⟩ (fun hHeld => ?_)
        clear hK K
        refine norm_ (a' := ?_) ?_ ?_
        rotate_left
        ·show Act.put _ (some 138) _ = _
         simp only [Act.put, List.setIfInBounds_toArray, List.set_cons_zero, List.set_cons_succ, i64_w, i32_w]
         rfl
        refine pure_ (i := 8) (N := some 139) (v := ?_) (a' := ?_) #[true, true, true, true, true, true, true, true, true, false, false] rfl rfl (any_of HT_.out (by kernel_rfl)) (fun _ _ _ h => h) (Or.inl ⟨by rfl, ?_⟩) ?_ ?_
        rotate_left
        ·intro w'
         go_simp
         with_reducible rfl
        rotate_left
        ·simp only [Act.put, List.setIfInBounds_toArray, List.set_cons_zero, List.set_cons_succ, i64_w, i32_w]
         rfl
        refine pure_ (i := 9) (N := some 140) (v := ?_) (a' := ?_) #[true, true, true, true, true, true, true, true, true, true, false] rfl rfl (any_of HT_.out (by kernel_rfl)) (fun _ _ _ h => h) (Or.inl ⟨by rfl, ?_⟩) ?_ ?_
        rotate_left
        ·intro w'
         go_simp
         with_reducible rfl
        rotate_left
        ·simp only [Act.put, List.setIfInBounds_toArray, List.set_cons_zero, List.set_cons_succ, i64_w, i32_w]
         rfl
        refine last_ (i := 10) (N := none) #[true, true, true, true, true, true, true, true, true, true, true] rfl rfl (one_of HT_.out (by kernel_rfl)) (by decide) (fun K hK => ?_)
        have hs183 : w182.cell? ⟨gb449, 7, none⟩ = some (.int .i64 0) := (blk_cell BK449.out 7).trans rfl
        have hfs183 := blk_frozen BK449.out 7
        have hns183_0 := NB446_449.out
        have hns183_1 := NB447_449.out
        have hns183_2 := NB448_449.out
        have hns183_4 := NB455_449.out
        have hms183_0 := NB449_446.out
        have hms183_1 := NB449_447.out
        have hms183_2 := NB449_448.out
        have hms183_4 := NB449_455.out
        refine skip_ (w1 := ?_) (by rfl) rfl ?_ ?_
        rotate_left
        ·go_simp
         rfl
        refine hK.out _ _ ?_
        clear hK K
        refine done_ (done_of HT_.out (by kernel_rfl)) ?_
        try go_wp2
        have n0_ : Aside0 (((w182.drewN nd).setCell ⟨gb449, 7, none⟩ (.int .i64 ji163)).heap[gb446]? = some (.cells #[.int .i64 a0_0, .int .i64 a0_1] 33 (0, 0))) := ⟨by (with_reducible repeat (first | refine blk_drewN ?_ _ | refine blk_drew ?_ | refine blk_alloc ?_ _)); refine blk_far ?_ NB446_449.out _; (with_reducible repeat (first | refine blk_drewN ?_ _ | refine blk_drew ?_ | refine blk_alloc ?_ _)); exact BK446.out⟩
        have n1_ : Aside0 (((w182.drewN nd).setCell ⟨gb449, 7, none⟩ (.int .i64 ji163)).heap[gb447]? = some (.cells #[.int .i64 a1_0, .int .i64 a1_1] 33 (0, 0))) := ⟨by (with_reducible repeat (first | refine blk_drewN ?_ _ | refine blk_drew ?_ | refine blk_alloc ?_ _)); refine blk_far ?_ NB447_449.out _; (with_reducible repeat (first | refine blk_drewN ?_ _ | refine blk_drew ?_ | refine blk_alloc ?_ _)); exact BK447.out⟩
        have n2_ : Aside0 (((w182.drewN nd).setCell ⟨gb449, 7, none⟩ (.int .i64 ji163)).heap[gb448]? = some (.cells #[.bool x449000_5, .bool x449001_5, .bool x449002_5, .int .i64 x449003_5, .int .i64 x449004_5, .int .i64 x449005_5, .int .i64 x449006_5, .int .i64 x449007_5, .int .i64 x449008_5, .int .i64 x449009_5, .int .i64 x449010_5] 75 (0, 0))) := ⟨by (with_reducible repeat (first | refine blk_drewN ?_ _ | refine blk_drew ?_ | refine blk_alloc ?_ _)); refine blk_far ?_ NB448_449.out _; (with_reducible repeat (first | refine blk_drewN ?_ _ | refine blk_drew ?_ | refine blk_alloc ?_ _)); exact BK448.out⟩
        have n3_ : Aside0 (((w182.drewN nd).setCell ⟨gb449, 7, none⟩ (.int .i64 ji163)).heap[gb449]? = some (.cells #[.bool x450000_5, .bool x450001_5, .bool false, .int .i64 t450, .int .i64 t451, .int .i64 t452, .int .i64 t453, .int .i64 ji163, .int .i64 t456, .int .i64 a2, .int .i64 a3] 75 (0, 0))) := ⟨by (with_reducible repeat (first | refine blk_drewN ?_ _ | refine blk_drew ?_ | refine blk_alloc ?_ _)); refine blk_put (cs := #[.bool x450000_5, .bool x450001_5, .bool false, .int .i64 t450, .int .i64 t451, .int .i64 t452, .int .i64 t453, .int .i64 0, .int .i64 t456, .int .i64 a2, .int .i64 a3]) ?_ 7 _ rfl; (with_reducible repeat (first | refine blk_drewN ?_ _ | refine blk_drew ?_ | refine blk_alloc ?_ _)); exact BK449.out⟩
        have n4_ : Aside0 (((w182.drewN nd).setCell ⟨gb449, 7, none⟩ (.int .i64 ji163)).heap[gb455]? = some (.cells #[.int .i64 t450, .int .i64 t451, .int .i64 t452, .int .i64 t453] 23 (0, 0))) := ⟨by (with_reducible repeat (first | refine blk_drewN ?_ _ | refine blk_drew ?_ | refine blk_alloc ?_ _)); refine blk_far ?_ NB455_449.out _; (with_reducible repeat (first | refine blk_drewN ?_ _ | refine blk_drew ?_ | refine blk_alloc ?_ _)); exact BK455.out⟩
        have n5_ : Aside0 (Below w.heap.size w ((w182.drewN nd).setCell ⟨gb449, 7, none⟩ (.int .i64 ji163))) := ⟨by repeat (first | (with_reducible first | exact HB.out | apply below_alloc | apply pw_below_drewN | apply below_drew1 | refine below_set ?_ GE446.out | refine below_set ?_ GE447.out | refine below_set ?_ GE448.out | refine below_set ?_ GE449.out | refine below_set ?_ GE455.out) | exact HB.out)⟩
        (try clear BK446)
        (try clear BK447)
        (try clear BK448)
        (try clear BK449)
        (try clear BK455)
        (try clear HB)
        generalize ((w182.drewN nd).setCell ⟨gb449, 7, none⟩ (.int .i64 ji163)) = w184 at n0_ n1_ n2_ n3_ n4_ n5_ ⊢
        have BK446 := n0_
        have BK447 := n1_
        have BK448 := n2_
        have BK449 := n3_
        have BK455 := n4_
        have HB := n5_
        clear n0_ n1_ n2_ n3_ n4_ n5_
        (try (rw [drewN_self w184]; generalize hq_ : World.drewN w184 _ = w184; have n0_ : Aside0 (w184.heap[gb446]? = some (.cells #[.int .i64 a0_0, .int .i64 a0_1] 33 (0, 0))) := ⟨by rw [← hq_]; exact (by (with_reducible repeat (first | refine blk_drewN ?_ _ | refine blk_drew ?_ | refine blk_alloc ?_ _)); exact BK446.out)⟩; have n1_ : Aside0 (w184.heap[gb447]? = some (.cells #[.int .i64 a1_0, .int .i64 a1_1] 33 (0, 0))) := ⟨by rw [← hq_]; exact (by (with_reducible repeat (first | refine blk_drewN ?_ _ | refine blk_drew ?_ | refine blk_alloc ?_ _)); exact BK447.out)⟩; have n2_ : Aside0 (w184.heap[gb448]? = some (.cells #[.bool x449000_5, .bool x449001_5, .bool x449002_5, .int .i64 x449003_5, .int .i64 x449004_5, .int .i64 x449005_5, .int .i64 x449006_5, .int .i64 x449007_5, .int .i64 x449008_5, .int .i64 x449009_5, .int .i64 x449010_5] 75 (0, 0))) := ⟨by rw [← hq_]; exact (by (with_reducible repeat (first | refine blk_drewN ?_ _ | refine blk_drew ?_ | refine blk_alloc ?_ _)); exact BK448.out)⟩; have n3_ : Aside0 (w184.heap[gb449]? = some (.cells #[.bool x450000_5, .bool x450001_5, .bool false, .int .i64 t450, .int .i64 t451, .int .i64 t452, .int .i64 t453, .int .i64 ji163, .int .i64 t456, .int .i64 a2, .int .i64 a3] 75 (0, 0))) := ⟨by rw [← hq_]; exact (by (with_reducible repeat (first | refine blk_drewN ?_ _ | refine blk_drew ?_ | refine blk_alloc ?_ _)); exact BK449.out)⟩; have n4_ : Aside0 (w184.heap[gb455]? = some (.cells #[.int .i64 t450, .int .i64 t451, .int .i64 t452, .int .i64 t453] 23 (0, 0))) := ⟨by rw [← hq_]; exact (by (with_reducible repeat (first | refine blk_drewN ?_ _ | refine blk_drew ?_ | refine blk_alloc ?_ _)); exact BK455.out)⟩; have n5_ : Aside0 (Below w.heap.size w w184) := ⟨by rw [← hq_]; exact (by repeat (first | (with_reducible first | exact HB.out | apply below_alloc | apply pw_below_drewN | apply below_drew1 | refine below_set ?_ GE446.out | refine below_set ?_ GE447.out | refine below_set ?_ GE448.out | refine below_set ?_ GE449.out | refine below_set ?_ GE455.out) | exact HB.out))⟩; clear BK446 BK447 BK448 BK449 BK455 HB hq_; have BK446 := n0_; have BK447 := n1_; have BK448 := n2_; have BK449 := n3_; have BK455 := n4_; have HB := n5_; clear n0_ n1_ n2_ n3_ n4_ n5_))
        have n0_ := Aside0.mk (blk_drew BK446.out)
        have n1_ := Aside0.mk (blk_drew BK447.out)
        have n2_ := Aside0.mk (blk_drew BK448.out)
        have n3_ := Aside0.mk (blk_drew BK449.out)
        have n4_ := Aside0.mk (blk_drew BK455.out)
        have n5_ := Aside0.mk (below_drew1 HB.out)
        clear BK446
        clear BK447
        clear BK448
        clear BK449
        clear BK455
        clear HB
        have BK446 := n0_
        have BK447 := n1_
        have BK448 := n2_
        have BK449 := n3_
        have BK455 := n4_
        have HB := n5_
        clear n0_ n1_ n2_ n3_ n4_ n5_
        refine start_ (n := 13) (S := fun w' => w'.cell? ⟨gb449, 0, none⟩ = some (.bool x450000_5) ∧ w'.cell? ⟨gb449, 1, none⟩ = some (.bool x450001_5) ∧ w'.cell? ⟨gb449, 2, none⟩ = some (.bool false) ∧ w'.cell? ⟨gb449, 3, none⟩ = some (.int .i64 t450) ∧ w'.cell? ⟨gb449, 4, none⟩ = some (.int .i64 t451) ∧ w'.cell? ⟨gb449, 5, none⟩ = some (.int .i64 t452) ∧ w'.cell? ⟨gb449, 6, none⟩ = some (.int .i64 t453) ∧ w'.cell? ⟨gb449, 7, none⟩ = some (.int .i64 ji163) ∧ w'.cell? ⟨gb449, 8, none⟩ = some (.int .i64 t456) ∧ w'.cell? ⟨gb449, 9, none⟩ = some (.int .i64 a2) ∧ w'.cell? ⟨gb449, 10, none⟩ = some (.int .i64 a3)) (ds := [12]) #[false, false, false, false, false, false, false, false, false, false, false, false, false] (by kernel_rfl) rfl rfl ⟨(blk_cell BK449.out 0).trans rfl, (blk_cell BK449.out 1).trans rfl, (blk_cell BK449.out 2).trans rfl, (blk_cell BK449.out 3).trans rfl, (blk_cell BK449.out 4).trans rfl, (blk_cell BK449.out 5).trans rfl, (blk_cell BK449.out 6).trans rfl, (blk_cell BK449.out 7).trans rfl, (blk_cell BK449.out 8).trans rfl, (blk_cell BK449.out 9).trans rfl, (blk_cell BK449.out 10).trans rfl⟩ (fun hHeld => ?_); refine with_tabW biremeref14_Of.tab22 biremeref14_Of.bits22 (fun HT_ HW_ => ?_)
        generalize w184.drew = w185 at BK446 BK447 BK448 BK449 BK455 HB hHeld ⊢
        refine pure_ (i := 0) (N := some 141) (v := ?_) (a' := ?_) #[true, false, false, false, false, false, false, false, false, false, false, false, false] rfl rfl (any_of HT_.out (by kernel_rfl)) (fun _ _ _ h => h) (Or.inl ⟨by rfl, ?_⟩) ?_ ?_
        rotate_left
        ·intro w'
         go_simp
         with_reducible rfl
        rotate_left
        ·simp only [Act.put, List.setIfInBounds_toArray, List.set_cons_zero, List.set_cons_succ, i64_w, i32_w]
         rfl
        refine pure_ (i := 2) (N := some 143) (v := ?_) (a' := ?_) #[true, false, true, false, false, false, false, false, false, false, false, false, false] rfl rfl (any_of HT_.out (by kernel_rfl)) (fun _ _ _ h => h) (Or.inl ⟨by rfl, ?_⟩) ?_ ?_
        rotate_left
        ·intro w'
         go_simp
         with_reducible rfl
        rotate_left
        ·simp only [Act.put, List.setIfInBounds_toArray, List.set_cons_zero, List.set_cons_succ, i64_w, i32_w]
         rfl
        refine pure_ (i := 3) (N := some 144) (v := ?_) (a' := ?_) #[true, false, true, true, false, false, false, false, false, false, false, false, false] rfl rfl (any_of HT_.out (by kernel_rfl)) (fun _ _ _ h => h) (Or.inl ⟨by rfl, ?_⟩) ?_ ?_
        rotate_left
        ·intro w'
         go_simp
         with_reducible rfl
        rotate_left
        ·simp only [Act.put, List.setIfInBounds_toArray, List.set_cons_zero, List.set_cons_succ, i64_w, i32_w]
         rfl
        refine pure_ (i := 4) (N := some 145) (v := ?_) (a' := ?_) #[true, false, true, true, true, false, false, false, false, false, false, false, false] rfl rfl (any_of HT_.out (by kernel_rfl)) (fun _ _ _ h => h) (Or.inl ⟨by rfl, ?_⟩) ?_ ?_
        rotate_left
        ·intro w'
         go_simp
         with_reducible rfl
        rotate_left
        ·simp only [Act.put, List.setIfInBounds_toArray, List.set_cons_zero, List.set_cons_succ, i64_w, i32_w]
         rfl
        refine pure_ (i := 7) (N := some 148) (v := ?_) (a' := ?_) #[true, false, true, true, true, false, false, true, false, false, false, false, false] rfl rfl (any_of HT_.out (by kernel_rfl)) (fun _ _ _ h => h) (Or.inl ⟨by rfl, ?_⟩) ?_ ?_
        rotate_left
        ·intro w'
         go_simp
         with_reducible rfl
        rotate_left
        ·simp only [Act.put, List.setIfInBounds_toArray, List.set_cons_zero, List.set_cons_succ, i64_w, i32_w]
         rfl
        refine take_ (i := 1) (N := some 142) (v := ?_) (a' := ?_) #[true, true, true, true, true, false, false, true, false, false, false, false, false] rfl rfl (take_ofW HT_.out HW_.out (by kernel_rfl)) (fun _ _ _ h => h) (Or.inl ⟨by rfl, ?_⟩) hHeld ?_ ?_
        rotate_left
        ·rintro w' ⟨s0, s1, s2, s3, s4, s5, s6, s7, s8, s9, s10⟩
         go_simp
         with_reducible rfl
        rotate_left
        ·simp only [Act.put, List.setIfInBounds_toArray, List.set_cons_zero, List.set_cons_succ, i64_w, i32_w]
         rfl
        refine take_ (i := 5) (N := some 146) (v := ?_) (a' := ?_) #[true, true, true, true, true, true, false, true, false, false, false, false, false] rfl rfl (take_ofW HT_.out HW_.out (by kernel_rfl)) (fun _ _ _ h => h) (Or.inl ⟨by rfl, ?_⟩) hHeld ?_ ?_
        rotate_left
        ·rintro w' ⟨s0, s1, s2, s3, s4, s5, s6, s7, s8, s9, s10⟩
         go_simp
         with_reducible rfl
        rotate_left
        ·simp only [Act.put, List.setIfInBounds_toArray, List.set_cons_zero, List.set_cons_succ, i64_w, i32_w]
         rfl
        refine pure_ (i := 6) (N := some 147) (v := ?_) (a' := ?_) #[true, true, true, true, true, true, true, true, false, false, false, false, false] rfl rfl (any_of HT_.out (by kernel_rfl)) (fun _ _ _ h => h) (Or.inl ⟨by rfl, ?_⟩) ?_ ?_
        rotate_left
        ·intro w'
         go_simp
         with_reducible rfl
        rotate_left
        ·simp only [Act.put, List.setIfInBounds_toArray, List.set_cons_zero, List.set_cons_succ, i64_w, i32_w]
         rfl
        refine take_ (i := 8) (N := some 149) (v := ?_) (a' := ?_) #[true, true, true, true, true, true, true, true, true, false, false, false, false] rfl rfl (take_ofW HT_.out HW_.out (by kernel_rfl)) (fun _ _ _ h => h) (Or.inl ⟨by rfl, ?_⟩) hHeld ?_ ?_
        rotate_left
        ·rintro w' ⟨s0, s1, s2, s3, s4, s5, s6, s7, s8, s9, s10⟩
         go_simp
         with_reducible rfl
        rotate_left
        ·simp only [Act.put, List.setIfInBounds_toArray, List.set_cons_zero, List.set_cons_succ, i64_w, i32_w]
         rfl
        refine one_ (i := 9) (N := some 150) #[true, true, true, true, true, true, true, true, true, true, false, false, false] rfl rfl (one_of HT_.out (by kernel_rfl)) (by decide) (fun K hK => ?_)
        refine goes_ Try.func44 (by kernel_rfl) rfl #[.int .i64 (wrap64 ((wrap64 (a3 - 1)) - t452)), .int .i64 t453] (by rfl) rfl rfl (by (try simp only [List.map_toArray, List.map_cons, List.map_nil]); first | done | rfl | (simp only [List.length_drop, List.length_take]; rfl)) ?_
        with_reducible refine (biremeref14_down.calls (wrap64 ((wrap64 (a3 - 1)) - t452)) t453 t458 _ A164.out).mono ?_
        rintro e w' ⟨rfl, ⟨nd, rfl⟩⟩
        refine ⟨_, rfl, ?_⟩
        refine hK.out _ _ ⟨(blk_cell BK449.out 0).trans rfl, (blk_cell BK449.out 1).trans rfl, (blk_cell BK449.out 2).trans rfl, (blk_cell BK449.out 3).trans rfl, (blk_cell BK449.out 4).trans rfl, (blk_cell BK449.out 5).trans rfl, (blk_cell BK449.out 6).trans rfl, (blk_cell BK449.out 7).trans rfl, (blk_cell BK449.out 8).trans rfl, (blk_cell BK449.out 9).trans rfl, (blk_cell BK449.out 10).trans rfl⟩ (fun hHeld => ?_)
        clear hK K
        refine norm_ (a' := ?_) ?_ ?_
        rotate_left
        ·show Act.put _ (some 150) _ = _
         simp only [Act.put, List.setIfInBounds_toArray, List.set_cons_zero, List.set_cons_succ, i64_w, i32_w]
         rfl
        refine pure_ (i := 10) (N := some 151) (v := ?_) (a' := ?_) #[true, true, true, true, true, true, true, true, true, true, true, false, false] rfl rfl (any_of HT_.out (by kernel_rfl)) (fun _ _ _ h => h) (Or.inl ⟨by rfl, ?_⟩) ?_ ?_
        rotate_left
        ·intro w'
         go_simp
         with_reducible rfl
        rotate_left
        ·simp only [Act.put, List.setIfInBounds_toArray, List.set_cons_zero, List.set_cons_succ, i64_w, i32_w]
         rfl
        refine pure_ (i := 11) (N := some 152) (v := ?_) (a' := ?_) #[true, true, true, true, true, true, true, true, true, true, true, true, false] rfl rfl (any_of HT_.out (by kernel_rfl)) (fun _ _ _ h => h) (Or.inl ⟨by rfl, ?_⟩) ?_ ?_
        rotate_left
        ·intro w'
         go_simp
         with_reducible rfl
        rotate_left
        ·simp only [Act.put, List.setIfInBounds_toArray, List.set_cons_zero, List.set_cons_succ, i64_w, i32_w]
         rfl
        refine last_ (i := 12) (N := none) #[true, true, true, true, true, true, true, true, true, true, true, true, true] rfl rfl (one_of HT_.out (by kernel_rfl)) (by decide) (fun K hK => ?_)
        have hs186 : w185.cell? ⟨gb449, 8, none⟩ = some (.int .i64 t456) := (blk_cell BK449.out 8).trans rfl
        have hfs186 := blk_frozen BK449.out 8
        have hns186_0 := NB446_449.out
        have hns186_1 := NB447_449.out
        have hns186_2 := NB448_449.out
        have hns186_4 := NB455_449.out
        have hms186_0 := NB449_446.out
        have hms186_1 := NB449_447.out
        have hms186_2 := NB449_448.out
        have hms186_4 := NB449_455.out
        refine skip_ (w1 := ?_) (by rfl) rfl ?_ ?_
        rotate_left
        ·go_simp
         rfl
        refine hK.out _ _ ?_
        clear hK K
        refine done_ (done_of HT_.out (by kernel_rfl)) ?_
        refine Met.intro ?_
        go_step
        go_meet
        case rel => exact ⟨x450000_5, ji163, ji165, HR, ⟨by repeat (with_reducible first | exact BK446.out | refine blk_far ?_ NB446_449.out _ | refine blk_drew ?_ | refine blk_drewN ?_ _)⟩, ⟨by repeat (with_reducible first | exact BK447.out | refine blk_far ?_ NB447_449.out _ | refine blk_drew ?_ | refine blk_drewN ?_ _)⟩, ⟨by repeat (with_reducible first | exact BK448.out | refine blk_far ?_ NB448_449.out _ | refine blk_drew ?_ | refine blk_drewN ?_ _)⟩, ⟨by (with_reducible repeat (first | refine blk_drewN ?_ _ | refine blk_drew ?_ | refine blk_alloc ?_ _)); refine blk_put (cs := #[.bool x450000_5, .bool x450001_5, .bool false, .int .i64 t450, .int .i64 t451, .int .i64 t452, .int .i64 t453, .int .i64 ji163, .int .i64 t456, .int .i64 a2, .int .i64 a3]) ?_ 8 _ rfl; (with_reducible repeat (first | refine blk_drewN ?_ _ | refine blk_drew ?_ | refine blk_alloc ?_ _)); exact BK449.out⟩, ⟨by repeat (with_reducible first | exact BK455.out | refine blk_far ?_ NB455_449.out _ | refine blk_drew ?_ | refine blk_drewN ?_ _)⟩, ⟨by repeat (first | (with_reducible first | exact HB.out | apply below_alloc | apply pw_below_drewN | apply below_drew1 | refine below_set ?_ GE446.out | refine below_set ?_ GE447.out | refine below_set ?_ GE448.out | refine below_set ?_ GE449.out | refine below_set ?_ GE455.out) | exact HB.out)⟩⟩
       ·rw [if_neg c161] at H
        have c161b0 : decide (0 < t453) = false := decide_eq_false c161
        clear c161
        replace H := Option.bind_eq_some_iff.mp H
        obtain ⟨t459, A2150, H⟩ := H
        replace H : ((biremeref14_down.f t452 (wrap64 (-t453))).bind fun t460 => (if x450000_5 = true then (some (true, x450001_5, false, t450, t451, t452, t453, mx 0 t459, mn t456 t460, a2, a3)) else (some (decide ((mx 0 t459) > (mn t456 t460)), x450001_5, false, t450, t451, t452, t453, mx 0 t459, mn t456 t460, a2, a3)))) = some (r1, r2, r3, r4, r5, r6, r7, r8, r9, r10, r11) := H
        have A215 := Aside0.mk A2150
        clear A2150
        obtain ⟨ji216, hji216⟩ : ∃ j_ : Int, (mx 0 t459) = j_ := ⟨_, rfl⟩
        replace H : ((biremeref14_down.f t452 (wrap64 (-t453))).bind fun t460 => (if x450000_5 = true then (some (true, x450001_5, false, t450, t451, t452, t453, ji216, mn t456 t460, a2, a3)) else (some (decide ((ji216) > (mn t456 t460)), x450001_5, false, t450, t451, t452, t453, ji216, mn t456 t460, a2, a3)))) = some (r1, r2, r3, r4, r5, r6, r7, r8, r9, r10, r11) := by first | (rw [hji216] at H; exact H) | (simp only [hji216] at H ⊢; exact H)
        (try rw [hji216] at A106)
        (try rw [hji216] at A215)
        (try (have hji216l : 0 ≤ ji216 := by (rw [← hji216]; unfold mx; (repeat' split) <;> omega)))
        (try (have hji216m : 0 ≤ ji216 := by omega))
        have hji216_ : (if 0 < t459 then t459 else 0) = ji216 := hji216
        replace H := Option.bind_eq_some_iff.mp H
        obtain ⟨t460, A2170, H⟩ := H
        replace H : (if x450000_5 = true then (some (true, x450001_5, false, t450, t451, t452, t453, ji216, mn t456 t460, a2, a3)) else (some (decide ((ji216) > (mn t456 t460)), x450001_5, false, t450, t451, t452, t453, ji216, mn t456 t460, a2, a3))) = some (r1, r2, r3, r4, r5, r6, r7, r8, r9, r10, r11) := H
        have A217 := Aside0.mk A2170
        clear A2170
        obtain ⟨ji218, hji218⟩ : ∃ j_ : Int, (mn t456 t460) = j_ := ⟨_, rfl⟩
        replace H : (if x450000_5 = true then (some (true, x450001_5, false, t450, t451, t452, t453, ji216, ji218, a2, a3)) else (some (decide ((ji216) > (ji218)), x450001_5, false, t450, t451, t452, t453, ji216, ji218, a2, a3))) = some (r1, r2, r3, r4, r5, r6, r7, r8, r9, r10, r11) := by first | (rw [hji218] at H; exact H) | (simp only [hji218] at H ⊢; exact H)
        (try rw [hji218] at A106)
        (try rw [hji218] at A215)
        (try rw [hji218] at A217)
        have hji218_ : (if t460 < t456 then t460 else t456) = ji218 := hji218
        have HR := Aside0.mk H
        clear H
        try go_wp2
        have n0_ : Aside0 ((((wc.setCell ⟨gb449, 7, none⟩ (.int .i64 0)).drewN nd).setCell ⟨gb449, 8, none⟩ (.int .i64 t456)).heap[gb446]? = some (.cells #[.int .i64 a0_0, .int .i64 a0_1] 33 (0, 0))) := ⟨by repeat (with_reducible first | exact BK446.out | refine blk_far ?_ NB446_449.out _ | refine blk_drew ?_ | refine blk_drewN ?_ _)⟩
        have n1_ : Aside0 ((((wc.setCell ⟨gb449, 7, none⟩ (.int .i64 0)).drewN nd).setCell ⟨gb449, 8, none⟩ (.int .i64 t456)).heap[gb447]? = some (.cells #[.int .i64 a1_0, .int .i64 a1_1] 33 (0, 0))) := ⟨by repeat (with_reducible first | exact BK447.out | refine blk_far ?_ NB447_449.out _ | refine blk_drew ?_ | refine blk_drewN ?_ _)⟩
        have n2_ : Aside0 ((((wc.setCell ⟨gb449, 7, none⟩ (.int .i64 0)).drewN nd).setCell ⟨gb449, 8, none⟩ (.int .i64 t456)).heap[gb448]? = some (.cells #[.bool x449000_5, .bool x449001_5, .bool x449002_5, .int .i64 x449003_5, .int .i64 x449004_5, .int .i64 x449005_5, .int .i64 x449006_5, .int .i64 x449007_5, .int .i64 x449008_5, .int .i64 x449009_5, .int .i64 x449010_5] 75 (0, 0))) := ⟨by repeat (with_reducible first | exact BK448.out | refine blk_far ?_ NB448_449.out _ | refine blk_drew ?_ | refine blk_drewN ?_ _)⟩
        have n3_ : Aside0 ((((wc.setCell ⟨gb449, 7, none⟩ (.int .i64 0)).drewN nd).setCell ⟨gb449, 8, none⟩ (.int .i64 t456)).heap[gb449]? = some (.cells #[.bool x450000_5, .bool x450001_5, .bool false, .int .i64 t450, .int .i64 t451, .int .i64 t452, .int .i64 t453, .int .i64 0, .int .i64 t456, .int .i64 a2, .int .i64 a3] 75 (0, 0))) := ⟨by (with_reducible repeat (first | refine blk_drewN ?_ _ | refine blk_drew ?_ | refine blk_alloc ?_ _)); refine blk_put (cs := #[.bool x450000_5, .bool x450001_5, .bool false, .int .i64 t450, .int .i64 t451, .int .i64 t452, .int .i64 t453, .int .i64 0, .int .i64 0, .int .i64 a2, .int .i64 a3]) ?_ 8 _ rfl; (with_reducible repeat (first | refine blk_drewN ?_ _ | refine blk_drew ?_ | refine blk_alloc ?_ _)); refine blk_put (cs := #[.bool x450000_5, .bool x450001_5, .bool false, .int .i64 t450, .int .i64 t451, .int .i64 t452, .int .i64 t453, .int .i64 0, .int .i64 0, .int .i64 a2, .int .i64 a3]) ?_ 7 _ rfl; (with_reducible repeat (first | refine blk_drewN ?_ _ | refine blk_drew ?_ | refine blk_alloc ?_ _)); exact BK449.out⟩
        have n4_ : Aside0 ((((wc.setCell ⟨gb449, 7, none⟩ (.int .i64 0)).drewN nd).setCell ⟨gb449, 8, none⟩ (.int .i64 t456)).heap[gb455]? = some (.cells #[.int .i64 t450, .int .i64 t451, .int .i64 t452, .int .i64 t453] 23 (0, 0))) := ⟨by repeat (with_reducible first | exact BK455.out | refine blk_far ?_ NB455_449.out _ | refine blk_drew ?_ | refine blk_drewN ?_ _)⟩
        have n5_ : Aside0 (Below w.heap.size w (((wc.setCell ⟨gb449, 7, none⟩ (.int .i64 0)).drewN nd).setCell ⟨gb449, 8, none⟩ (.int .i64 t456))) := ⟨by repeat (first | (with_reducible first | exact HB.out | apply below_alloc | apply pw_below_drewN | apply below_drew1 | refine below_set ?_ GE446.out | refine below_set ?_ GE447.out | refine below_set ?_ GE448.out | refine below_set ?_ GE449.out | refine below_set ?_ GE455.out) | exact HB.out)⟩
        clear BK446 BK447 BK448 BK449 BK455 HB
        generalize (((wc.setCell ⟨gb449, 7, none⟩ (.int .i64 0)).drewN nd).setCell ⟨gb449, 8, none⟩ (.int .i64 t456)) = w234 at n0_ n1_ n2_ n3_ n4_ n5_ ⊢
        have BK446 := n0_
        have BK447 := n1_
        have BK448 := n2_
        have BK449 := n3_
        have BK455 := n4_
        have HB := n5_
        clear n0_ n1_ n2_ n3_ n4_ n5_
        (try (rw [drewN_self w234]; generalize hq_ : World.drewN w234 _ = w234; have n0_ : Aside0 (w234.heap[gb446]? = some (.cells #[.int .i64 a0_0, .int .i64 a0_1] 33 (0, 0))) := ⟨by rw [← hq_]; exact (by (with_reducible repeat (first | refine blk_drewN ?_ _ | refine blk_drew ?_ | refine blk_alloc ?_ _)); exact BK446.out)⟩; have n1_ : Aside0 (w234.heap[gb447]? = some (.cells #[.int .i64 a1_0, .int .i64 a1_1] 33 (0, 0))) := ⟨by rw [← hq_]; exact (by (with_reducible repeat (first | refine blk_drewN ?_ _ | refine blk_drew ?_ | refine blk_alloc ?_ _)); exact BK447.out)⟩; have n2_ : Aside0 (w234.heap[gb448]? = some (.cells #[.bool x449000_5, .bool x449001_5, .bool x449002_5, .int .i64 x449003_5, .int .i64 x449004_5, .int .i64 x449005_5, .int .i64 x449006_5, .int .i64 x449007_5, .int .i64 x449008_5, .int .i64 x449009_5, .int .i64 x449010_5] 75 (0, 0))) := ⟨by rw [← hq_]; exact (by (with_reducible repeat (first | refine blk_drewN ?_ _ | refine blk_drew ?_ | refine blk_alloc ?_ _)); exact BK448.out)⟩; have n3_ : Aside0 (w234.heap[gb449]? = some (.cells #[.bool x450000_5, .bool x450001_5, .bool false, .int .i64 t450, .int .i64 t451, .int .i64 t452, .int .i64 t453, .int .i64 0, .int .i64 t456, .int .i64 a2, .int .i64 a3] 75 (0, 0))) := ⟨by rw [← hq_]; exact (by (with_reducible repeat (first | refine blk_drewN ?_ _ | refine blk_drew ?_ | refine blk_alloc ?_ _)); exact BK449.out)⟩; have n4_ : Aside0 (w234.heap[gb455]? = some (.cells #[.int .i64 t450, .int .i64 t451, .int .i64 t452, .int .i64 t453] 23 (0, 0))) := ⟨by rw [← hq_]; exact (by (with_reducible repeat (first | refine blk_drewN ?_ _ | refine blk_drew ?_ | refine blk_alloc ?_ _)); exact BK455.out)⟩; have n5_ : Aside0 (Below w.heap.size w w234) := ⟨by rw [← hq_]; exact (by repeat (first | (with_reducible first | exact HB.out | apply below_alloc | apply pw_below_drewN | apply below_drew1 | refine below_set ?_ GE446.out | refine below_set ?_ GE447.out | refine below_set ?_ GE448.out | refine below_set ?_ GE449.out | refine below_set ?_ GE455.out) | exact HB.out))⟩; clear BK446 BK447 BK448 BK449 BK455 HB hq_; have BK446 := n0_; have BK447 := n1_; have BK448 := n2_; have BK449 := n3_; have BK455 := n4_; have HB := n5_; clear n0_ n1_ n2_ n3_ n4_ n5_))
        have n0_ := Aside0.mk (blk_drew BK446.out)
        have n1_ := Aside0.mk (blk_drew BK447.out)
        have n2_ := Aside0.mk (blk_drew BK448.out)
        have n3_ := Aside0.mk (blk_drew BK449.out)
        have n4_ := Aside0.mk (blk_drew BK455.out)
        have n5_ := Aside0.mk (below_drew1 HB.out)
        clear BK446
        clear BK447
        clear BK448
        clear BK449
        clear BK455
        clear HB
        have BK446 := n0_
        have BK447 := n1_
        have BK448 := n2_
        have BK449 := n3_
        have BK455 := n4_
        have HB := n5_
        clear n0_ n1_ n2_ n3_ n4_ n5_
        refine start_ (n := 14) (S := fun w' => w'.cell? ⟨gb449, 0, none⟩ = some (.bool x450000_5) ∧ w'.cell? ⟨gb449, 1, none⟩ = some (.bool x450001_5) ∧ w'.cell? ⟨gb449, 2, none⟩ = some (.bool false) ∧ w'.cell? ⟨gb449, 3, none⟩ = some (.int .i64 t450) ∧ w'.cell? ⟨gb449, 4, none⟩ = some (.int .i64 t451) ∧ w'.cell? ⟨gb449, 5, none⟩ = some (.int .i64 t452) ∧ w'.cell? ⟨gb449, 6, none⟩ = some (.int .i64 t453) ∧ w'.cell? ⟨gb449, 7, none⟩ = some (.int .i64 0) ∧ w'.cell? ⟨gb449, 8, none⟩ = some (.int .i64 t456) ∧ w'.cell? ⟨gb449, 9, none⟩ = some (.int .i64 a2) ∧ w'.cell? ⟨gb449, 10, none⟩ = some (.int .i64 a3)) (ds := [13]) #[false, false, false, false, false, false, false, false, false, false, false, false, false, false] (by kernel_rfl) rfl rfl ⟨(blk_cell BK449.out 0).trans rfl, (blk_cell BK449.out 1).trans rfl, (blk_cell BK449.out 2).trans rfl, (blk_cell BK449.out 3).trans rfl, (blk_cell BK449.out 4).trans rfl, (blk_cell BK449.out 5).trans rfl, (blk_cell BK449.out 6).trans rfl, (blk_cell BK449.out 7).trans rfl, (blk_cell BK449.out 8).trans rfl, (blk_cell BK449.out 9).trans rfl, (blk_cell BK449.out 10).trans rfl⟩ (fun hHeld => ?_); refine with_tabW biremeref14_Of.tab16 biremeref14_Of.bits16 (fun HT_ HW_ => ?_)
        generalize w234.drew = w235 at BK446 BK447 BK448 BK449 BK455 HB hHeld ⊢
        refine pure_ (i := 0) (N := some 90) (v := ?_) (a' := ?_) #[true, false, false, false, false, false, false, false, false, false, false, false, false, false] rfl rfl (any_of HT_.out (by kernel_rfl)) (fun _ _ _ h => h) (Or.inl ⟨by rfl, ?_⟩) ?_ ?_
        rotate_left
        ·intro w'
         go_simp
         with_reducible rfl
        rotate_left
        ·simp only [Act.put, List.setIfInBounds_toArray, List.set_cons_zero, List.set_cons_succ, i64_w, i32_w]
         rfl
        refine pure_ (i := 2) (N := some 92) (v := ?_) (a' := ?_) #[true, false, true, false, false, false, false, false, false, false, false, false, false, false] rfl rfl (any_of HT_.out (by kernel_rfl)) (fun _ _ _ h => h) (Or.inl ⟨by rfl, ?_⟩) ?_ ?_
        rotate_left
        ·intro w'
         go_simp
         with_reducible rfl
        rotate_left
        ·simp only [Act.put, List.setIfInBounds_toArray, List.set_cons_zero, List.set_cons_succ, i64_w, i32_w]
         rfl
        refine pure_ (i := 4) (N := some 94) (v := ?_) (a' := ?_) #[true, false, true, false, true, false, false, false, false, false, false, false, false, false] rfl rfl (any_of HT_.out (by kernel_rfl)) (fun _ _ _ h => h) (Or.inl ⟨by rfl, ?_⟩) ?_ ?_
        rotate_left
        ·intro w'
         go_simp
         with_reducible rfl
        rotate_left
        ·simp only [Act.put, List.setIfInBounds_toArray, List.set_cons_zero, List.set_cons_succ, i64_w, i32_w]
         rfl
        refine pure_ (i := 5) (N := some 95) (v := ?_) (a' := ?_) #[true, false, true, false, true, true, false, false, false, false, false, false, false, false] rfl rfl (any_of HT_.out (by kernel_rfl)) (fun _ _ _ h => h) (Or.inl ⟨by rfl, ?_⟩) ?_ ?_
        rotate_left
        ·intro w'
         go_simp
         with_reducible rfl
        rotate_left
        ·simp only [Act.put, List.setIfInBounds_toArray, List.set_cons_zero, List.set_cons_succ, i64_w, i32_w]
         rfl
        refine pure_ (i := 7) (N := some 97) (v := ?_) (a' := ?_) #[true, false, true, false, true, true, false, true, false, false, false, false, false, false] rfl rfl (any_of HT_.out (by kernel_rfl)) (fun _ _ _ h => h) (Or.inl ⟨by rfl, ?_⟩) ?_ ?_
        rotate_left
        ·intro w'
         go_simp
         with_reducible rfl
        rotate_left
        ·simp only [Act.put, List.setIfInBounds_toArray, List.set_cons_zero, List.set_cons_succ, i64_w, i32_w]
         rfl
        refine take_ (i := 1) (N := some 91) (v := ?_) (a' := ?_) #[true, true, true, false, true, true, false, true, false, false, false, false, false, false] rfl rfl (take_ofW HT_.out HW_.out (by kernel_rfl)) (fun _ _ _ h => h) (Or.inl ⟨by rfl, ?_⟩) hHeld ?_ ?_
        rotate_left
        ·rintro w' ⟨s0, s1, s2, s3, s4, s5, s6, s7, s8, s9, s10⟩
         go_simp
         with_reducible rfl
        rotate_left
        ·simp only [Act.put, List.setIfInBounds_toArray, List.set_cons_zero, List.set_cons_succ, i64_w, i32_w]
         rfl
        refine take_ (i := 3) (N := some 93) (v := ?_) (a' := ?_) #[true, true, true, true, true, true, false, true, false, false, false, false, false, false] rfl rfl (take_ofW HT_.out HW_.out (by kernel_rfl)) (fun _ _ _ h => h) (Or.inl ⟨by rfl, ?_⟩) hHeld ?_ ?_
        rotate_left
        ·rintro w' ⟨s0, s1, s2, s3, s4, s5, s6, s7, s8, s9, s10⟩
         go_simp
         with_reducible rfl
        rotate_left
        ·simp only [Act.put, List.setIfInBounds_toArray, List.set_cons_zero, List.set_cons_succ, i64_w, i32_w]
         rfl
        refine pure_ (i := 6) (N := some 96) (v := ?_) (a' := ?_) #[true, true, true, true, true, true, true, true, false, false, false, false, false, false] rfl rfl (any_of HT_.out (by kernel_rfl)) (fun _ _ _ h => h) (Or.inl ⟨by rfl, ?_⟩) ?_ ?_
        rotate_left
        ·intro w'
         go_simp
         with_reducible rfl
        rotate_left
        ·simp only [Act.put, List.setIfInBounds_toArray, List.set_cons_zero, List.set_cons_succ, i64_w, i32_w]
         rfl
        refine take_ (i := 8) (N := some 98) (v := ?_) (a' := ?_) #[true, true, true, true, true, true, true, true, true, false, false, false, false, false] rfl rfl (take_ofW HT_.out HW_.out (by kernel_rfl)) (fun _ _ _ h => h) (Or.inl ⟨by rfl, ?_⟩) hHeld ?_ ?_
        rotate_left
        ·rintro w' ⟨s0, s1, s2, s3, s4, s5, s6, s7, s8, s9, s10⟩
         go_simp
         with_reducible rfl
        rotate_left
        ·simp only [Act.put, List.setIfInBounds_toArray, List.set_cons_zero, List.set_cons_succ, i64_w, i32_w]
         rfl
        refine pure_ (i := 9) (N := some 99) (v := ?_) (a' := ?_) #[true, true, true, true, true, true, true, true, true, true, false, false, false, false] rfl rfl (any_of HT_.out (by kernel_rfl)) (fun _ _ _ h => h) (Or.inl ⟨by rfl, ?_⟩) ?_ ?_
        rotate_left
        ·intro w'
         go_simp
         with_reducible rfl
        rotate_left
        ·simp only [Act.put, List.setIfInBounds_toArray, List.set_cons_zero, List.set_cons_succ, i64_w, i32_w]
         rfl
        refine one_ (i := 10) (N := some 100) #[true, true, true, true, true, true, true, true, true, true, true, false, false, false] rfl rfl (one_of HT_.out (by kernel_rfl)) (by decide) (fun K hK => ?_)
        refine goes_ Try.func43 (by kernel_rfl) rfl #[.int .i64 (wrap64 (t452 - (wrap64 (a3 - 1)))), .int .i64 (wrap64 (-t453))] (by rfl) rfl rfl (by (try simp only [List.map_toArray, List.map_cons, List.map_nil]); first | done | rfl | (simp only [List.length_drop, List.length_take]; rfl)) ?_
        with_reducible refine (biremeref14_up.calls (wrap64 (t452 - (wrap64 (a3 - 1)))) (wrap64 (-t453)) t459 _ A215.out).mono ?_
        rintro e w' ⟨rfl, ⟨nd, rfl⟩⟩
        refine ⟨_, rfl, ?_⟩
        refine hK.out _ _ ⟨(blk_cell BK449.out 0).trans rfl, (blk_cell BK449.out 1).trans rfl, (blk_cell BK449.out 2).trans rfl, (blk_cell BK449.out 3).trans rfl, (blk_cell BK449.out 4).trans rfl, (blk_cell BK449.out 5).trans rfl, (blk_cell BK449.out 6).trans rfl, (blk_cell BK449.out 7).trans rfl, (blk_cell BK449.out 8).trans rfl, (blk_cell BK449.out 9).trans rfl, (blk_cell BK449.out 10).trans rfl⟩ (fun hHeld => ?_)
        clear hK K
        refine norm_ (a' := ?_) ?_ ?_
        rotate_left
        ·show Act.put _ (some 100) _ = _
         simp only [Act.put, List.setIfInBounds_toArray, List.set_cons_zero, List.set_cons_succ, i64_w, i32_w]
         rfl
        refine pure_ (i := 11) (N := some 101) (v := ?_) (a' := ?_) #[true, true, true, true, true, true, true, true, true, true, true, true, false, false] rfl rfl (any_of HT_.out (by kernel_rfl)) (fun _ _ _ h => h) (Or.inl ⟨by rfl, ?_⟩) ?_ ?_
        rotate_left
        ·intro w'
         go_simp
         with_reducible rfl
        rotate_left
        ·simp only [Act.put, List.setIfInBounds_toArray, List.set_cons_zero, List.set_cons_succ, i64_w, i32_w]
         rfl
        refine pure_ (i := 12) (N := some 102) (v := ?_) (a' := ?_) #[true, true, true, true, true, true, true, true, true, true, true, true, true, false] rfl rfl (any_of HT_.out (by kernel_rfl)) (fun _ _ _ h => h) (Or.inl ⟨by rfl, ?_⟩) ?_ ?_
        rotate_left
        ·intro w'
         go_simp
         with_reducible rfl
        rotate_left
        ·simp only [Act.put, List.setIfInBounds_toArray, List.set_cons_zero, List.set_cons_succ, i64_w, i32_w]
         rfl
        refine last_ (i := 13) (N := none) #[true, true, true, true, true, true, true, true, true, true, true, true, true, true] rfl rfl (one_of HT_.out (by kernel_rfl)) (by decide) (fun K hK => ?_)
        have hs236 : w235.cell? ⟨gb449, 7, none⟩ = some (.int .i64 0) := (blk_cell BK449.out 7).trans rfl
        have hfs236 := blk_frozen BK449.out 7
        have hns236_0 := NB446_449.out
        have hns236_1 := NB447_449.out
        have hns236_2 := NB448_449.out
        have hns236_4 := NB455_449.out
        have hms236_0 := NB449_446.out
        have hms236_1 := NB449_447.out
        have hms236_2 := NB449_448.out
        have hms236_4 := NB449_455.out
        refine skip_ (w1 := ?_) (by rfl) rfl ?_ ?_
        rotate_left
        ·go_simp
         rfl
        refine hK.out _ _ ?_
        clear hK K
        refine done_ (done_of HT_.out (by kernel_rfl)) ?_
        try go_wp2
        have n0_ : Aside0 (((w235.drewN nd).setCell ⟨gb449, 7, none⟩ (.int .i64 ji216)).heap[gb446]? = some (.cells #[.int .i64 a0_0, .int .i64 a0_1] 33 (0, 0))) := ⟨by (with_reducible repeat (first | refine blk_drewN ?_ _ | refine blk_drew ?_ | refine blk_alloc ?_ _)); refine blk_far ?_ NB446_449.out _; (with_reducible repeat (first | refine blk_drewN ?_ _ | refine blk_drew ?_ | refine blk_alloc ?_ _)); exact BK446.out⟩
        have n1_ : Aside0 (((w235.drewN nd).setCell ⟨gb449, 7, none⟩ (.int .i64 ji216)).heap[gb447]? = some (.cells #[.int .i64 a1_0, .int .i64 a1_1] 33 (0, 0))) := ⟨by (with_reducible repeat (first | refine blk_drewN ?_ _ | refine blk_drew ?_ | refine blk_alloc ?_ _)); refine blk_far ?_ NB447_449.out _; (with_reducible repeat (first | refine blk_drewN ?_ _ | refine blk_drew ?_ | refine blk_alloc ?_ _)); exact BK447.out⟩
        have n2_ : Aside0 (((w235.drewN nd).setCell ⟨gb449, 7, none⟩ (.int .i64 ji216)).heap[gb448]? = some (.cells #[.bool x449000_5, .bool x449001_5, .bool x449002_5, .int .i64 x449003_5, .int .i64 x449004_5, .int .i64 x449005_5, .int .i64 x449006_5, .int .i64 x449007_5, .int .i64 x449008_5, .int .i64 x449009_5, .int .i64 x449010_5] 75 (0, 0))) := ⟨by (with_reducible repeat (first | refine blk_drewN ?_ _ | refine blk_drew ?_ | refine blk_alloc ?_ _)); refine blk_far ?_ NB448_449.out _; (with_reducible repeat (first | refine blk_drewN ?_ _ | refine blk_drew ?_ | refine blk_alloc ?_ _)); exact BK448.out⟩
        have n3_ : Aside0 (((w235.drewN nd).setCell ⟨gb449, 7, none⟩ (.int .i64 ji216)).heap[gb449]? = some (.cells #[.bool x450000_5, .bool x450001_5, .bool false, .int .i64 t450, .int .i64 t451, .int .i64 t452, .int .i64 t453, .int .i64 ji216, .int .i64 t456, .int .i64 a2, .int .i64 a3] 75 (0, 0))) := ⟨by (with_reducible repeat (first | refine blk_drewN ?_ _ | refine blk_drew ?_ | refine blk_alloc ?_ _)); refine blk_put (cs := #[.bool x450000_5, .bool x450001_5, .bool false, .int .i64 t450, .int .i64 t451, .int .i64 t452, .int .i64 t453, .int .i64 0, .int .i64 t456, .int .i64 a2, .int .i64 a3]) ?_ 7 _ rfl; (with_reducible repeat (first | refine blk_drewN ?_ _ | refine blk_drew ?_ | refine blk_alloc ?_ _)); exact BK449.out⟩
        have n4_ : Aside0 (((w235.drewN nd).setCell ⟨gb449, 7, none⟩ (.int .i64 ji216)).heap[gb455]? = some (.cells #[.int .i64 t450, .int .i64 t451, .int .i64 t452, .int .i64 t453] 23 (0, 0))) := ⟨by (with_reducible repeat (first | refine blk_drewN ?_ _ | refine blk_drew ?_ | refine blk_alloc ?_ _)); refine blk_far ?_ NB455_449.out _; (with_reducible repeat (first | refine blk_drewN ?_ _ | refine blk_drew ?_ | refine blk_alloc ?_ _)); exact BK455.out⟩
        have n5_ : Aside0 (Below w.heap.size w ((w235.drewN nd).setCell ⟨gb449, 7, none⟩ (.int .i64 ji216))) := ⟨by repeat (first | (with_reducible first | exact HB.out | apply below_alloc | apply pw_below_drewN | apply below_drew1 | refine below_set ?_ GE446.out | refine below_set ?_ GE447.out | refine below_set ?_ GE448.out | refine below_set ?_ GE449.out | refine below_set ?_ GE455.out) | exact HB.out)⟩
        (try clear BK446)
        (try clear BK447)
        (try clear BK448)
        (try clear BK449)
        (try clear BK455)
        (try clear HB)
        generalize ((w235.drewN nd).setCell ⟨gb449, 7, none⟩ (.int .i64 ji216)) = w237 at n0_ n1_ n2_ n3_ n4_ n5_ ⊢
        have BK446 := n0_
        have BK447 := n1_
        have BK448 := n2_
        have BK449 := n3_
        have BK455 := n4_
        have HB := n5_
        clear n0_ n1_ n2_ n3_ n4_ n5_
        (try (rw [drewN_self w237]; generalize hq_ : World.drewN w237 _ = w237; have n0_ : Aside0 (w237.heap[gb446]? = some (.cells #[.int .i64 a0_0, .int .i64 a0_1] 33 (0, 0))) := ⟨by rw [← hq_]; exact (by (with_reducible repeat (first | refine blk_drewN ?_ _ | refine blk_drew ?_ | refine blk_alloc ?_ _)); exact BK446.out)⟩; have n1_ : Aside0 (w237.heap[gb447]? = some (.cells #[.int .i64 a1_0, .int .i64 a1_1] 33 (0, 0))) := ⟨by rw [← hq_]; exact (by (with_reducible repeat (first | refine blk_drewN ?_ _ | refine blk_drew ?_ | refine blk_alloc ?_ _)); exact BK447.out)⟩; have n2_ : Aside0 (w237.heap[gb448]? = some (.cells #[.bool x449000_5, .bool x449001_5, .bool x449002_5, .int .i64 x449003_5, .int .i64 x449004_5, .int .i64 x449005_5, .int .i64 x449006_5, .int .i64 x449007_5, .int .i64 x449008_5, .int .i64 x449009_5, .int .i64 x449010_5] 75 (0, 0))) := ⟨by rw [← hq_]; exact (by (with_reducible repeat (first | refine blk_drewN ?_ _ | refine blk_drew ?_ | refine blk_alloc ?_ _)); exact BK448.out)⟩; have n3_ : Aside0 (w237.heap[gb449]? = some (.cells #[.bool x450000_5, .bool x450001_5, .bool false, .int .i64 t450, .int .i64 t451, .int .i64 t452, .int .i64 t453, .int .i64 ji216, .int .i64 t456, .int .i64 a2, .int .i64 a3] 75 (0, 0))) := ⟨by rw [← hq_]; exact (by (with_reducible repeat (first | refine blk_drewN ?_ _ | refine blk_drew ?_ | refine blk_alloc ?_ _)); exact BK449.out)⟩; have n4_ : Aside0 (w237.heap[gb455]? = some (.cells #[.int .i64 t450, .int .i64 t451, .int .i64 t452, .int .i64 t453] 23 (0, 0))) := ⟨by rw [← hq_]; exact (by (with_reducible repeat (first | refine blk_drewN ?_ _ | refine blk_drew ?_ | refine blk_alloc ?_ _)); exact BK455.out)⟩; have n5_ : Aside0 (Below w.heap.size w w237) := ⟨by rw [← hq_]; exact (by repeat (first | (with_reducible first | exact HB.out | apply below_alloc | apply pw_below_drewN | apply below_drew1 | refine below_set ?_ GE446.out | refine below_set ?_ GE447.out | refine below_set ?_ GE448.out | refine below_set ?_ GE449.out | refine below_set ?_ GE455.out) | exact HB.out))⟩; clear BK446 BK447 BK448 BK449 BK455 HB hq_; have BK446 := n0_; have BK447 := n1_; have BK448 := n2_; have BK449 := n3_; have BK455 := n4_; have HB := n5_; clear n0_ n1_ n2_ n3_ n4_ n5_))
        have n0_ := Aside0.mk (blk_drew BK446.out)
        have n1_ := Aside0.mk (blk_drew BK447.out)
        have n2_ := Aside0.mk (blk_drew BK448.out)
        have n3_ := Aside0.mk (blk_drew BK449.out)
        have n4_ := Aside0.mk (blk_drew BK455.out)
        have n5_ := Aside0.mk (below_drew1 HB.out)
        clear BK446
        clear BK447
        clear BK448
        clear BK449
        clear BK455
        clear HB
        have BK446 := n0_
        have BK447 := n1_
        have BK448 := n2_
        have BK449 := n3_
        have BK455 := n4_
        have HB := n5_
        clear n0_ n1_ n2_ n3_ n4_ n5_
        refine start_ (n := 11) (S := fun w' => w'.cell? ⟨gb449, 0, none⟩ = some (.bool x450000_5) ∧ w'.cell? ⟨gb449, 1, none⟩ = some (.bool x450001_5) ∧ w'.cell? ⟨gb449, 2, none⟩ = some (.bool false) ∧ w'.cell? ⟨gb449, 3, none⟩ = some (.int .i64 t450) ∧ w'.cell? ⟨gb449, 4, none⟩ = some (.int .i64 t451) ∧ w'.cell? ⟨gb449, 5, none⟩ = some (.int .i64 t452) ∧ w'.cell? ⟨gb449, 6, none⟩ = some (.int .i64 t453) ∧ w'.cell? ⟨gb449, 7, none⟩ = some (.int .i64 ji216) ∧ w'.cell? ⟨gb449, 8, none⟩ = some (.int .i64 t456) ∧ w'.cell? ⟨gb449, 9, none⟩ = some (.int .i64 a2) ∧ w'.cell? ⟨gb449, 10, none⟩ = some (.int .i64 a3)) (ds := [10]) #[false, false, false, false, false, false, false, false, false, false, false] (by kernel_rfl) rfl rfl ⟨(blk_cell BK449.out 0).trans rfl, (blk_cell BK449.out 1).trans rfl, (blk_cell BK449.out 2).trans rfl, (blk_cell BK449.out 3).trans rfl, (blk_cell BK449.out 4).trans rfl, (blk_cell BK449.out 5).trans rfl, (blk_cell BK449.out 6).trans rfl, (blk_cell BK449.out 7).trans rfl, (blk_cell BK449.out 8).trans rfl, (blk_cell BK449.out 9).trans rfl, (blk_cell BK449.out 10).trans rfl⟩ (fun hHeld => ?_); refine with_tabW biremeref14_Of.tab17 biremeref14_Of.bits17 (fun HT_ HW_ => ?_)
        generalize w237.drew = w238 at BK446 BK447 BK448 BK449 BK455 HB hHeld ⊢
        refine pure_ (i := 0) (N := some 103) (v := ?_) (a' := ?_) #[true, false, false, false, false, false, false, false, false, false, false] rfl rfl (any_of HT_.out (by kernel_rfl)) (fun _ _ _ h => h) (Or.inl ⟨by rfl, ?_⟩) ?_ ?_
        rotate_left
        ·intro w'
         go_simp
         with_reducible rfl
        rotate_left
        ·simp only [Act.put, List.setIfInBounds_toArray, List.set_cons_zero, List.set_cons_succ, i64_w, i32_w]
         rfl
        refine pure_ (i := 2) (N := some 105) (v := ?_) (a' := ?_) #[true, false, true, false, false, false, false, false, false, false, false] rfl rfl (any_of HT_.out (by kernel_rfl)) (fun _ _ _ h => h) (Or.inl ⟨by rfl, ?_⟩) ?_ ?_
        rotate_left
        ·intro w'
         go_simp
         with_reducible rfl
        rotate_left
        ·simp only [Act.put, List.setIfInBounds_toArray, List.set_cons_zero, List.set_cons_succ, i64_w, i32_w]
         rfl
        refine pure_ (i := 4) (N := some 107) (v := ?_) (a' := ?_) #[true, false, true, false, true, false, false, false, false, false, false] rfl rfl (any_of HT_.out (by kernel_rfl)) (fun _ _ _ h => h) (Or.inl ⟨by rfl, ?_⟩) ?_ ?_
        rotate_left
        ·intro w'
         go_simp
         with_reducible rfl
        rotate_left
        ·simp only [Act.put, List.setIfInBounds_toArray, List.set_cons_zero, List.set_cons_succ, i64_w, i32_w]
         rfl
        refine take_ (i := 1) (N := some 104) (v := ?_) (a' := ?_) #[true, true, true, false, true, false, false, false, false, false, false] rfl rfl (take_ofW HT_.out HW_.out (by kernel_rfl)) (fun _ _ _ h => h) (Or.inl ⟨by rfl, ?_⟩) hHeld ?_ ?_
        rotate_left
        ·rintro w' ⟨s0, s1, s2, s3, s4, s5, s6, s7, s8, s9, s10⟩
         go_simp
         with_reducible rfl
        rotate_left
        ·simp only [Act.put, List.setIfInBounds_toArray, List.set_cons_zero, List.set_cons_succ, i64_w, i32_w]
         rfl
        refine take_ (i := 3) (N := some 106) (v := ?_) (a' := ?_) #[true, true, true, true, true, false, false, false, false, false, false] rfl rfl (take_ofW HT_.out HW_.out (by kernel_rfl)) (fun _ _ _ h => h) (Or.inl ⟨by rfl, ?_⟩) hHeld ?_ ?_
        rotate_left
        ·rintro w' ⟨s0, s1, s2, s3, s4, s5, s6, s7, s8, s9, s10⟩
         go_simp
         with_reducible rfl
        rotate_left
        ·simp only [Act.put, List.setIfInBounds_toArray, List.set_cons_zero, List.set_cons_succ, i64_w, i32_w]
         rfl
        refine take_ (i := 5) (N := some 108) (v := ?_) (a' := ?_) #[true, true, true, true, true, true, false, false, false, false, false] rfl rfl (take_ofW HT_.out HW_.out (by kernel_rfl)) (fun _ _ _ h => h) (Or.inl ⟨by rfl, ?_⟩) hHeld ?_ ?_
        rotate_left
        ·rintro w' ⟨s0, s1, s2, s3, s4, s5, s6, s7, s8, s9, s10⟩
         go_simp
         with_reducible rfl
        rotate_left
        ·simp only [Act.put, List.setIfInBounds_toArray, List.set_cons_zero, List.set_cons_succ, i64_w, i32_w]
         rfl
        refine pure_ (i := 6) (N := some 109) (v := ?_) (a' := ?_) #[true, true, true, true, true, true, true, false, false, false, false] rfl rfl (any_of HT_.out (by kernel_rfl)) (fun _ _ _ h => h) (Or.inl ⟨by rfl, ?_⟩) ?_ ?_
        rotate_left
        ·intro w'
         go_simp
         with_reducible rfl
        rotate_left
        ·simp only [Act.put, List.setIfInBounds_toArray, List.set_cons_zero, List.set_cons_succ, i64_w, i32_w]
         rfl
        refine one_ (i := 7) (N := some 110) #[true, true, true, true, true, true, true, true, false, false, false] rfl rfl (one_of HT_.out (by kernel_rfl)) (by decide) (fun K hK => ?_)
        refine goes_ Try.func44 (by kernel_rfl) rfl #[.int .i64 t452, .int .i64 (wrap64 (-t453))] (by rfl) rfl rfl (by (try simp only [List.map_toArray, List.map_cons, List.map_nil]); first | done | rfl | (simp only [List.length_drop, List.length_take]; rfl)) ?_
        with_reducible refine (biremeref14_down.calls t452 (wrap64 (-t453)) t460 _ A217.out).mono ?_
        rintro e w' ⟨rfl, ⟨nd, rfl⟩⟩
        refine ⟨_, rfl, ?_⟩
        refine hK.out _ _ ⟨(blk_cell BK449.out 0).trans rfl, (blk_cell BK449.out 1).trans rfl, (blk_cell BK449.out 2).trans rfl, (blk_cell BK449.out 3).trans rfl, (blk_cell BK449.out 4).trans rfl, (blk_cell BK449.out 5).trans rfl, (blk_cell BK449.out 6).trans rfl, (blk_cell BK449.out 7).trans rfl, (blk_cell BK449.out 8).trans rfl, (blk_cell BK449.out 9).trans rfl, (blk_cell BK449.out 10).trans rfl⟩ (fun hHeld => ?_)
        clear hK K
        refine norm_ (a' := ?_) ?_ ?_
        rotate_left
        ·show Act.put _ (some 110) _ = _
         simp only [Act.put, List.setIfInBounds_toArray, List.set_cons_zero, List.set_cons_succ, i64_w, i32_w]
         rfl
        refine pure_ (i := 8) (N := some 111) (v := ?_) (a' := ?_) #[true, true, true, true, true, true, true, true, true, false, false] rfl rfl (any_of HT_.out (by kernel_rfl)) (fun _ _ _ h => h) (Or.inl ⟨by rfl, ?_⟩) ?_ ?_
        rotate_left
        ·intro w'
         go_simp
         with_reducible rfl
        rotate_left
        ·simp only [Act.put, List.setIfInBounds_toArray, List.set_cons_zero, List.set_cons_succ, i64_w, i32_w]
         rfl
        refine pure_ (i := 9) (N := some 112) (v := ?_) (a' := ?_) #[true, true, true, true, true, true, true, true, true, true, false] rfl rfl (any_of HT_.out (by kernel_rfl)) (fun _ _ _ h => h) (Or.inl ⟨by rfl, ?_⟩) ?_ ?_
        rotate_left
        ·intro w'
         go_simp
         with_reducible rfl
        rotate_left
        ·simp only [Act.put, List.setIfInBounds_toArray, List.set_cons_zero, List.set_cons_succ, i64_w, i32_w]
         rfl
        refine last_ (i := 10) (N := none) #[true, true, true, true, true, true, true, true, true, true, true] rfl rfl (one_of HT_.out (by kernel_rfl)) (by decide) (fun K hK => ?_)
        have hs239 : w238.cell? ⟨gb449, 8, none⟩ = some (.int .i64 t456) := (blk_cell BK449.out 8).trans rfl
        have hfs239 := blk_frozen BK449.out 8
        have hns239_0 := NB446_449.out
        have hns239_1 := NB447_449.out
        have hns239_2 := NB448_449.out
        have hns239_4 := NB455_449.out
        have hms239_0 := NB449_446.out
        have hms239_1 := NB449_447.out
        have hms239_2 := NB449_448.out
        have hms239_4 := NB449_455.out
        refine skip_ (w1 := ?_) (by rfl) rfl ?_ ?_
        rotate_left
        ·go_simp
         rfl
        refine hK.out _ _ ?_
        clear hK K
        refine done_ (done_of HT_.out (by kernel_rfl)) ?_
        refine Met.intro ?_
        go_step
        go_meet
        case rel => exact ⟨x450000_5, ji216, ji218, HR, ⟨by repeat (with_reducible first | exact BK446.out | refine blk_far ?_ NB446_449.out _ | refine blk_drew ?_ | refine blk_drewN ?_ _)⟩, ⟨by repeat (with_reducible first | exact BK447.out | refine blk_far ?_ NB447_449.out _ | refine blk_drew ?_ | refine blk_drewN ?_ _)⟩, ⟨by repeat (with_reducible first | exact BK448.out | refine blk_far ?_ NB448_449.out _ | refine blk_drew ?_ | refine blk_drewN ?_ _)⟩, ⟨by (with_reducible repeat (first | refine blk_drewN ?_ _ | refine blk_drew ?_ | refine blk_alloc ?_ _)); refine blk_put (cs := #[.bool x450000_5, .bool x450001_5, .bool false, .int .i64 t450, .int .i64 t451, .int .i64 t452, .int .i64 t453, .int .i64 ji216, .int .i64 t456, .int .i64 a2, .int .i64 a3]) ?_ 8 _ rfl; (with_reducible repeat (first | refine blk_drewN ?_ _ | refine blk_drew ?_ | refine blk_alloc ?_ _)); exact BK449.out⟩, ⟨by repeat (with_reducible first | exact BK455.out | refine blk_far ?_ NB455_449.out _ | refine blk_drew ?_ | refine blk_drewN ?_ _)⟩, ⟨by repeat (first | (with_reducible first | exact HB.out | apply below_alloc | apply pw_below_drewN | apply below_drew1 | refine below_set ?_ GE446.out | refine below_set ?_ GE447.out | refine below_set ?_ GE448.out | refine below_set ?_ GE449.out | refine below_set ?_ GE455.out) | exact HB.out)⟩⟩
     case rest =>
      clear BK446 BK447 BK448 BK449 BK455 HB
      obtain ⟨z0, z7, z8, HA, BK446, BK447, BK448, BK449, BK455, HB⟩ := hcut
      have H := HA.out
      clear HA HK
      have hnb77 := NB447_446.out
      have hnc77 := NB446_447.out
      have hnb78 := NB447_448.out
      have hnc78 := NB448_447.out
      have hnb79 := NB447_449.out
      have hnc79 := NB449_447.out
      have hnb80 := NB447_455.out
      have hnc80 := NB455_447.out
      have hcz81_0 : wc.cell? ⟨gb447, 0, none⟩ = some (.int .i64 a1_0) := (blk_cell BK447.out 0).trans rfl
      have hcz81_1 : wc.cell? ⟨gb447, 1, none⟩ = some (.int .i64 a1_1) := (blk_cell BK447.out 1).trans rfl
      have hfz81_0 := blk_frozen BK447.out 0
      have hfz81_1 := blk_frozen BK447.out 1
      have hnb82 := NB449_446.out
      have hnc82 := NB446_449.out
      have hnb83 := NB449_448.out
      have hnc83 := NB448_449.out
      have hnb84 := NB449_455.out
      have hnc84 := NB455_449.out
      have hcz85_0 : wc.cell? ⟨gb449, 0, none⟩ = some (.bool z0) := (blk_cell BK449.out 0).trans rfl
      have hcz85_1 : wc.cell? ⟨gb449, 1, none⟩ = some (.bool x450001_5) := (blk_cell BK449.out 1).trans rfl
      have hcz85_2 : wc.cell? ⟨gb449, 2, none⟩ = some (.bool false) := (blk_cell BK449.out 2).trans rfl
      have hcz85_3 : wc.cell? ⟨gb449, 3, none⟩ = some (.int .i64 t450) := (blk_cell BK449.out 3).trans rfl
      have hcz85_4 : wc.cell? ⟨gb449, 4, none⟩ = some (.int .i64 t451) := (blk_cell BK449.out 4).trans rfl
      have hcz85_5 : wc.cell? ⟨gb449, 5, none⟩ = some (.int .i64 t452) := (blk_cell BK449.out 5).trans rfl
      have hcz85_6 : wc.cell? ⟨gb449, 6, none⟩ = some (.int .i64 t453) := (blk_cell BK449.out 6).trans rfl
      have hcz85_7 : wc.cell? ⟨gb449, 7, none⟩ = some (.int .i64 z7) := (blk_cell BK449.out 7).trans rfl
      have hcz85_8 : wc.cell? ⟨gb449, 8, none⟩ = some (.int .i64 z8) := (blk_cell BK449.out 8).trans rfl
      have hcz85_9 : wc.cell? ⟨gb449, 9, none⟩ = some (.int .i64 a2) := (blk_cell BK449.out 9).trans rfl
      have hcz85_10 : wc.cell? ⟨gb449, 10, none⟩ = some (.int .i64 a3) := (blk_cell BK449.out 10).trans rfl
      have hfz85_0 := blk_frozen BK449.out 0
      have hfz85_1 := blk_frozen BK449.out 1
      have hfz85_2 := blk_frozen BK449.out 2
      have hfz85_3 := blk_frozen BK449.out 3
      have hfz85_4 := blk_frozen BK449.out 4
      have hfz85_5 := blk_frozen BK449.out 5
      have hfz85_6 := blk_frozen BK449.out 6
      have hfz85_7 := blk_frozen BK449.out 7
      have hfz85_8 := blk_frozen BK449.out 8
      have hfz85_9 := blk_frozen BK449.out 9
      have hfz85_10 := blk_frozen BK449.out 10
      have hnb86 := NB448_446.out
      have hnc86 := NB446_448.out
      have hnb87 := NB448_455.out
      have hnc87 := NB455_448.out
      have hcz88_0 : wc.cell? ⟨gb448, 0, none⟩ = some (.bool x449000_5) := (blk_cell BK448.out 0).trans rfl
      have hcz88_1 : wc.cell? ⟨gb448, 1, none⟩ = some (.bool x449001_5) := (blk_cell BK448.out 1).trans rfl
      have hcz88_2 : wc.cell? ⟨gb448, 2, none⟩ = some (.bool x449002_5) := (blk_cell BK448.out 2).trans rfl
      have hcz88_3 : wc.cell? ⟨gb448, 3, none⟩ = some (.int .i64 x449003_5) := (blk_cell BK448.out 3).trans rfl
      have hcz88_4 : wc.cell? ⟨gb448, 4, none⟩ = some (.int .i64 x449004_5) := (blk_cell BK448.out 4).trans rfl
      have hcz88_5 : wc.cell? ⟨gb448, 5, none⟩ = some (.int .i64 x449005_5) := (blk_cell BK448.out 5).trans rfl
      have hcz88_6 : wc.cell? ⟨gb448, 6, none⟩ = some (.int .i64 x449006_5) := (blk_cell BK448.out 6).trans rfl
      have hcz88_7 : wc.cell? ⟨gb448, 7, none⟩ = some (.int .i64 x449007_5) := (blk_cell BK448.out 7).trans rfl
      have hcz88_8 : wc.cell? ⟨gb448, 8, none⟩ = some (.int .i64 x449008_5) := (blk_cell BK448.out 8).trans rfl
      have hcz88_9 : wc.cell? ⟨gb448, 9, none⟩ = some (.int .i64 x449009_5) := (blk_cell BK448.out 9).trans rfl
      have hcz88_10 : wc.cell? ⟨gb448, 10, none⟩ = some (.int .i64 x449010_5) := (blk_cell BK448.out 10).trans rfl
      have hfz88_0 := blk_frozen BK448.out 0
      have hfz88_1 := blk_frozen BK448.out 1
      have hfz88_2 := blk_frozen BK448.out 2
      have hfz88_3 := blk_frozen BK448.out 3
      have hfz88_4 := blk_frozen BK448.out 4
      have hfz88_5 := blk_frozen BK448.out 5
      have hfz88_6 := blk_frozen BK448.out 6
      have hfz88_7 := blk_frozen BK448.out 7
      have hfz88_8 := blk_frozen BK448.out 8
      have hfz88_9 := blk_frozen BK448.out 9
      have hfz88_10 := blk_frozen BK448.out 10
      by_cases c200 : z0 = true
      ·subst c200
       rw [if_pos rfl] at H
       simp only [Option.some.injEq, Prod.mk.injEq] at H
       obtain ⟨rfl, rfl, rfl, rfl, rfl, rfl, rfl, rfl, rfl, rfl, rfl⟩ := H
       try go_wp2
       refine bodyPost_ret (results_cell_row rfl _ _ gb448 75 #[.bool true, .bool x450001_5, .bool false, .int .i64 t450, .int .i64 t451, .int .i64 t452, .int .i64 t453, .int .i64 z7, .int .i64 z8, .int .i64 a2, .int .i64 a3] (0, 0) _ rfl (by (with_reducible repeat (first | refine blk_drewN ?_ _ | refine blk_drew ?_)); refine set_eleven (v0 := .bool x449000_5) (v1 := .bool x449001_5) (v2 := .bool x449002_5) (v3 := .int .i64 x449003_5) (v4 := .int .i64 x449004_5) (v5 := .int .i64 x449005_5) (v6 := .int .i64 x449006_5) (v7 := .int .i64 x449007_5) (v8 := .int .i64 x449008_5) (v9 := .int .i64 x449009_5) (v10 := .int .i64 x449010_5) ?_ _ _ _ _ _ _ _ _ _ _ _; repeat (with_reducible first | exact BK448.out | refine blk_far ?_ NB448_449.out _ | refine blk_drew ?_ | refine blk_drewN ?_ _)) Try.underlying75 rfl (by kernel_rfl)) rfl ?_
       exact ⟨by first | rfl | (simp [errW_none, errW_some] <;> rfl) | (simp [*, errW_none, errW_some] <;> rfl), by repeat (first | (with_reducible first | exact HB.out | apply below_alloc | apply pw_below_drewN | apply below_drew1 | refine below_set ?_ GE446.out | refine below_set ?_ GE447.out | refine below_set ?_ GE448.out | refine below_set ?_ GE449.out | refine below_set ?_ GE455.out) | exact HB.out)⟩
      ·replace c200 := Bool.eq_false_iff.mpr c200
       subst c200
       rw [if_neg (by decide)] at H
       simp only [Option.some.injEq, Prod.mk.injEq] at H
       obtain ⟨rfl, rfl, rfl, rfl, rfl, rfl, rfl, rfl, rfl, rfl, rfl⟩ := H
       try go_wp2
       refine bodyPost_ret (results_cell_row rfl _ _ gb448 75 #[.bool (decide (z7 > z8)), .bool x450001_5, .bool false, .int .i64 t450, .int .i64 t451, .int .i64 t452, .int .i64 t453, .int .i64 z7, .int .i64 z8, .int .i64 a2, .int .i64 a3] (0, 0) _ rfl (by (with_reducible repeat (first | refine blk_drewN ?_ _ | refine blk_drew ?_)); refine set_eleven (v0 := .bool x449000_5) (v1 := .bool x449001_5) (v2 := .bool x449002_5) (v3 := .int .i64 x449003_5) (v4 := .int .i64 x449004_5) (v5 := .int .i64 x449005_5) (v6 := .int .i64 x449006_5) (v7 := .int .i64 x449007_5) (v8 := .int .i64 x449008_5) (v9 := .int .i64 x449009_5) (v10 := .int .i64 x449010_5) ?_ _ _ _ _ _ _ _ _ _ _ _; repeat (with_reducible first | exact BK448.out | refine blk_far ?_ NB448_449.out _ | refine blk_drew ?_ | refine blk_drewN ?_ _)) Try.underlying75 rfl (by kernel_rfl)) rfl ?_
       exact ⟨by first | rfl | (simp [errW_none, errW_some] <;> rfl) | (simp [*, errW_none, errW_some] <;> rfl), by repeat (first | (with_reducible first | exact HB.out | apply below_alloc | apply pw_below_drewN | apply below_drew1 | refine below_set ?_ GE446.out | refine below_set ?_ GE447.out | refine below_set ?_ GE448.out | refine below_set ?_ GE449.out | refine below_set ?_ GE455.out) | exact HB.out)⟩

end Go.Proofs.Ytiedehjmhlgicaa.PAll
