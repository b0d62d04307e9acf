/- The walk of the law AffineTried: a call of it that its plain definition tells to answer true does so, and changes no block that was there before. -/
import Derived.Test.YtiedehjmhlgicaaN6
import Derived.Test.YtiedehjmhlgicaaN7
import Derived.Test.YtiedehjmhlgicaaN10
namespace Go.Proofs.Ytiedehjmhlgicaa.PAll
open Go.RowKit Go.Proofs.YtiedehjmhlgicaaW.PrintWords Go.Proofs.YtiedehjmhlgicaaW.PrintLast Go.Proofs.YtiedehjmhlgicaaW.PrintMore
attribute [local go_sem] max2_int min2_int max_two min_two max_three min_three max_four min_four   -- for this text's walks alone
set_option linter.unusedVariables false
set_option linter.unusedSimpArgs false

/-! ### biremelaw14_AffineTried: function 10 -/
mutual
def biremelaw14_AffineTried.l0 : Nat → Int → Bool → Int → Int → Int → Int → Int → Int → Int → Int → Int → Int → Int → Int → Option (Bool)
  | 0, _, _, _, _, _, _, _, _, _, _, _, _, _, _ => none
  | k + 1, x6, x7, x8, x9, x10, x11, x12, x13, x168000, x168001, x168002, x168003, x168004, x168005 => if x13 < x168004 then (biremelaw14_AffineTried.l1 k x6 x7 x8 x9 x10 x11 x12 x13 0 x168000 x168001 x168002 x168003 x168004 x168005) else ((affine_Meet.f k x168000 x168001 x168002 x168003 x168004 x168005).bind fun bt173 => ((affine_Count.f k x168000 x168001 x168002 x168003 x168004 x168005).bind fun bt177 => ((affine_Ahead.f k x168000 x168001 x168002 x168003 x168004 x6).bind fun bt179 => ((affine_Behind.f k x168000 x168001 x168002 x168003 x168004).bind fun bt182 => (if bt173.2.2.2 = 0 then (if bt177.2 = 0 then (if bt179.2.2 = 0 then (if bt182.2.2 = 0 then (if (bt173.2.2.1 != x7) = true then (some false) else (if bt177.1 = x8 then (if bt173.1 = x11 then (if bt173.2.1 = x12 then (if (bt179.2.1 == (decide (x9 < 100))) = true then (if bt179.2.1 = true then (if bt179.1 = x9 then (if (bt182.2.1 == (decide (x10 > (-100)))) = true then (if bt182.2.1 = true then (if bt182.1 = x10 then ((biremelaw14_alive.f k).bind fun t185 => (some t185)) else (some false)) else ((biremelaw14_alive.f k).bind fun t186 => (some t186))) else (some false)) else (some false)) else (if (bt182.2.1 == (decide (x10 > (-100)))) = true then (if bt182.2.1 = true then (if bt182.1 = x10 then ((biremelaw14_alive.f k).bind fun t187 => (some t187)) else (some false)) else ((biremelaw14_alive.f k).bind fun t188 => (some t188))) else (some false))) else (some false)) else (some false)) else (some false)) else (some false))) else (some false)) else (some false)) else (some false)) else (some false))))))
def biremelaw14_AffineTried.l1 : Nat → Int → Bool → Int → Int → Int → Int → Int → Int → Int → Int → Int → Int → Int → Int → Int → Option (Bool)
  | 0, _, _, _, _, _, _, _, _, _, _, _, _, _, _, _ => none
  | k + 1, x6, x7, x8, x9, x10, x11, x12, x13, x14, x168000, x168001, x168002, x168003, x168004, x168005 => if x14 < x168005 then ((biremelaw14_at.f x168000 x168001 x13).bind fun t169 => ((biremelaw14_at.f x168002 x168003 x14).bind fun t170 => (if t169 = t170 then (if x7 = true then (biremelaw14_AffineTried.l1 k x6 true (wrap64 (x8 + 1)) x9 x10 x11 x12 x13 (wrap64 (x14 + 1)) x168000 x168001 x168002 x168003 x168004 x168005) else (biremelaw14_AffineTried.l1 k x6 true (wrap64 (x8 + 1)) x9 x10 x13 x14 x13 (wrap64 (x14 + 1)) x168000 x168001 x168002 x168003 x168004 x168005)) else (biremelaw14_AffineTried.l1 k x6 x7 x8 x9 x10 x11 x12 x13 (wrap64 (x14 + 1)) x168000 x168001 x168002 x168003 x168004 x168005)))) else (biremelaw14_AffineTried.l2 k x6 x7 x8 x9 x10 x11 x12 x13 0 x168000 x168001 x168002 x168003 x168004 x168005)
def biremelaw14_AffineTried.l2 : Nat → Int → Bool → Int → Int → Int → Int → Int → Int → Int → Int → Int → Int → Int → Int → Int → Option (Bool)
  | 0, _, _, _, _, _, _, _, _, _, _, _, _, _, _, _ => none
  | k + 1, x6, x7, x8, x9, x10, x11, x12, x13, x15, x168000, x168001, x168002, x168003, x168004, x168005 => if x15 < x168004 then ((biremelaw14_at.f x168000 x168001 x13).bind fun t171 => ((biremelaw14_at.f x168002 x168003 x15).bind fun t172 => (if t171 = t172 then (if (wrap64 (x15 - x13)) ≥ x6 then (biremelaw14_AffineTried.l2 k x6 x7 x8 (mn x9 (wrap64 (x15 - x13))) (mx x10 (wrap64 (x15 - x13))) x11 x12 x13 (wrap64 (x15 + 1)) x168000 x168001 x168002 x168003 x168004 x168005) else (biremelaw14_AffineTried.l2 k x6 x7 x8 x9 (mx x10 (wrap64 (x15 - x13))) x11 x12 x13 (wrap64 (x15 + 1)) x168000 x168001 x168002 x168003 x168004 x168005)) else (biremelaw14_AffineTried.l2 k x6 x7 x8 x9 x10 x11 x12 x13 (wrap64 (x15 + 1)) x168000 x168001 x168002 x168003 x168004 x168005)))) else (biremelaw14_AffineTried.l0 k x6 x7 x8 x9 x10 x11 x12 (wrap64 (x13 + 1)) x168000 x168001 x168002 x168003 x168004 x168005)
end
def biremelaw14_AffineTried.f (k : Nat) (a0_0 : Int) (a0_1 : Int) (a0_2 : Int) (a0_3 : Int) (a0_4 : Int) (a0_5 : Int) (a1 : Int) : Option (Bool) := (biremelaw14_few.f a0_0 a0_1 a0_2 a0_3 a0_4 a0_5).bind fun bt161 => ((biremelaw14_mod.f a1 90).bind fun t168 => (biremelaw14_AffineTried.l0 k (wrap64 (t168 - 45)) false 0 100 (-100) 0 0 0 bt161.1 bt161.2.1 bt161.2.2.1 bt161.2.2.2.1 bt161.2.2.2.2.1 bt161.2.2.2.2.2))
def biremelaw14_AffineTried.T12 : Bool × List (List Nat × List Nat) := (true, [([], []), ([0], [0]), ([], []), ([1, 2], [1, 2]), ([], []), ([4], [4]), ([], []), ([5, 6, 3], [5, 6]), ([3, 7], [3, 7])])
def biremelaw14_AffineTried.B12 : List Nat := [0, 1, 0, 7, 0, 16, 0, 127, 255]
theorem biremelaw14_AffineTried.tab12 : rtab .any (opsOf Try.f10 12) = biremelaw14_AffineTried.T12 := by kernel_rfl
theorem biremelaw14_AffineTried.bits12 : waitsOk biremelaw14_AffineTried.T12.2 biremelaw14_AffineTried.B12 = true := by kernel_rfl
def biremelaw14_AffineTried.T21 : Bool × List (List Nat × List Nat) := (true, [([], []), ([0], [0]), ([], []), ([1, 2], [1, 2]), ([], []), ([4], [4]), ([], []), ([5, 6, 3], [5, 6]), ([3, 7], [3, 7])])
def biremelaw14_AffineTried.B21 : List Nat := [0, 1, 0, 7, 0, 16, 0, 127, 255]
theorem biremelaw14_AffineTried.tab21 : rtab .any (opsOf Try.f10 21) = biremelaw14_AffineTried.T21 := by kernel_rfl
theorem biremelaw14_AffineTried.bits21 : waitsOk biremelaw14_AffineTried.T21.2 biremelaw14_AffineTried.B21 = true := by kernel_rfl
set_option maxHeartbeats 8000000 in
set_option maxRecDepth 100000 in
theorem biremelaw14_AffineTried.calls (k : Nat) (a0_0 : Int) (a0_1 : Int) (a0_2 : Int) (a0_3 : Int) (a0_4 : Int) (a0_5 : Int) (a1 : Int) (r : Bool) (hr : r = true) (w : World) (h : biremelaw14_AffineTried.f k a0_0 a0_1 a0_2 a0_3 a0_4 a0_5 a1 = some r) :
    Calls Try.prog 10 #[.agg #[.int .i64 a0_0, .int .i64 a0_1, .int .i64 a0_2, .int .i64 a0_3, .int .i64 a0_4, .int .i64 a0_5], .int .i64 a1] w fun e w' => e = .returned (.bool r) ∧ Below w.heap.size w w' := by
  have hu35 := Try.underlying35
  have hu33 := Try.underlying33
  have HB := Aside0.mk (Below.refl w.heap.size w)
  have H : ((biremelaw14_few.f a0_0 a0_1 a0_2 a0_3 a0_4 a0_5).bind fun bt161 => ((biremelaw14_mod.f a1 90).bind fun t168 => (biremelaw14_AffineTried.l0 k (wrap64 (t168 - 45)) false 0 100 (-100) 0 0 0 bt161.1 bt161.2.1 bt161.2.2.1 bt161.2.2.2.1 bt161.2.2.2.2.1 bt161.2.2.2.2.2))) = some r := h
  clear h
  replace H := Option.bind_eq_some_iff.mp H
  obtain ⟨⟨t161, t162, t163, t164, t165, t166⟩, A30, H⟩ := H
  replace H : ((biremelaw14_mod.f a1 90).bind fun t168 => (biremelaw14_AffineTried.l0 k (wrap64 (t168 - 45)) false 0 100 (-100) 0 0 0 t161 t162 t163 t164 t165 t166)) = some r := H
  have A3 := Aside0.mk A30
  clear A30
  replace H := Option.bind_eq_some_iff.mp H
  obtain ⟨t168, A40, H⟩ := H
  replace H : (biremelaw14_AffineTried.l0 k (wrap64 (t168 - 45)) false 0 100 (-100) 0 0 0 t161 t162 t163 t164 t165 t166) = some r := H
  have A4 := Aside0.mk A40
  clear A40
  have H' := Aside0.mk H
  clear H
  go_enter Try.func10, Try.ntmps10
  go_wp2_with (first | ((with_reducible refine gate_dst (N := 2) rfl ?_); refine box_event ?hg (N := 2) ?hd (cs := #[.int .i64 a0_0, .int .i64 a0_1, .int .i64 a0_2, .int .i64 a0_3, .int .i64 a0_4, .int .i64 a0_5]) (t := 35) ?hr ?_; (case hd => rfl); (case hg => rfl); (case hr => first | (go_simp; done) | (go_simp; rfl)); intro gb160 hg w5 hbox hb; have n0_ := Aside0.mk (below_step (by repeat (first | (with_reducible first | exact HB.out | apply below_alloc | apply pw_below_drewN | apply below_drew1) | exact HB.out)) hb); have n1_ := Aside0.mk (hbox); have n2_ := Aside0.mk ((by rw [hg]; exact (below_size (by repeat (first | (with_reducible first | exact HB.out | apply below_alloc | apply pw_below_drewN | apply below_drew1) | exact HB.out))) : w.heap.size ≤ gb160)); have n3_ := Aside0.mk ((by rw [hg]; exact (below_size (by repeat (first | (with_reducible first | exact HB.out | apply below_alloc | apply pw_below_drewN | apply below_drew1) | exact HB.out))) : w.heap.size ≤ gb160)); clear HB; have HB := n0_; have BK160 := n1_; have GW160 := n2_; have GE160 := n3_; clear n0_ n1_ n2_ n3_; clear hb hbox hg; have hcz6_0 : w5.cell? ⟨gb160, 0, none⟩ = some (.int .i64 a0_0) := (blk_cell BK160.out 0).trans rfl; have hcz6_1 : w5.cell? ⟨gb160, 1, none⟩ = some (.int .i64 a0_1) := (blk_cell BK160.out 1).trans rfl; have hcz6_2 : w5.cell? ⟨gb160, 2, none⟩ = some (.int .i64 a0_2) := (blk_cell BK160.out 2).trans rfl; have hcz6_3 : w5.cell? ⟨gb160, 3, none⟩ = some (.int .i64 a0_3) := (blk_cell BK160.out 3).trans rfl; have hcz6_4 : w5.cell? ⟨gb160, 4, none⟩ = some (.int .i64 a0_4) := (blk_cell BK160.out 4).trans rfl; have hcz6_5 : w5.cell? ⟨gb160, 5, none⟩ = some (.int .i64 a0_5) := (blk_cell BK160.out 5).trans rfl; have hfz6_0 := blk_frozen BK160.out 0; have hfz6_1 := blk_frozen BK160.out 1; have hfz6_2 := blk_frozen BK160.out 2; have hfz6_3 := blk_frozen BK160.out 3; have hfz6_4 := blk_frozen BK160.out 4; have hfz6_5 := blk_frozen BK160.out 5) | ((with_reducible refine gate_callee (f := 31) rfl ?_); refine goesL_ (some 30) rfl rfl Try.func31 (by kernel_rfl) rfl #[.agg #[.int .i64 a0_0, .int .i64 a0_1, .int .i64 a0_2, .int .i64 a0_3, .int .i64 a0_4, .int .i64 a0_5]] rfl (by (try simp only [List.map_toArray, List.map_cons, List.map_nil]); first | done | rfl | (simp only [List.length_drop, List.length_take]; rfl)) ?_; (with_reducible refine (biremelaw14_few.calls a0_0 a0_1 a0_2 a0_3 a0_4 a0_5 t161 t162 t163 t164 t165 t166 _ A3.out).mono ?_); rintro e w7 ⟨rfl, hb⟩; refine ⟨_, rfl, ?_⟩; have n0_ := Aside0.mk (blk_below (g := gb160) (o := .cells #[.int .i64 a0_0, .int .i64 a0_1, .int .i64 a0_2, .int .i64 a0_3, .int .i64 a0_4, .int .i64 a0_5] 35 (0, 0)) (by (with_reducible repeat (first | refine blk_drewN ?_ _ | refine blk_drew ?_ | refine blk_alloc ?_ _)); exact BK160.out) hb); have n1_ := Aside0.mk (below_step (by repeat (first | (with_reducible first | exact HB.out | apply below_alloc | apply pw_below_drewN | apply below_drew1 | refine below_set ?_ GE160.out) | exact HB.out)) hb); clear BK160; clear HB; have BK160 := n0_; have HB := n1_; clear n0_ n1_; (try clear hb); (try clear hb2); (try clear hk); (try clear hi)) | ((with_reducible refine gate_dst (N := 5) rfl ?_); refine box_event ?hg (N := 5) ?hd (cs := #[.int .i64 0, .int .i64 0, .int .i64 0, .int .i64 0, .int .i64 0, .int .i64 0]) (t := 35) ?hr ?_; (case hd => rfl); (case hg => rfl); (case hr => first | (go_simp; done) | (go_simp; rfl)); intro gb167 hg w8 hbox hb; have n0_ := Aside0.mk (blk_below (g := gb160) (o := .cells #[.int .i64 a0_0, .int .i64 a0_1, .int .i64 a0_2, .int .i64 a0_3, .int .i64 a0_4, .int .i64 a0_5] 35 (0, 0)) (by (with_reducible repeat (first | refine blk_drewN ?_ _ | refine blk_drew ?_ | refine blk_alloc ?_ _)); exact BK160.out) hb); have n1_ := Aside0.mk (below_step (by repeat (first | (with_reducible first | exact HB.out | apply below_alloc | apply pw_below_drewN | apply below_drew1 | refine below_set ?_ GE160.out) | exact HB.out)) hb); have n2_ := Aside0.mk (hbox); have n3_ := Aside0.mk ((by rw [hg]; exact (below_size (by repeat (first | (with_reducible first | exact HB.out | apply below_alloc | apply pw_below_drewN | apply below_drew1 | refine below_set ?_ GE160.out) | exact HB.out))) : w.heap.size ≤ gb167)); have n4_ := Aside0.mk ((by rw [hg]; exact (below_size (by repeat (first | (with_reducible first | exact HB.out | apply below_alloc | apply pw_below_drewN | apply below_drew1 | refine below_set ?_ GE160.out) | exact HB.out))) : w.heap.size ≤ gb167)); have n5_ := Aside0.mk ((by rw [hg]; exact Nat.ne_of_lt (blk_lt (g := gb160) (o := .cells #[.int .i64 a0_0, .int .i64 a0_1, .int .i64 a0_2, .int .i64 a0_3, .int .i64 a0_4, .int .i64 a0_5] 35 (0, 0)) (by (with_reducible repeat (first | refine blk_drewN ?_ _ | refine blk_drew ?_ | refine blk_alloc ?_ _)); exact BK160.out)) : gb160 ≠ gb167)); have n6_ := Aside0.mk ((by rw [hg]; exact Nat.ne_of_gt (blk_lt (g := gb160) (o := .cells #[.int .i64 a0_0, .int .i64 a0_1, .int .i64 a0_2, .int .i64 a0_3, .int .i64 a0_4, .int .i64 a0_5] 35 (0, 0)) (by (with_reducible repeat (first | refine blk_drewN ?_ _ | refine blk_drew ?_ | refine blk_alloc ?_ _)); exact BK160.out)) : gb167 ≠ gb160)); clear BK160; clear HB; have BK160 := n0_; have HB := n1_; have BK167 := n2_; have GW167 := n3_; have GE167 := n4_; have NB160_167 := n5_; have NB167_160 := n6_; clear n0_ n1_ n2_ n3_ n4_ n5_ n6_; clear hb hbox hg; have hnb9 := NB167_160.out; have hnc9 := NB160_167.out; have hcz10_0 : w8.cell? ⟨gb167, 0, none⟩ = some (.int .i64 0) := (blk_cell BK167.out 0).trans rfl; have hcz10_1 : w8.cell? ⟨gb167, 1, none⟩ = some (.int .i64 0) := (blk_cell BK167.out 1).trans rfl; have hcz10_2 : w8.cell? ⟨gb167, 2, none⟩ = some (.int .i64 0) := (blk_cell BK167.out 2).trans rfl; have hcz10_3 : w8.cell? ⟨gb167, 3, none⟩ = some (.int .i64 0) := (blk_cell BK167.out 3).trans rfl; have hcz10_4 : w8.cell? ⟨gb167, 4, none⟩ = some (.int .i64 0) := (blk_cell BK167.out 4).trans rfl; have hcz10_5 : w8.cell? ⟨gb167, 5, none⟩ = some (.int .i64 0) := (blk_cell BK167.out 5).trans rfl; have hfz10_0 := blk_frozen BK167.out 0; have hfz10_1 := blk_frozen BK167.out 1; have hfz10_2 := blk_frozen BK167.out 2; have hfz10_3 := blk_frozen BK167.out 3; have hfz10_4 := blk_frozen BK167.out 4; have hfz10_5 := blk_frozen BK167.out 5) | ((with_reducible refine gate_callee (f := 24) rfl ?_); refine goesL_ (some 32) rfl rfl Try.func24 (by kernel_rfl) rfl #[.int .i64 a1, .int .u64 90] rfl (by (try simp only [List.map_toArray, List.map_cons, List.map_nil]); first | done | rfl | (simp only [List.length_drop, List.length_take]; rfl)) ?_; (with_reducible refine (biremelaw14_mod.calls a1 90 t168 _ A4.out).mono ?_); rintro e w' ⟨rfl, ⟨nd, rfl⟩⟩; refine ⟨_, rfl, ?_⟩))
  go_loopg [7, 8, 9, 10, 11, 12, 13] k (fun kq v7 v8 v9 v10 v11 v12 v13 w' => ∃ (x7_1 : Bool) (x8_1 : Int) (x9_1 : Int) (x10_1 : Int) (x11_1 : Int) (x12_1 : Int) (x13_1 : Int), v7 = .bool x7_1 ∧ v8 = .int .i64 x8_1 ∧ v9 = .int .i64 x9_1 ∧ v10 = .int .i64 x10_1 ∧ v11 = .int .i64 x11_1 ∧ v12 = .int .i64 x12_1 ∧ v13 = .int .i64 x13_1 ∧ Aside0 (biremelaw14_AffineTried.l0 kq (wrap64 (t168 - 45)) x7_1 x8_1 x9_1 x10_1 x11_1 x12_1 x13_1 t161 t162 t163 t164 t165 t166 = some r) ∧ Aside0 (kq ≤ k) ∧ Aside0 (w'.heap[gb160]? = some (.cells #[.int .i64 a0_0, .int .i64 a0_1, .int .i64 a0_2, .int .i64 a0_3, .int .i64 a0_4, .int .i64 a0_5] 35 (0, 0))) ∧ Aside0 (w'.heap[gb167]? = some (.cells #[.int .i64 t161, .int .i64 t162, .int .i64 t163, .int .i64 t164, .int .i64 t165, .int .i64 t166] 35 (0, 0))) ∧ Aside0 (Below w.heap.size w w'))
  case atStart => exact ⟨(false), (0), (100), ((-100)), (0), (0), (0), (by first | rfl | (simp; done) | (simp [*]; done)), (by first | rfl | (simp; done) | (simp [*]; done)), (by first | rfl | (simp; done) | (simp [*]; done)), (by first | rfl | (simp; done) | (simp [*]; done)), (by first | rfl | (simp; done) | (simp [*]; done)), (by first | rfl | (simp; done) | (simp [*]; done)), (by first | rfl | (simp; done) | (simp [*]; done)), H', ⟨Nat.le_refl _⟩, ⟨by (with_reducible repeat (first | refine blk_drewN ?_ _ | refine blk_drew ?_ | refine blk_alloc ?_ _)); refine blk_far ?_ NB160_167.out _; (with_reducible repeat (first | refine blk_drewN ?_ _ | refine blk_drew ?_ | refine blk_alloc ?_ _)); refine blk_far ?_ NB160_167.out _; (with_reducible repeat (first | refine blk_drewN ?_ _ | refine blk_drew ?_ | refine blk_alloc ?_ _)); refine blk_far ?_ NB160_167.out _; (with_reducible repeat (first | refine blk_drewN ?_ _ | refine blk_drew ?_ | refine blk_alloc ?_ _)); refine blk_far ?_ NB160_167.out _; (with_reducible repeat (first | refine blk_drewN ?_ _ | refine blk_drew ?_ | refine blk_alloc ?_ _)); refine blk_far ?_ NB160_167.out _; (with_reducible repeat (first | refine blk_drewN ?_ _ | refine blk_drew ?_ | refine blk_alloc ?_ _)); refine blk_far ?_ NB160_167.out _; (with_reducible repeat (first | refine blk_drewN ?_ _ | refine blk_drew ?_ | refine blk_alloc ?_ _)); exact BK160.out⟩, ⟨by (with_reducible repeat (first | refine blk_drewN ?_ _ | refine blk_drew ?_ | refine blk_alloc ?_ _)); refine blk_put (cs := #[.int .i64 t161, .int .i64 t162, .int .i64 t163, .int .i64 t164, .int .i64 t165, .int .i64 0]) ?_ 5 _ rfl; (with_reducible repeat (first | refine blk_drewN ?_ _ | refine blk_drew ?_ | refine blk_alloc ?_ _)); refine blk_put (cs := #[.int .i64 t161, .int .i64 t162, .int .i64 t163, .int .i64 t164, .int .i64 0, .int .i64 0]) ?_ 4 _ rfl; (with_reducible repeat (first | refine blk_drewN ?_ _ | refine blk_drew ?_ | refine blk_alloc ?_ _)); refine blk_put (cs := #[.int .i64 t161, .int .i64 t162, .int .i64 t163, .int .i64 0, .int .i64 0, .int .i64 0]) ?_ 3 _ rfl; (with_reducible repeat (first | refine blk_drewN ?_ _ | refine blk_drew ?_ | refine blk_alloc ?_ _)); refine blk_put (cs := #[.int .i64 t161, .int .i64 t162, .int .i64 0, .int .i64 0, .int .i64 0, .int .i64 0]) ?_ 2 _ rfl; (with_reducible repeat (first | refine blk_drewN ?_ _ | refine blk_drew ?_ | refine blk_alloc ?_ _)); refine blk_put (cs := #[.int .i64 t161, .int .i64 0, .int .i64 0, .int .i64 0, .int .i64 0, .int .i64 0]) ?_ 1 _ rfl; (with_reducible repeat (first | refine blk_drewN ?_ _ | refine blk_drew ?_ | refine blk_alloc ?_ _)); refine blk_put (cs := #[.int .i64 0, .int .i64 0, .int .i64 0, .int .i64 0, .int .i64 0, .int .i64 0]) ?_ 0 _ rfl; (with_reducible repeat (first | refine blk_drewN ?_ _ | refine blk_drew ?_ | refine blk_alloc ?_ _)); exact BK167.out⟩, ⟨by repeat (first | (with_reducible first | exact HB.out | apply below_alloc | apply pw_below_drewN | apply below_drew1 | refine below_set ?_ GE160.out | refine below_set ?_ GE167.out) | exact HB.out)⟩⟩
  case round =>
    clear H'
    try clear c1
    try clear c2
    try clear p2
    try clear c3
    try clear p6
    try clear c9
    try clear c10
    try clear hcz10_0
    try clear hcz10_1
    try clear hcz10_2
    try clear hcz10_3
    try clear hcz10_4
    try clear hcz10_5
    try clear hcz6_0
    try clear hcz6_1
    try clear hcz6_2
    try clear hcz6_3
    try clear hcz6_4
    try clear hcz6_5
    try clear hfz10_0
    try clear hfz10_1
    try clear hfz10_2
    try clear hfz10_3
    try clear hfz10_4
    try clear hfz10_5
    try clear hfz6_0
    try clear hfz6_1
    try clear hfz6_2
    try clear hfz6_3
    try clear hfz6_4
    try clear hfz6_5
    obtain ⟨x7_1, x8_1, x9_1, x10_1, x11_1, x12_1, x13_1, rfl, rfl, rfl, rfl, rfl, rfl, rfl, HA, HK1, BK160, BK167, HB⟩ := hrel
    cases gk with
    | zero => exact absurd HA.out (by simp [biremelaw14_AffineTried.l0])
    | succ k1 =>
      have H := HA.out
      clear HA
      simp only [biremelaw14_AffineTried.l0] at H
      by_cases c11 : x13_1 < t165
      · rw [if_pos c11] at H
        have c11b0 : decide (x13_1 < t165) = true := decide_eq_true c11
        clear c11
        have H' := Aside0.mk H
        clear H
        have hnb12 := NB167_160.out
        have hnc12 := NB160_167.out
        have hcz13_0 : wr.cell? ⟨gb167, 0, none⟩ = some (.int .i64 t161) := (blk_cell BK167.out 0).trans rfl
        have hcz13_1 : wr.cell? ⟨gb167, 1, none⟩ = some (.int .i64 t162) := (blk_cell BK167.out 1).trans rfl
        have hcz13_2 : wr.cell? ⟨gb167, 2, none⟩ = some (.int .i64 t163) := (blk_cell BK167.out 2).trans rfl
        have hcz13_3 : wr.cell? ⟨gb167, 3, none⟩ = some (.int .i64 t164) := (blk_cell BK167.out 3).trans rfl
        have hcz13_4 : wr.cell? ⟨gb167, 4, none⟩ = some (.int .i64 t165) := (blk_cell BK167.out 4).trans rfl
        have hcz13_5 : wr.cell? ⟨gb167, 5, none⟩ = some (.int .i64 t166) := (blk_cell BK167.out 5).trans rfl
        have hfz13_0 := blk_frozen BK167.out 0
        have hfz13_1 := blk_frozen BK167.out 1
        have hfz13_2 := blk_frozen BK167.out 2
        have hfz13_3 := blk_frozen BK167.out 3
        have hfz13_4 := blk_frozen BK167.out 4
        have hfz13_5 := blk_frozen BK167.out 5
        go_wp2
        go_loopg [7, 8, 11, 12, 14] k1 (fun kq v7 v8 v11 v12 v14 w' => ∃ (x7_2 : Bool) (x8_2 : Int) (x11_2 : Int) (x12_2 : Int) (x14_2 : Int), v7 = .bool x7_2 ∧ v8 = .int .i64 x8_2 ∧ v11 = .int .i64 x11_2 ∧ v12 = .int .i64 x12_2 ∧ v14 = .int .i64 x14_2 ∧ Aside0 (biremelaw14_AffineTried.l1 kq (wrap64 (t168 - 45)) x7_2 x8_2 x9_1 x10_1 x11_2 x12_2 x13_1 x14_2 t161 t162 t163 t164 t165 t166 = some r) ∧ Aside0 (kq ≤ k1) ∧ Aside0 (w'.heap[gb160]? = some (.cells #[.int .i64 a0_0, .int .i64 a0_1, .int .i64 a0_2, .int .i64 a0_3, .int .i64 a0_4, .int .i64 a0_5] 35 (0, 0))) ∧ Aside0 (w'.heap[gb167]? = some (.cells #[.int .i64 t161, .int .i64 t162, .int .i64 t163, .int .i64 t164, .int .i64 t165, .int .i64 t166] 35 (0, 0))) ∧ Aside0 (Below w.heap.size w w'))
        case atStart => exact ⟨(x7_1), (x8_1), (x11_1), (x12_1), (0), (by first | rfl | (simp; done) | (simp [*]; done)), (by first | rfl | (simp; done) | (simp [*]; done)), (by first | rfl | (simp; done) | (simp [*]; done)), (by first | rfl | (simp; done) | (simp [*]; done)), (by first | rfl | (simp; done) | (simp [*]; done)), H', ⟨Nat.le_refl _⟩, ⟨by (with_reducible repeat (first | refine blk_drewN ?_ _ | refine blk_drew ?_ | refine blk_alloc ?_ _)); exact BK160.out⟩, ⟨by (with_reducible repeat (first | refine blk_drewN ?_ _ | refine blk_drew ?_ | refine blk_alloc ?_ _)); exact BK167.out⟩, ⟨by repeat (first | (with_reducible first | exact HB.out | apply below_alloc | apply pw_below_drewN | apply below_drew1 | refine below_set ?_ GE160.out | refine below_set ?_ GE167.out) | exact HB.out)⟩⟩
        case round =>
          clear H'
          try clear c1
          try clear c2
          try clear p2
          try clear c3
          try clear p6
          try clear c9
          try clear c10
          try clear c11
          try clear c11b0
          try clear c12
          try clear hcz10_0
          try clear hcz10_1
          try clear hcz10_2
          try clear hcz10_3
          try clear hcz10_4
          try clear hcz10_5
          try clear hcz13_0
          try clear hcz13_1
          try clear hcz13_2
          try clear hcz13_3
          try clear hcz13_4
          try clear hcz13_5
          try clear hcz6_0
          try clear hcz6_1
          try clear hcz6_2
          try clear hcz6_3
          try clear hcz6_4
          try clear hcz6_5
          try clear hfz10_0
          try clear hfz10_1
          try clear hfz10_2
          try clear hfz10_3
          try clear hfz10_4
          try clear hfz10_5
          try clear hfz13_0
          try clear hfz13_1
          try clear hfz13_2
          try clear hfz13_3
          try clear hfz13_4
          try clear hfz13_5
          try clear hfz6_0
          try clear hfz6_1
          try clear hfz6_2
          try clear hfz6_3
          try clear hfz6_4
          try clear hfz6_5
          try clear p2
          try clear p6
          obtain ⟨x7_2, x8_2, x11_2, x12_2, x14_2, rfl, rfl, rfl, rfl, rfl, HA, HK2, BK160, BK167, HB⟩ := hrel
          cases gk with
          | zero => exact absurd HA.out (by simp [biremelaw14_AffineTried.l1])
          | succ k2 =>
            have H := HA.out
            clear HA
            simp only [biremelaw14_AffineTried.l1] at H
            by_cases c14 : x14_2 < t166
            · rw [if_pos c14] at H
              have c14b0 : decide (x14_2 < t166) = true := decide_eq_true c14
              clear c14
              replace H := Option.bind_eq_some_iff.mp H
              obtain ⟨t169, A150, H⟩ := H
              replace H : ((biremelaw14_at.f t163 t164 x14_2).bind fun t170 => (if t169 = t170 then (if x7_2 = true then (biremelaw14_AffineTried.l1 k2 (wrap64 (t168 - 45)) true (wrap64 (x8_2 + 1)) x9_1 x10_1 x11_2 x12_2 x13_1 (wrap64 (x14_2 + 1)) t161 t162 t163 t164 t165 t166) else (biremelaw14_AffineTried.l1 k2 (wrap64 (t168 - 45)) true (wrap64 (x8_2 + 1)) x9_1 x10_1 x13_1 x14_2 x13_1 (wrap64 (x14_2 + 1)) t161 t162 t163 t164 t165 t166)) else (biremelaw14_AffineTried.l1 k2 (wrap64 (t168 - 45)) x7_2 x8_2 x9_1 x10_1 x11_2 x12_2 x13_1 (wrap64 (x14_2 + 1)) t161 t162 t163 t164 t165 t166))) = some r := H
              have A15 := Aside0.mk A150
              clear A150
              replace H := Option.bind_eq_some_iff.mp H
              obtain ⟨t170, A160, H⟩ := H
              replace H : (if t169 = t170 then (if x7_2 = true then (biremelaw14_AffineTried.l1 k2 (wrap64 (t168 - 45)) true (wrap64 (x8_2 + 1)) x9_1 x10_1 x11_2 x12_2 x13_1 (wrap64 (x14_2 + 1)) t161 t162 t163 t164 t165 t166) else (biremelaw14_AffineTried.l1 k2 (wrap64 (t168 - 45)) true (wrap64 (x8_2 + 1)) x9_1 x10_1 x13_1 x14_2 x13_1 (wrap64 (x14_2 + 1)) t161 t162 t163 t164 t165 t166)) else (biremelaw14_AffineTried.l1 k2 (wrap64 (t168 - 45)) x7_2 x8_2 x9_1 x10_1 x11_2 x12_2 x13_1 (wrap64 (x14_2 + 1)) t161 t162 t163 t164 t165 t166)) = some r := H
              have A16 := Aside0.mk A160
              clear A160
              by_cases c17 : t169 = t170
              · rw [if_pos c17] at H
                have c17b0 : (t169 == t170) = true := beq_iff_eq.mpr c17
                have c17b1 : (t169 != t170) = false := bne_eq_false_iff_eq.mpr c17
                clear c17
                by_cases c18 : x7_2 = true
                · subst c18
                  have H1 : (biremelaw14_AffineTried.l1 k2 (wrap64 (t168 - 45)) true (wrap64 (x8_2 + 1)) x9_1 x10_1 x11_2 x12_2 x13_1 (wrap64 (x14_2 + 1)) t161 t162 t163 t164 t165 t166) = some r := by rw [if_pos rfl] at H; exact H
                  clear H
                  have H := H1
                  clear H1
                  have H' := Aside0.mk H
                  clear H
                  have hnb19 := NB167_160.out
                  have hnc19 := NB160_167.out
                  have hcz20_0 : wr.cell? ⟨gb167, 0, none⟩ = some (.int .i64 t161) := (blk_cell BK167.out 0).trans rfl
                  have hcz20_1 : wr.cell? ⟨gb167, 1, none⟩ = some (.int .i64 t162) := (blk_cell BK167.out 1).trans rfl
                  have hcz20_2 : wr.cell? ⟨gb167, 2, none⟩ = some (.int .i64 t163) := (blk_cell BK167.out 2).trans rfl
                  have hcz20_3 : wr.cell? ⟨gb167, 3, none⟩ = some (.int .i64 t164) := (blk_cell BK167.out 3).trans rfl
                  have hcz20_4 : wr.cell? ⟨gb167, 4, none⟩ = some (.int .i64 t165) := (blk_cell BK167.out 4).trans rfl
                  have hcz20_5 : wr.cell? ⟨gb167, 5, none⟩ = some (.int .i64 t166) := (blk_cell BK167.out 5).trans rfl
                  have hfz20_0 := blk_frozen BK167.out 0
                  have hfz20_1 := blk_frozen BK167.out 1
                  have hfz20_2 := blk_frozen BK167.out 2
                  have hfz20_3 := blk_frozen BK167.out 3
                  have hfz20_4 := blk_frozen BK167.out 4
                  have hfz20_5 := blk_frozen BK167.out 5
                  try go_wp2
                  have n0_ := Aside0.mk (blk_drew BK160.out)
                  have n1_ := Aside0.mk (blk_drew BK167.out)
                  have n2_ := Aside0.mk (below_drew1 HB.out)
                  clear BK160
                  clear BK167
                  clear HB
                  have BK160 := n0_
                  have BK167 := n1_
                  have HB := n2_
                  clear n0_ n1_ n2_
                  refine start_ (n := 9) (S := fun w' => w'.cell? ⟨gb167, 0, none⟩ = some (.int .i64 t161) ∧ w'.cell? ⟨gb167, 1, none⟩ = some (.int .i64 t162) ∧ w'.cell? ⟨gb167, 2, none⟩ = some (.int .i64 t163) ∧ w'.cell? ⟨gb167, 3, none⟩ = some (.int .i64 t164) ∧ w'.cell? ⟨gb167, 4, none⟩ = some (.int .i64 t165) ∧ w'.cell? ⟨gb167, 5, none⟩ = some (.int .i64 t166)) (ds := []) #[false, false, false, false, false, false, false, false, false] (by kernel_rfl) rfl rfl ⟨(blk_cell BK167.out 0).trans rfl, (blk_cell BK167.out 1).trans rfl, (blk_cell BK167.out 2).trans rfl, (blk_cell BK167.out 3).trans rfl, (blk_cell BK167.out 4).trans rfl, (blk_cell BK167.out 5).trans rfl⟩ (fun hHeld => ?_); refine with_tabW biremelaw14_AffineTried.tab12 biremelaw14_AffineTried.bits12 (fun HT_ HW_ => ?_)
                  generalize wr.drew = w21 at BK160 BK167 HB hHeld ⊢
                  refine pure_ (i := 0) (N := some 46) (v := ?_) (a' := ?_) #[true, false, false, false, false, false, false, false, false] rfl rfl (any_of HT_.out (by kernel_rfl)) (fun _ _ _ h => h) (Or.inl ⟨by rfl, ?_⟩) ?_ ?_
                  rotate_left
                  · intro w'
                    go_simp
                    with_reducible rfl
                  rotate_left
                  · simp only [Act.put, List.setIfInBounds_toArray, List.set_cons_zero, List.set_cons_succ, i64_w, i32_w]
                    rfl
                  refine pure_ (i := 2) (N := some 48) (v := ?_) (a' := ?_) #[true, false, true, false, false, false, false, false, false] rfl rfl (any_of HT_.out (by kernel_rfl)) (fun _ _ _ h => h) (Or.inl ⟨by rfl, ?_⟩) ?_ ?_
                  rotate_left
                  · intro w'
                    go_simp
                    with_reducible rfl
                  rotate_left
                  · simp only [Act.put, List.setIfInBounds_toArray, List.set_cons_zero, List.set_cons_succ, i64_w, i32_w]
                    rfl
                  refine pure_ (i := 4) (N := some 50) (v := ?_) (a' := ?_) #[true, false, true, false, true, false, false, false, false] rfl rfl (any_of HT_.out (by kernel_rfl)) (fun _ _ _ h => h) (Or.inl ⟨by rfl, ?_⟩) ?_ ?_
                  rotate_left
                  · intro w'
                    go_simp
                    with_reducible rfl
                  rotate_left
                  · simp only [Act.put, List.setIfInBounds_toArray, List.set_cons_zero, List.set_cons_succ, i64_w, i32_w]
                    rfl
                  refine pure_ (i := 6) (N := some 52) (v := ?_) (a' := ?_) #[true, false, true, false, true, false, true, false, false] rfl rfl (any_of HT_.out (by kernel_rfl)) (fun _ _ _ h => h) (Or.inl ⟨by rfl, ?_⟩) ?_ ?_
                  rotate_left
                  · intro w'
                    go_simp
                    with_reducible rfl
                  rotate_left
                  · simp only [Act.put, List.setIfInBounds_toArray, List.set_cons_zero, List.set_cons_succ, i64_w, i32_w]
                    rfl
                  refine take_ (i := 1) (N := some 47) (v := ?_) (a' := ?_) #[true, true, true, false, true, false, true, false, false] rfl rfl (take_ofW HT_.out HW_.out (by kernel_rfl)) (fun _ _ _ h => h) (Or.inl ⟨by rfl, ?_⟩) hHeld ?_ ?_
                  rotate_left
                  · rintro w' ⟨s0, s1, s2, s3, s4, s5⟩
                    go_simp
                    with_reducible rfl
                  rotate_left
                  · simp only [Act.put, List.setIfInBounds_toArray, List.set_cons_zero, List.set_cons_succ, i64_w, i32_w]
                    rfl
                  refine take_ (i := 5) (N := some 51) (v := ?_) (a' := ?_) #[true, true, true, false, true, true, true, false, false] rfl rfl (take_ofW HT_.out HW_.out (by kernel_rfl)) (fun _ _ _ h => h) (Or.inl ⟨by rfl, ?_⟩) hHeld ?_ ?_
                  rotate_left
                  · rintro w' ⟨s0, s1, s2, s3, s4, s5⟩
                    go_simp
                    with_reducible rfl
                  rotate_left
                  · simp only [Act.put, List.setIfInBounds_toArray, List.set_cons_zero, List.set_cons_succ, i64_w, i32_w]
                    rfl
                  refine one_ (i := 3) (N := some 49) #[true, true, true, true, true, true, true, false, false] rfl rfl (one_of HT_.out (by kernel_rfl)) (by decide) (fun K hK => ?_)
                  refine goes_ Try.func32 (by kernel_rfl) rfl #[.agg #[.int .i64 t161, .int .i64 t162], .int .i64 x13_1] (by rfl) rfl rfl (by (try simp only [List.map_toArray, List.map_cons, List.map_nil]); first | done | rfl | (simp only [List.length_drop, List.length_take]; rfl)) ?_
                  with_reducible refine (biremelaw14_at.calls t161 t162 x13_1 t169 _ A15.out).mono ?_
                  rintro e w22 ⟨rfl, hb⟩
                  refine ⟨_, rfl, ?_⟩
                  have n0_ := Aside0.mk (blk_below (g := gb160) (o := .cells #[.int .i64 a0_0, .int .i64 a0_1, .int .i64 a0_2, .int .i64 a0_3, .int .i64 a0_4, .int .i64 a0_5] 35 (0, 0)) (by (with_reducible repeat (first | refine blk_drewN ?_ _ | refine blk_drew ?_ | refine blk_alloc ?_ _)); exact BK160.out) hb)
                  have n1_ := Aside0.mk (blk_below (g := gb167) (o := .cells #[.int .i64 t161, .int .i64 t162, .int .i64 t163, .int .i64 t164, .int .i64 t165, .int .i64 t166] 35 (0, 0)) (by (with_reducible repeat (first | refine blk_drewN ?_ _ | refine blk_drew ?_ | refine blk_alloc ?_ _)); exact BK167.out) hb)
                  have n2_ := Aside0.mk (below_step (by repeat (first | (with_reducible first | exact HB.out | apply below_alloc | apply pw_below_drewN | apply below_drew1 | refine below_set ?_ GE160.out | refine below_set ?_ GE167.out) | exact HB.out)) hb)
                  clear BK160
                  clear BK167
                  clear HB
                  have BK160 := n0_
                  have BK167 := n1_
                  have HB := n2_
                  clear n0_ n1_ n2_
                  (try clear hb)
                  (try clear hb2)
                  (try clear hk)
                  (try clear hi)
                  refine hK.out _ _ ⟨(blk_cell BK167.out 0).trans rfl, (blk_cell BK167.out 1).trans rfl, (blk_cell BK167.out 2).trans rfl, (blk_cell BK167.out 3).trans rfl, (blk_cell BK167.out 4).trans rfl, (blk_cell BK167.out 5).trans rfl⟩ (fun hHeld => ?_)
                  clear hK K
                  refine norm_ (a' := ?_) ?_ ?_
                  rotate_left
                  · show Act.put _ (some 49) _ = _
                    simp only [Act.put, List.setIfInBounds_toArray, List.set_cons_zero, List.set_cons_succ, i64_w, i32_w]
                    rfl
                  refine one_ (i := 7) (N := some 53) #[true, true, true, true, true, true, true, true, false] rfl rfl (one_of HT_.out (by kernel_rfl)) (by decide) (fun K hK => ?_)
                  refine goes_ Try.func32 (by kernel_rfl) rfl #[.agg #[.int .i64 t163, .int .i64 t164], .int .i64 x14_2] (by rfl) rfl rfl (by (try simp only [List.map_toArray, List.map_cons, List.map_nil]); first | done | rfl | (simp only [List.length_drop, List.length_take]; rfl)) ?_
                  with_reducible refine (biremelaw14_at.calls t163 t164 x14_2 t170 _ A16.out).mono ?_
                  rintro e w23 ⟨rfl, hb⟩
                  refine ⟨_, rfl, ?_⟩
                  have n0_ := Aside0.mk (blk_below (g := gb160) (o := .cells #[.int .i64 a0_0, .int .i64 a0_1, .int .i64 a0_2, .int .i64 a0_3, .int .i64 a0_4, .int .i64 a0_5] 35 (0, 0)) (by (with_reducible repeat (first | refine blk_drewN ?_ _ | refine blk_drew ?_ | refine blk_alloc ?_ _)); exact BK160.out) hb)
                  have n1_ := Aside0.mk (blk_below (g := gb167) (o := .cells #[.int .i64 t161, .int .i64 t162, .int .i64 t163, .int .i64 t164, .int .i64 t165, .int .i64 t166] 35 (0, 0)) (by (with_reducible repeat (first | refine blk_drewN ?_ _ | refine blk_drew ?_ | refine blk_alloc ?_ _)); exact BK167.out) hb)
                  have n2_ := Aside0.mk (below_step (by repeat (first | (with_reducible first | exact HB.out | apply below_alloc | apply pw_below_drewN | apply below_drew1 | refine below_set ?_ GE160.out | refine below_set ?_ GE167.out) | exact HB.out)) hb)
                  clear BK160
                  clear BK167
                  clear HB
                  have BK160 := n0_
                  have BK167 := n1_
                  have HB := n2_
                  clear n0_ n1_ n2_
                  (try clear hb)
                  (try clear hb2)
                  (try clear hk)
                  (try clear hi)
                  refine hK.out _ _ ⟨(blk_cell BK167.out 0).trans rfl, (blk_cell BK167.out 1).trans rfl, (blk_cell BK167.out 2).trans rfl, (blk_cell BK167.out 3).trans rfl, (blk_cell BK167.out 4).trans rfl, (blk_cell BK167.out 5).trans rfl⟩ (fun hHeld => ?_)
                  clear hK K
                  refine norm_ (a' := ?_) ?_ ?_
                  rotate_left
                  · show Act.put _ (some 53) _ = _
                    simp only [Act.put, List.setIfInBounds_toArray, List.set_cons_zero, List.set_cons_succ, i64_w, i32_w]
                    rfl
                  refine pure_ (i := 8) (N := some 54) (v := ?_) (a' := ?_) #[true, true, true, true, true, true, true, true, true] rfl rfl (any_of HT_.out (by kernel_rfl)) (fun _ _ _ h => h) (Or.inl ⟨by rfl, ?_⟩) ?_ ?_
                  rotate_left
                  · intro w'
                    go_simp
                    with_reducible rfl
                  rotate_left
                  · simp only [Act.put, List.setIfInBounds_toArray, List.set_cons_zero, List.set_cons_succ, i64_w, i32_w]
                    rfl
                  refine done_ (done_of HT_.out (by kernel_rfl)) ?_
                  try go_wp2
                  go_roundg k2
                  case measure => have := HK1.out; have := HK2.out; omega
                  case rel => exact ⟨(true), (wrap64 (x8_2 + 1)), (x11_2), (x12_2), (wrap64 (x14_2 + 1)), (by first | rfl | (simp; done) | (simp [*]; done)), (by first | rfl | (simp; done) | (simp [*]; done)), (by first | rfl | (simp; done) | (simp [*]; done)), (by first | rfl | (simp; done) | (simp [*]; done)), (by first | rfl | (simp; done) | (simp [*]; done)), H', ⟨by have := HK1.out; have := HK2.out; omega⟩, ⟨by (with_reducible repeat (first | refine blk_drewN ?_ _ | refine blk_drew ?_ | refine blk_alloc ?_ _)); exact BK160.out⟩, ⟨by (with_reducible repeat (first | refine blk_drewN ?_ _ | refine blk_drew ?_ | refine blk_alloc ?_ _)); exact BK167.out⟩, ⟨by repeat (first | (with_reducible first | exact HB.out | apply below_alloc | apply pw_below_drewN | apply below_drew1 | refine below_set ?_ GE160.out | refine below_set ?_ GE167.out) | exact HB.out)⟩⟩
                · replace c18 := Bool.eq_false_iff.mpr c18
                  subst c18
                  have H1 : (biremelaw14_AffineTried.l1 k2 (wrap64 (t168 - 45)) true (wrap64 (x8_2 + 1)) x9_1 x10_1 x13_1 x14_2 x13_1 (wrap64 (x14_2 + 1)) t161 t162 t163 t164 t165 t166) = some r := by rw [if_neg (show ¬ (false = true) by decide)] at H; exact H
                  clear H
                  have H := H1
                  clear H1
                  have H' := Aside0.mk H
                  clear H
                  have hnb24 := NB167_160.out
                  have hnc24 := NB160_167.out
                  have hcz25_0 : wr.cell? ⟨gb167, 0, none⟩ = some (.int .i64 t161) := (blk_cell BK167.out 0).trans rfl
                  have hcz25_1 : wr.cell? ⟨gb167, 1, none⟩ = some (.int .i64 t162) := (blk_cell BK167.out 1).trans rfl
                  have hcz25_2 : wr.cell? ⟨gb167, 2, none⟩ = some (.int .i64 t163) := (blk_cell BK167.out 2).trans rfl
                  have hcz25_3 : wr.cell? ⟨gb167, 3, none⟩ = some (.int .i64 t164) := (blk_cell BK167.out 3).trans rfl
                  have hcz25_4 : wr.cell? ⟨gb167, 4, none⟩ = some (.int .i64 t165) := (blk_cell BK167.out 4).trans rfl
                  have hcz25_5 : wr.cell? ⟨gb167, 5, none⟩ = some (.int .i64 t166) := (blk_cell BK167.out 5).trans rfl
                  have hfz25_0 := blk_frozen BK167.out 0
                  have hfz25_1 := blk_frozen BK167.out 1
                  have hfz25_2 := blk_frozen BK167.out 2
                  have hfz25_3 := blk_frozen BK167.out 3
                  have hfz25_4 := blk_frozen BK167.out 4
                  have hfz25_5 := blk_frozen BK167.out 5
                  try go_wp2
                  have n0_ := Aside0.mk (blk_drew BK160.out)
                  have n1_ := Aside0.mk (blk_drew BK167.out)
                  have n2_ := Aside0.mk (below_drew1 HB.out)
                  clear BK160
                  clear BK167
                  clear HB
                  have BK160 := n0_
                  have BK167 := n1_
                  have HB := n2_
                  clear n0_ n1_ n2_
                  refine start_ (n := 9) (S := fun w' => w'.cell? ⟨gb167, 0, none⟩ = some (.int .i64 t161) ∧ w'.cell? ⟨gb167, 1, none⟩ = some (.int .i64 t162) ∧ w'.cell? ⟨gb167, 2, none⟩ = some (.int .i64 t163) ∧ w'.cell? ⟨gb167, 3, none⟩ = some (.int .i64 t164) ∧ w'.cell? ⟨gb167, 4, none⟩ = some (.int .i64 t165) ∧ w'.cell? ⟨gb167, 5, none⟩ = some (.int .i64 t166)) (ds := []) #[false, false, false, false, false, false, false, false, false] (by kernel_rfl) rfl rfl ⟨(blk_cell BK167.out 0).trans rfl, (blk_cell BK167.out 1).trans rfl, (blk_cell BK167.out 2).trans rfl, (blk_cell BK167.out 3).trans rfl, (blk_cell BK167.out 4).trans rfl, (blk_cell BK167.out 5).trans rfl⟩ (fun hHeld => ?_); refine with_tabW biremelaw14_AffineTried.tab12 biremelaw14_AffineTried.bits12 (fun HT_ HW_ => ?_)
                  generalize wr.drew = w26 at BK160 BK167 HB hHeld ⊢
                  refine pure_ (i := 0) (N := some 46) (v := ?_) (a' := ?_) #[true, false, false, false, false, false, false, false, false] rfl rfl (any_of HT_.out (by kernel_rfl)) (fun _ _ _ h => h) (Or.inl ⟨by rfl, ?_⟩) ?_ ?_
                  rotate_left
                  · intro w'
                    go_simp
                    with_reducible rfl
                  rotate_left
                  · simp only [Act.put, List.setIfInBounds_toArray, List.set_cons_zero, List.set_cons_succ, i64_w, i32_w]
                    rfl
                  refine pure_ (i := 2) (N := some 48) (v := ?_) (a' := ?_) #[true, false, true, false, false, false, false, false, false] rfl rfl (any_of HT_.out (by kernel_rfl)) (fun _ _ _ h => h) (Or.inl ⟨by rfl, ?_⟩) ?_ ?_
                  rotate_left
                  · intro w'
                    go_simp
                    with_reducible rfl
                  rotate_left
                  · simp only [Act.put, List.setIfInBounds_toArray, List.set_cons_zero, List.set_cons_succ, i64_w, i32_w]
                    rfl
                  refine pure_ (i := 4) (N := some 50) (v := ?_) (a' := ?_) #[true, false, true, false, true, false, false, false, false] rfl rfl (any_of HT_.out (by kernel_rfl)) (fun _ _ _ h => h) (Or.inl ⟨by rfl, ?_⟩) ?_ ?_
                  rotate_left
                  · intro w'
                    go_simp
                    with_reducible rfl
                  rotate_left
                  · simp only [Act.put, List.setIfInBounds_toArray, List.set_cons_zero, List.set_cons_succ, i64_w, i32_w]
                    rfl
                  refine pure_ (i := 6) (N := some 52) (v := ?_) (a' := ?_) #[true, false, true, false, true, false, true, false, false] rfl rfl (any_of HT_.out (by kernel_rfl)) (fun _ _ _ h => h) (Or.inl ⟨by rfl, ?_⟩) ?_ ?_
                  rotate_left
                  · intro w'
                    go_simp
                    with_reducible rfl
                  rotate_left
                  · simp only [Act.put, List.setIfInBounds_toArray, List.set_cons_zero, List.set_cons_succ, i64_w, i32_w]
                    rfl
                  refine take_ (i := 1) (N := some 47) (v := ?_) (a' := ?_) #[true, true, true, false, true, false, true, false, false] rfl rfl (take_ofW HT_.out HW_.out (by kernel_rfl)) (fun _ _ _ h => h) (Or.inl ⟨by rfl, ?_⟩) hHeld ?_ ?_
                  rotate_left
                  · rintro w' ⟨s0, s1, s2, s3, s4, s5⟩
                    go_simp
                    with_reducible rfl
                  rotate_left
                  · simp only [Act.put, List.setIfInBounds_toArray, List.set_cons_zero, List.set_cons_succ, i64_w, i32_w]
                    rfl
                  refine take_ (i := 5) (N := some 51) (v := ?_) (a' := ?_) #[true, true, true, false, true, true, true, false, false] rfl rfl (take_ofW HT_.out HW_.out (by kernel_rfl)) (fun _ _ _ h => h) (Or.inl ⟨by rfl, ?_⟩) hHeld ?_ ?_
                  rotate_left
                  · rintro w' ⟨s0, s1, s2, s3, s4, s5⟩
                    go_simp
                    with_reducible rfl
                  rotate_left
                  · simp only [Act.put, List.setIfInBounds_toArray, List.set_cons_zero, List.set_cons_succ, i64_w, i32_w]
                    rfl
                  refine one_ (i := 3) (N := some 49) #[true, true, true, true, true, true, true, false, false] rfl rfl (one_of HT_.out (by kernel_rfl)) (by decide) (fun K hK => ?_)
                  refine goes_ Try.func32 (by kernel_rfl) rfl #[.agg #[.int .i64 t161, .int .i64 t162], .int .i64 x13_1] (by rfl) rfl rfl (by (try simp only [List.map_toArray, List.map_cons, List.map_nil]); first | done | rfl | (simp only [List.length_drop, List.length_take]; rfl)) ?_
                  with_reducible refine (biremelaw14_at.calls t161 t162 x13_1 t169 _ A15.out).mono ?_
                  rintro e w27 ⟨rfl, hb⟩
                  refine ⟨_, rfl, ?_⟩
                  have n0_ := Aside0.mk (blk_below (g := gb160) (o := .cells #[.int .i64 a0_0, .int .i64 a0_1, .int .i64 a0_2, .int .i64 a0_3, .int .i64 a0_4, .int .i64 a0_5] 35 (0, 0)) (by (with_reducible repeat (first | refine blk_drewN ?_ _ | refine blk_drew ?_ | refine blk_alloc ?_ _)); exact BK160.out) hb)
                  have n1_ := Aside0.mk (blk_below (g := gb167) (o := .cells #[.int .i64 t161, .int .i64 t162, .int .i64 t163, .int .i64 t164, .int .i64 t165, .int .i64 t166] 35 (0, 0)) (by (with_reducible repeat (first | refine blk_drewN ?_ _ | refine blk_drew ?_ | refine blk_alloc ?_ _)); exact BK167.out) hb)
                  have n2_ := Aside0.mk (below_step (by repeat (first | (with_reducible first | exact HB.out | apply below_alloc | apply pw_below_drewN | apply below_drew1 | refine below_set ?_ GE160.out | refine below_set ?_ GE167.out) | exact HB.out)) hb)
                  clear BK160
                  clear BK167
                  clear HB
                  have BK160 := n0_
                  have BK167 := n1_
                  have HB := n2_
                  clear n0_ n1_ n2_
                  (try clear hb)
                  (try clear hb2)
                  (try clear hk)
                  (try clear hi)
                  refine hK.out _ _ ⟨(blk_cell BK167.out 0).trans rfl, (blk_cell BK167.out 1).trans rfl, (blk_cell BK167.out 2).trans rfl, (blk_cell BK167.out 3).trans rfl, (blk_cell BK167.out 4).trans rfl, (blk_cell BK167.out 5).trans rfl⟩ (fun hHeld => ?_)
                  clear hK K
                  refine norm_ (a' := ?_) ?_ ?_
                  rotate_left
                  · show Act.put _ (some 49) _ = _
                    simp only [Act.put, List.setIfInBounds_toArray, List.set_cons_zero, List.set_cons_succ, i64_w, i32_w]
                    rfl
                  refine one_ (i := 7) (N := some 53) #[true, true, true, true, true, true, true, true, false] rfl rfl (one_of HT_.out (by kernel_rfl)) (by decide) (fun K hK => ?_)
                  refine goes_ Try.func32 (by kernel_rfl) rfl #[.agg #[.int .i64 t163, .int .i64 t164], .int .i64 x14_2] (by rfl) rfl rfl (by (try simp only [List.map_toArray, List.map_cons, List.map_nil]); first | done | rfl | (simp only [List.length_drop, List.length_take]; rfl)) ?_
                  with_reducible refine (biremelaw14_at.calls t163 t164 x14_2 t170 _ A16.out).mono ?_
                  rintro e w28 ⟨rfl, hb⟩
                  refine ⟨_, rfl, ?_⟩
                  have n0_ := Aside0.mk (blk_below (g := gb160) (o := .cells #[.int .i64 a0_0, .int .i64 a0_1, .int .i64 a0_2, .int .i64 a0_3, .int .i64 a0_4, .int .i64 a0_5] 35 (0, 0)) (by (with_reducible repeat (first | refine blk_drewN ?_ _ | refine blk_drew ?_ | refine blk_alloc ?_ _)); exact BK160.out) hb)
                  have n1_ := Aside0.mk (blk_below (g := gb167) (o := .cells #[.int .i64 t161, .int .i64 t162, .int .i64 t163, .int .i64 t164, .int .i64 t165, .int .i64 t166] 35 (0, 0)) (by (with_reducible repeat (first | refine blk_drewN ?_ _ | refine blk_drew ?_ | refine blk_alloc ?_ _)); exact BK167.out) hb)
                  have n2_ := Aside0.mk (below_step (by repeat (first | (with_reducible first | exact HB.out | apply below_alloc | apply pw_below_drewN | apply below_drew1 | refine below_set ?_ GE160.out | refine below_set ?_ GE167.out) | exact HB.out)) hb)
                  clear BK160
                  clear BK167
                  clear HB
                  have BK160 := n0_
                  have BK167 := n1_
                  have HB := n2_
                  clear n0_ n1_ n2_
                  (try clear hb)
                  (try clear hb2)
                  (try clear hk)
                  (try clear hi)
                  refine hK.out _ _ ⟨(blk_cell BK167.out 0).trans rfl, (blk_cell BK167.out 1).trans rfl, (blk_cell BK167.out 2).trans rfl, (blk_cell BK167.out 3).trans rfl, (blk_cell BK167.out 4).trans rfl, (blk_cell BK167.out 5).trans rfl⟩ (fun hHeld => ?_)
                  clear hK K
                  refine norm_ (a' := ?_) ?_ ?_
                  rotate_left
                  · show Act.put _ (some 53) _ = _
                    simp only [Act.put, List.setIfInBounds_toArray, List.set_cons_zero, List.set_cons_succ, i64_w, i32_w]
                    rfl
                  refine pure_ (i := 8) (N := some 54) (v := ?_) (a' := ?_) #[true, true, true, true, true, true, true, true, true] rfl rfl (any_of HT_.out (by kernel_rfl)) (fun _ _ _ h => h) (Or.inl ⟨by rfl, ?_⟩) ?_ ?_
                  rotate_left
                  · intro w'
                    go_simp
                    with_reducible rfl
                  rotate_left
                  · simp only [Act.put, List.setIfInBounds_toArray, List.set_cons_zero, List.set_cons_succ, i64_w, i32_w]
                    rfl
                  refine done_ (done_of HT_.out (by kernel_rfl)) ?_
                  try go_wp2
                  go_roundg k2
                  case measure => have := HK1.out; have := HK2.out; omega
                  case rel => exact ⟨(true), (wrap64 (x8_2 + 1)), (x13_1), (x14_2), (wrap64 (x14_2 + 1)), (by first | rfl | (simp; done) | (simp [*]; done)), (by first | rfl | (simp; done) | (simp [*]; done)), (by first | rfl | (simp; done) | (simp [*]; done)), (by first | rfl | (simp; done) | (simp [*]; done)), (by first | rfl | (simp; done) | (simp [*]; done)), H', ⟨by have := HK1.out; have := HK2.out; omega⟩, ⟨by (with_reducible repeat (first | refine blk_drewN ?_ _ | refine blk_drew ?_ | refine blk_alloc ?_ _)); exact BK160.out⟩, ⟨by (with_reducible repeat (first | refine blk_drewN ?_ _ | refine blk_drew ?_ | refine blk_alloc ?_ _)); exact BK167.out⟩, ⟨by repeat (first | (with_reducible first | exact HB.out | apply below_alloc | apply pw_below_drewN | apply below_drew1 | refine below_set ?_ GE160.out | refine below_set ?_ GE167.out) | exact HB.out)⟩⟩
              · rw [if_neg c17] at H
                have c17b0 : (t169 == t170) = false := beq_eq_false_iff_ne.mpr c17
                have c17b1 : (t169 != t170) = true := bne_iff_ne.mpr c17
                have H' := Aside0.mk H
                clear H
                have hnb29 := NB167_160.out
                have hnc29 := NB160_167.out
                have hcz30_0 : wr.cell? ⟨gb167, 0, none⟩ = some (.int .i64 t161) := (blk_cell BK167.out 0).trans rfl
                have hcz30_1 : wr.cell? ⟨gb167, 1, none⟩ = some (.int .i64 t162) := (blk_cell BK167.out 1).trans rfl
                have hcz30_2 : wr.cell? ⟨gb167, 2, none⟩ = some (.int .i64 t163) := (blk_cell BK167.out 2).trans rfl
                have hcz30_3 : wr.cell? ⟨gb167, 3, none⟩ = some (.int .i64 t164) := (blk_cell BK167.out 3).trans rfl
                have hcz30_4 : wr.cell? ⟨gb167, 4, none⟩ = some (.int .i64 t165) := (blk_cell BK167.out 4).trans rfl
                have hcz30_5 : wr.cell? ⟨gb167, 5, none⟩ = some (.int .i64 t166) := (blk_cell BK167.out 5).trans rfl
                have hfz30_0 := blk_frozen BK167.out 0
                have hfz30_1 := blk_frozen BK167.out 1
                have hfz30_2 := blk_frozen BK167.out 2
                have hfz30_3 := blk_frozen BK167.out 3
                have hfz30_4 := blk_frozen BK167.out 4
                have hfz30_5 := blk_frozen BK167.out 5
                try go_wp2
                have n0_ := Aside0.mk (blk_drew BK160.out)
                have n1_ := Aside0.mk (blk_drew BK167.out)
                have n2_ := Aside0.mk (below_drew1 HB.out)
                clear BK160
                clear BK167
                clear HB
                have BK160 := n0_
                have BK167 := n1_
                have HB := n2_
                clear n0_ n1_ n2_
                refine start_ (n := 9) (S := fun w' => w'.cell? ⟨gb167, 0, none⟩ = some (.int .i64 t161) ∧ w'.cell? ⟨gb167, 1, none⟩ = some (.int .i64 t162) ∧ w'.cell? ⟨gb167, 2, none⟩ = some (.int .i64 t163) ∧ w'.cell? ⟨gb167, 3, none⟩ = some (.int .i64 t164) ∧ w'.cell? ⟨gb167, 4, none⟩ = some (.int .i64 t165) ∧ w'.cell? ⟨gb167, 5, none⟩ = some (.int .i64 t166)) (ds := []) #[false, false, false, false, false, false, false, false, false] (by kernel_rfl) rfl rfl ⟨(blk_cell BK167.out 0).trans rfl, (blk_cell BK167.out 1).trans rfl, (blk_cell BK167.out 2).trans rfl, (blk_cell BK167.out 3).trans rfl, (blk_cell BK167.out 4).trans rfl, (blk_cell BK167.out 5).trans rfl⟩ (fun hHeld => ?_); refine with_tabW biremelaw14_AffineTried.tab12 biremelaw14_AffineTried.bits12 (fun HT_ HW_ => ?_)
                generalize wr.drew = w31 at BK160 BK167 HB hHeld ⊢
                refine pure_ (i := 0) (N := some 46) (v := ?_) (a' := ?_) #[true, false, false, false, false, false, false, false, false] rfl rfl (any_of HT_.out (by kernel_rfl)) (fun _ _ _ h => h) (Or.inl ⟨by rfl, ?_⟩) ?_ ?_
                rotate_left
                · intro w'
                  go_simp
                  with_reducible rfl
                rotate_left
                · simp only [Act.put, List.setIfInBounds_toArray, List.set_cons_zero, List.set_cons_succ, i64_w, i32_w]
                  rfl
                refine pure_ (i := 2) (N := some 48) (v := ?_) (a' := ?_) #[true, false, true, false, false, false, false, false, false] rfl rfl (any_of HT_.out (by kernel_rfl)) (fun _ _ _ h => h) (Or.inl ⟨by rfl, ?_⟩) ?_ ?_
                rotate_left
                · intro w'
                  go_simp
                  with_reducible rfl
                rotate_left
                · simp only [Act.put, List.setIfInBounds_toArray, List.set_cons_zero, List.set_cons_succ, i64_w, i32_w]
                  rfl
                refine pure_ (i := 4) (N := some 50) (v := ?_) (a' := ?_) #[true, false, true, false, true, false, false, false, false] rfl rfl (any_of HT_.out (by kernel_rfl)) (fun _ _ _ h => h) (Or.inl ⟨by rfl, ?_⟩) ?_ ?_
                rotate_left
                · intro w'
                  go_simp
                  with_reducible rfl
                rotate_left
                · simp only [Act.put, List.setIfInBounds_toArray, List.set_cons_zero, List.set_cons_succ, i64_w, i32_w]
                  rfl
                refine pure_ (i := 6) (N := some 52) (v := ?_) (a' := ?_) #[true, false, true, false, true, false, true, false, false] rfl rfl (any_of HT_.out (by kernel_rfl)) (fun _ _ _ h => h) (Or.inl ⟨by rfl, ?_⟩) ?_ ?_
                rotate_left
                · intro w'
                  go_simp
                  with_reducible rfl
                rotate_left
                · simp only [Act.put, List.setIfInBounds_toArray, List.set_cons_zero, List.set_cons_succ, i64_w, i32_w]
                  rfl
                refine take_ (i := 1) (N := some 47) (v := ?_) (a' := ?_) #[true, true, true, false, true, false, true, false, false] rfl rfl (take_ofW HT_.out HW_.out (by kernel_rfl)) (fun _ _ _ h => h) (Or.inl ⟨by rfl, ?_⟩) hHeld ?_ ?_
                rotate_left
                · rintro w' ⟨s0, s1, s2, s3, s4, s5⟩
                  go_simp
                  with_reducible rfl
                rotate_left
                · simp only [Act.put, List.setIfInBounds_toArray, List.set_cons_zero, List.set_cons_succ, i64_w, i32_w]
                  rfl
                refine take_ (i := 5) (N := some 51) (v := ?_) (a' := ?_) #[true, true, true, false, true, true, true, false, false] rfl rfl (take_ofW HT_.out HW_.out (by kernel_rfl)) (fun _ _ _ h => h) (Or.inl ⟨by rfl, ?_⟩) hHeld ?_ ?_
                rotate_left
                · rintro w' ⟨s0, s1, s2, s3, s4, s5⟩
                  go_simp
                  with_reducible rfl
                rotate_left
                · simp only [Act.put, List.setIfInBounds_toArray, List.set_cons_zero, List.set_cons_succ, i64_w, i32_w]
                  rfl
                refine one_ (i := 3) (N := some 49) #[true, true, true, true, true, true, true, false, false] rfl rfl (one_of HT_.out (by kernel_rfl)) (by decide) (fun K hK => ?_)
                refine goes_ Try.func32 (by kernel_rfl) rfl #[.agg #[.int .i64 t161, .int .i64 t162], .int .i64 x13_1] (by rfl) rfl rfl (by (try simp only [List.map_toArray, List.map_cons, List.map_nil]); first | done | rfl | (simp only [List.length_drop, List.length_take]; rfl)) ?_
                with_reducible refine (biremelaw14_at.calls t161 t162 x13_1 t169 _ A15.out).mono ?_
                rintro e w32 ⟨rfl, hb⟩
                refine ⟨_, rfl, ?_⟩
                have n0_ := Aside0.mk (blk_below (g := gb160) (o := .cells #[.int .i64 a0_0, .int .i64 a0_1, .int .i64 a0_2, .int .i64 a0_3, .int .i64 a0_4, .int .i64 a0_5] 35 (0, 0)) (by (with_reducible repeat (first | refine blk_drewN ?_ _ | refine blk_drew ?_ | refine blk_alloc ?_ _)); exact BK160.out) hb)
                have n1_ := Aside0.mk (blk_below (g := gb167) (o := .cells #[.int .i64 t161, .int .i64 t162, .int .i64 t163, .int .i64 t164, .int .i64 t165, .int .i64 t166] 35 (0, 0)) (by (with_reducible repeat (first | refine blk_drewN ?_ _ | refine blk_drew ?_ | refine blk_alloc ?_ _)); exact BK167.out) hb)
                have n2_ := Aside0.mk (below_step (by repeat (first | (with_reducible first | exact HB.out | apply below_alloc | apply pw_below_drewN | apply below_drew1 | refine below_set ?_ GE160.out | refine below_set ?_ GE167.out) | exact HB.out)) hb)
                clear BK160
                clear BK167
                clear HB
                have BK160 := n0_
                have BK167 := n1_
                have HB := n2_
                clear n0_ n1_ n2_
                (try clear hb)
                (try clear hb2)
                (try clear hk)
                (try clear hi)
                refine hK.out _ _ ⟨(blk_cell BK167.out 0).trans rfl, (blk_cell BK167.out 1).trans rfl, (blk_cell BK167.out 2).trans rfl, (blk_cell BK167.out 3).trans rfl, (blk_cell BK167.out 4).trans rfl, (blk_cell BK167.out 5).trans rfl⟩ (fun hHeld => ?_)
                clear hK K
                refine norm_ (a' := ?_) ?_ ?_
                rotate_left
                · show Act.put _ (some 49) _ = _
                  simp only [Act.put, List.setIfInBounds_toArray, List.set_cons_zero, List.set_cons_succ, i64_w, i32_w]
                  rfl
                refine one_ (i := 7) (N := some 53) #[true, true, true, true, true, true, true, true, false] rfl rfl (one_of HT_.out (by kernel_rfl)) (by decide) (fun K hK => ?_)
                refine goes_ Try.func32 (by kernel_rfl) rfl #[.agg #[.int .i64 t163, .int .i64 t164], .int .i64 x14_2] (by rfl) rfl rfl (by (try simp only [List.map_toArray, List.map_cons, List.map_nil]); first | done | rfl | (simp only [List.length_drop, List.length_take]; rfl)) ?_
                with_reducible refine (biremelaw14_at.calls t163 t164 x14_2 t170 _ A16.out).mono ?_
                rintro e w33 ⟨rfl, hb⟩
                refine ⟨_, rfl, ?_⟩
                have n0_ := Aside0.mk (blk_below (g := gb160) (o := .cells #[.int .i64 a0_0, .int .i64 a0_1, .int .i64 a0_2, .int .i64 a0_3, .int .i64 a0_4, .int .i64 a0_5] 35 (0, 0)) (by (with_reducible repeat (first | refine blk_drewN ?_ _ | refine blk_drew ?_ | refine blk_alloc ?_ _)); exact BK160.out) hb)
                have n1_ := Aside0.mk (blk_below (g := gb167) (o := .cells #[.int .i64 t161, .int .i64 t162, .int .i64 t163, .int .i64 t164, .int .i64 t165, .int .i64 t166] 35 (0, 0)) (by (with_reducible repeat (first | refine blk_drewN ?_ _ | refine blk_drew ?_ | refine blk_alloc ?_ _)); exact BK167.out) hb)
                have n2_ := Aside0.mk (below_step (by repeat (first | (with_reducible first | exact HB.out | apply below_alloc | apply pw_below_drewN | apply below_drew1 | refine below_set ?_ GE160.out | refine below_set ?_ GE167.out) | exact HB.out)) hb)
                clear BK160
                clear BK167
                clear HB
                have BK160 := n0_
                have BK167 := n1_
                have HB := n2_
                clear n0_ n1_ n2_
                (try clear hb)
                (try clear hb2)
                (try clear hk)
                (try clear hi)
                refine hK.out _ _ ⟨(blk_cell BK167.out 0).trans rfl, (blk_cell BK167.out 1).trans rfl, (blk_cell BK167.out 2).trans rfl, (blk_cell BK167.out 3).trans rfl, (blk_cell BK167.out 4).trans rfl, (blk_cell BK167.out 5).trans rfl⟩ (fun hHeld => ?_)
                clear hK K
                refine norm_ (a' := ?_) ?_ ?_
                rotate_left
                · show Act.put _ (some 53) _ = _
                  simp only [Act.put, List.setIfInBounds_toArray, List.set_cons_zero, List.set_cons_succ, i64_w, i32_w]
                  rfl
                refine pure_ (i := 8) (N := some 54) (v := ?_) (a' := ?_) #[true, true, true, true, true, true, true, true, true] rfl rfl (any_of HT_.out (by kernel_rfl)) (fun _ _ _ h => h) (Or.inl ⟨by rfl, ?_⟩) ?_ ?_
                rotate_left
                · intro w'
                  go_simp
                  with_reducible rfl
                rotate_left
                · simp only [Act.put, List.setIfInBounds_toArray, List.set_cons_zero, List.set_cons_succ, i64_w, i32_w]
                  rfl
                refine done_ (done_of HT_.out (by kernel_rfl)) ?_
                try go_wp2
                go_roundg k2
                case measure => have := HK1.out; have := HK2.out; omega
                case rel => exact ⟨(x7_2), (x8_2), (x11_2), (x12_2), (wrap64 (x14_2 + 1)), (by first | rfl | (simp; done) | (simp [*]; done)), (by first | rfl | (simp; done) | (simp [*]; done)), (by first | rfl | (simp; done) | (simp [*]; done)), (by first | rfl | (simp; done) | (simp [*]; done)), (by first | rfl | (simp; done) | (simp [*]; done)), H', ⟨by have := HK1.out; have := HK2.out; omega⟩, ⟨by (with_reducible repeat (first | refine blk_drewN ?_ _ | refine blk_drew ?_ | refine blk_alloc ?_ _)); exact BK160.out⟩, ⟨by (with_reducible repeat (first | refine blk_drewN ?_ _ | refine blk_drew ?_ | refine blk_alloc ?_ _)); exact BK167.out⟩, ⟨by repeat (first | (with_reducible first | exact HB.out | apply below_alloc | apply pw_below_drewN | apply below_drew1 | refine below_set ?_ GE160.out | refine below_set ?_ GE167.out) | exact HB.out)⟩⟩
            · rw [if_neg c14] at H
              have c14b0 : decide (x14_2 < t166) = false := decide_eq_false c14
              clear c14
              have H' := Aside0.mk H
              clear H
              have hnb34 := NB167_160.out
              have hnc34 := NB160_167.out
              have hcz35_0 : wr.cell? ⟨gb167, 0, none⟩ = some (.int .i64 t161) := (blk_cell BK167.out 0).trans rfl
              have hcz35_1 : wr.cell? ⟨gb167, 1, none⟩ = some (.int .i64 t162) := (blk_cell BK167.out 1).trans rfl
              have hcz35_2 : wr.cell? ⟨gb167, 2, none⟩ = some (.int .i64 t163) := (blk_cell BK167.out 2).trans rfl
              have hcz35_3 : wr.cell? ⟨gb167, 3, none⟩ = some (.int .i64 t164) := (blk_cell BK167.out 3).trans rfl
              have hcz35_4 : wr.cell? ⟨gb167, 4, none⟩ = some (.int .i64 t165) := (blk_cell BK167.out 4).trans rfl
              have hcz35_5 : wr.cell? ⟨gb167, 5, none⟩ = some (.int .i64 t166) := (blk_cell BK167.out 5).trans rfl
              have hfz35_0 := blk_frozen BK167.out 0
              have hfz35_1 := blk_frozen BK167.out 1
              have hfz35_2 := blk_frozen BK167.out 2
              have hfz35_3 := blk_frozen BK167.out 3
              have hfz35_4 := blk_frozen BK167.out 4
              have hfz35_5 := blk_frozen BK167.out 5
              go_wp2
              go_loopg [9, 10, 15] k2 (fun kq v9 v10 v15 w' => ∃ (x9_3 : Int) (x10_3 : Int) (x15_3 : Int), v9 = .int .i64 x9_3 ∧ v10 = .int .i64 x10_3 ∧ v15 = .int .i64 x15_3 ∧ Aside0 (biremelaw14_AffineTried.l2 kq (wrap64 (t168 - 45)) x7_2 x8_2 x9_3 x10_3 x11_2 x12_2 x13_1 x15_3 t161 t162 t163 t164 t165 t166 = some r) ∧ Aside0 (kq ≤ k2) ∧ Aside0 (w'.heap[gb160]? = some (.cells #[.int .i64 a0_0, .int .i64 a0_1, .int .i64 a0_2, .int .i64 a0_3, .int .i64 a0_4, .int .i64 a0_5] 35 (0, 0))) ∧ Aside0 (w'.heap[gb167]? = some (.cells #[.int .i64 t161, .int .i64 t162, .int .i64 t163, .int .i64 t164, .int .i64 t165, .int .i64 t166] 35 (0, 0))) ∧ Aside0 (Below w.heap.size w w'))
              case atStart => exact ⟨(x9_1), (x10_1), (0), (by first | rfl | (simp; done) | (simp [*]; done)), (by first | rfl | (simp; done) | (simp [*]; done)), (by first | rfl | (simp; done) | (simp [*]; done)), H', ⟨Nat.le_refl _⟩, ⟨by (with_reducible repeat (first | refine blk_drewN ?_ _ | refine blk_drew ?_ | refine blk_alloc ?_ _)); exact BK160.out⟩, ⟨by (with_reducible repeat (first | refine blk_drewN ?_ _ | refine blk_drew ?_ | refine blk_alloc ?_ _)); exact BK167.out⟩, ⟨by repeat (first | (with_reducible first | exact HB.out | apply below_alloc | apply pw_below_drewN | apply below_drew1 | refine below_set ?_ GE160.out | refine below_set ?_ GE167.out) | exact HB.out)⟩⟩
              case round =>
                clear H'
                try clear c1
                try clear c2
                try clear p2
                try clear c3
                try clear p6
                try clear c9
                try clear c10
                try clear c11
                try clear c11b0
                try clear c12
                try clear c14
                try clear c14b0
                try clear c17
                try clear c17b0
                try clear c17b1
                try clear c18
                try clear c19
                try clear c24
                try clear c29
                try clear c32
                try clear c34
                try clear hcz10_0
                try clear hcz10_1
                try clear hcz10_2
                try clear hcz10_3
                try clear hcz10_4
                try clear hcz10_5
                try clear hcz13_0
                try clear hcz13_1
                try clear hcz13_2
                try clear hcz13_3
                try clear hcz13_4
                try clear hcz13_5
                try clear hcz20_0
                try clear hcz20_1
                try clear hcz20_2
                try clear hcz20_3
                try clear hcz20_4
                try clear hcz20_5
                try clear hcz25_0
                try clear hcz25_1
                try clear hcz25_2
                try clear hcz25_3
                try clear hcz25_4
                try clear hcz25_5
                try clear hcz30_0
                try clear hcz30_1
                try clear hcz30_2
                try clear hcz30_3
                try clear hcz30_4
                try clear hcz30_5
                try clear hcz35_0
                try clear hcz35_1
                try clear hcz35_2
                try clear hcz35_3
                try clear hcz35_4
                try clear hcz35_5
                try clear hcz6_0
                try clear hcz6_1
                try clear hcz6_2
                try clear hcz6_3
                try clear hcz6_4
                try clear hcz6_5
                try clear hfz10_0
                try clear hfz10_1
                try clear hfz10_2
                try clear hfz10_3
                try clear hfz10_4
                try clear hfz10_5
                try clear hfz13_0
                try clear hfz13_1
                try clear hfz13_2
                try clear hfz13_3
                try clear hfz13_4
                try clear hfz13_5
                try clear hfz20_0
                try clear hfz20_1
                try clear hfz20_2
                try clear hfz20_3
                try clear hfz20_4
                try clear hfz20_5
                try clear hfz25_0
                try clear hfz25_1
                try clear hfz25_2
                try clear hfz25_3
                try clear hfz25_4
                try clear hfz25_5
                try clear hfz30_0
                try clear hfz30_1
                try clear hfz30_2
                try clear hfz30_3
                try clear hfz30_4
                try clear hfz30_5
                try clear hfz35_0
                try clear hfz35_1
                try clear hfz35_2
                try clear hfz35_3
                try clear hfz35_4
                try clear hfz35_5
                try clear hfz6_0
                try clear hfz6_1
                try clear hfz6_2
                try clear hfz6_3
                try clear hfz6_4
                try clear hfz6_5
                try clear p2
                try clear p6
                obtain ⟨x9_3, x10_3, x15_3, rfl, rfl, rfl, HA, HK3, BK160, BK167, HB⟩ := hrel
                cases gk with
                | zero => exact absurd HA.out (by simp [biremelaw14_AffineTried.l2])
                | succ k3 =>
                  have H := HA.out
                  clear HA
                  simp only [biremelaw14_AffineTried.l2] at H
                  by_cases c36 : x15_3 < t165
                  · rw [if_pos c36] at H
                    have c36b0 : decide (x15_3 < t165) = true := decide_eq_true c36
                    clear c36
                    replace H := Option.bind_eq_some_iff.mp H
                    obtain ⟨t171, A370, H⟩ := H
                    replace H : ((biremelaw14_at.f t163 t164 x15_3).bind fun t172 => (if t171 = t172 then (if (wrap64 (x15_3 - x13_1)) ≥ (wrap64 (t168 - 45)) then (biremelaw14_AffineTried.l2 k3 (wrap64 (t168 - 45)) x7_2 x8_2 (mn x9_3 (wrap64 (x15_3 - x13_1))) (mx x10_3 (wrap64 (x15_3 - x13_1))) x11_2 x12_2 x13_1 (wrap64 (x15_3 + 1)) t161 t162 t163 t164 t165 t166) else (biremelaw14_AffineTried.l2 k3 (wrap64 (t168 - 45)) x7_2 x8_2 x9_3 (mx x10_3 (wrap64 (x15_3 - x13_1))) x11_2 x12_2 x13_1 (wrap64 (x15_3 + 1)) t161 t162 t163 t164 t165 t166)) else (biremelaw14_AffineTried.l2 k3 (wrap64 (t168 - 45)) x7_2 x8_2 x9_3 x10_3 x11_2 x12_2 x13_1 (wrap64 (x15_3 + 1)) t161 t162 t163 t164 t165 t166))) = some r := H
                    have A37 := Aside0.mk A370
                    clear A370
                    replace H := Option.bind_eq_some_iff.mp H
                    obtain ⟨t172, A380, H⟩ := H
                    replace H : (if t171 = t172 then (if (wrap64 (x15_3 - x13_1)) ≥ (wrap64 (t168 - 45)) then (biremelaw14_AffineTried.l2 k3 (wrap64 (t168 - 45)) x7_2 x8_2 (mn x9_3 (wrap64 (x15_3 - x13_1))) (mx x10_3 (wrap64 (x15_3 - x13_1))) x11_2 x12_2 x13_1 (wrap64 (x15_3 + 1)) t161 t162 t163 t164 t165 t166) else (biremelaw14_AffineTried.l2 k3 (wrap64 (t168 - 45)) x7_2 x8_2 x9_3 (mx x10_3 (wrap64 (x15_3 - x13_1))) x11_2 x12_2 x13_1 (wrap64 (x15_3 + 1)) t161 t162 t163 t164 t165 t166)) else (biremelaw14_AffineTried.l2 k3 (wrap64 (t168 - 45)) x7_2 x8_2 x9_3 x10_3 x11_2 x12_2 x13_1 (wrap64 (x15_3 + 1)) t161 t162 t163 t164 t165 t166)) = some r := H
                    have A38 := Aside0.mk A380
                    clear A380
                    by_cases c39 : t171 = t172
                    · rw [if_pos c39] at H
                      have c39b0 : (t171 == t172) = true := beq_iff_eq.mpr c39
                      have c39b1 : (t171 != t172) = false := bne_eq_false_iff_eq.mpr c39
                      clear c39
                      by_cases c40 : (wrap64 (x15_3 - x13_1)) ≥ (wrap64 (t168 - 45))
                      · rw [if_pos c40] at H
                        have c40b0 : decide ((wrap64 (t168 - 45)) ≤ (wrap64 (x15_3 - x13_1))) = true := decide_eq_true c40
                        clear c40
                        obtain ⟨ji41, hji41⟩ : ∃ j_ : Int, (mn x9_3 (wrap64 (x15_3 - x13_1))) = j_ := ⟨_, rfl⟩
                        replace H : (biremelaw14_AffineTried.l2 k3 (wrap64 (t168 - 45)) x7_2 x8_2 ji41 (mx x10_3 (wrap64 (x15_3 - x13_1))) x11_2 x12_2 x13_1 (wrap64 (x15_3 + 1)) t161 t162 t163 t164 t165 t166) = some r := by first | (rw [hji41] at H; exact H) | (simp only [hji41] at H ⊢; exact H)
                        (try rw [hji41] at A37)
                        (try rw [hji41] at A38)
                        have hji41_ : (if (wrap64 (x15_3 - x13_1)) < x9_3 then (wrap64 (x15_3 - x13_1)) else x9_3) = ji41 := hji41
                        obtain ⟨ji42, hji42⟩ : ∃ j_ : Int, (mx x10_3 (wrap64 (x15_3 - x13_1))) = j_ := ⟨_, rfl⟩
                        replace H : (biremelaw14_AffineTried.l2 k3 (wrap64 (t168 - 45)) x7_2 x8_2 ji41 ji42 x11_2 x12_2 x13_1 (wrap64 (x15_3 + 1)) t161 t162 t163 t164 t165 t166) = some r := by first | (rw [hji42] at H; exact H) | (simp only [hji42] at H ⊢; exact H)
                        (try rw [hji42] at A37)
                        (try rw [hji42] at A38)
                        have hji42_ : (if x10_3 < (wrap64 (x15_3 - x13_1)) then (wrap64 (x15_3 - x13_1)) else x10_3) = ji42 := hji42
                        have H' := Aside0.mk H
                        clear H
                        have hnb43 := NB167_160.out
                        have hnc43 := NB160_167.out
                        have hcz44_0 : wr.cell? ⟨gb167, 0, none⟩ = some (.int .i64 t161) := (blk_cell BK167.out 0).trans rfl
                        have hcz44_1 : wr.cell? ⟨gb167, 1, none⟩ = some (.int .i64 t162) := (blk_cell BK167.out 1).trans rfl
                        have hcz44_2 : wr.cell? ⟨gb167, 2, none⟩ = some (.int .i64 t163) := (blk_cell BK167.out 2).trans rfl
                        have hcz44_3 : wr.cell? ⟨gb167, 3, none⟩ = some (.int .i64 t164) := (blk_cell BK167.out 3).trans rfl
                        have hcz44_4 : wr.cell? ⟨gb167, 4, none⟩ = some (.int .i64 t165) := (blk_cell BK167.out 4).trans rfl
                        have hcz44_5 : wr.cell? ⟨gb167, 5, none⟩ = some (.int .i64 t166) := (blk_cell BK167.out 5).trans rfl
                        have hfz44_0 := blk_frozen BK167.out 0
                        have hfz44_1 := blk_frozen BK167.out 1
                        have hfz44_2 := blk_frozen BK167.out 2
                        have hfz44_3 := blk_frozen BK167.out 3
                        have hfz44_4 := blk_frozen BK167.out 4
                        have hfz44_5 := blk_frozen BK167.out 5
                        try go_wp2
                        have n0_ := Aside0.mk (blk_drew BK160.out)
                        have n1_ := Aside0.mk (blk_drew BK167.out)
                        have n2_ := Aside0.mk (below_drew1 HB.out)
                        clear BK160
                        clear BK167
                        clear HB
                        have BK160 := n0_
                        have BK167 := n1_
                        have HB := n2_
                        clear n0_ n1_ n2_
                        refine start_ (n := 9) (S := fun w' => w'.cell? ⟨gb167, 0, none⟩ = some (.int .i64 t161) ∧ w'.cell? ⟨gb167, 1, none⟩ = some (.int .i64 t162) ∧ w'.cell? ⟨gb167, 2, none⟩ = some (.int .i64 t163) ∧ w'.cell? ⟨gb167, 3, none⟩ = some (.int .i64 t164) ∧ w'.cell? ⟨gb167, 4, none⟩ = some (.int .i64 t165) ∧ w'.cell? ⟨gb167, 5, none⟩ = some (.int .i64 t166)) (ds := []) #[false, false, false, false, false, false, false, false, false] (by kernel_rfl) rfl rfl ⟨(blk_cell BK167.out 0).trans rfl, (blk_cell BK167.out 1).trans rfl, (blk_cell BK167.out 2).trans rfl, (blk_cell BK167.out 3).trans rfl, (blk_cell BK167.out 4).trans rfl, (blk_cell BK167.out 5).trans rfl⟩ (fun hHeld => ?_); refine with_tabW biremelaw14_AffineTried.tab21 biremelaw14_AffineTried.bits21 (fun HT_ HW_ => ?_)
                        generalize wr.drew = w45 at BK160 BK167 HB hHeld ⊢
                        refine pure_ (i := 0) (N := some 67) (v := ?_) (a' := ?_) #[true, false, false, false, false, false, false, false, false] rfl rfl (any_of HT_.out (by kernel_rfl)) (fun _ _ _ h => h) (Or.inl ⟨by rfl, ?_⟩) ?_ ?_
                        rotate_left
                        · intro w'
                          go_simp
                          with_reducible rfl
                        rotate_left
                        · simp only [Act.put, List.setIfInBounds_toArray, List.set_cons_zero, List.set_cons_succ, i64_w, i32_w]
                          rfl
                        refine pure_ (i := 2) (N := some 69) (v := ?_) (a' := ?_) #[true, false, true, false, false, false, false, false, false] rfl rfl (any_of HT_.out (by kernel_rfl)) (fun _ _ _ h => h) (Or.inl ⟨by rfl, ?_⟩) ?_ ?_
                        rotate_left
                        · intro w'
                          go_simp
                          with_reducible rfl
                        rotate_left
                        · simp only [Act.put, List.setIfInBounds_toArray, List.set_cons_zero, List.set_cons_succ, i64_w, i32_w]
                          rfl
                        refine pure_ (i := 4) (N := some 71) (v := ?_) (a' := ?_) #[true, false, true, false, true, false, false, false, false] rfl rfl (any_of HT_.out (by kernel_rfl)) (fun _ _ _ h => h) (Or.inl ⟨by rfl, ?_⟩) ?_ ?_
                        rotate_left
                        · intro w'
                          go_simp
                          with_reducible rfl
                        rotate_left
                        · simp only [Act.put, List.setIfInBounds_toArray, List.set_cons_zero, List.set_cons_succ, i64_w, i32_w]
                          rfl
                        refine pure_ (i := 6) (N := some 73) (v := ?_) (a' := ?_) #[true, false, true, false, true, false, true, false, false] rfl rfl (any_of HT_.out (by kernel_rfl)) (fun _ _ _ h => h) (Or.inl ⟨by rfl, ?_⟩) ?_ ?_
                        rotate_left
                        · intro w'
                          go_simp
                          with_reducible rfl
                        rotate_left
                        · simp only [Act.put, List.setIfInBounds_toArray, List.set_cons_zero, List.set_cons_succ, i64_w, i32_w]
                          rfl
                        refine take_ (i := 1) (N := some 68) (v := ?_) (a' := ?_) #[true, true, true, false, true, false, true, false, false] rfl rfl (take_ofW HT_.out HW_.out (by kernel_rfl)) (fun _ _ _ h => h) (Or.inl ⟨by rfl, ?_⟩) hHeld ?_ ?_
                        rotate_left
                        · rintro w' ⟨s0, s1, s2, s3, s4, s5⟩
                          go_simp
                          with_reducible rfl
                        rotate_left
                        · simp only [Act.put, List.setIfInBounds_toArray, List.set_cons_zero, List.set_cons_succ, i64_w, i32_w]
                          rfl
                        refine take_ (i := 5) (N := some 72) (v := ?_) (a' := ?_) #[true, true, true, false, true, true, true, false, false] rfl rfl (take_ofW HT_.out HW_.out (by kernel_rfl)) (fun _ _ _ h => h) (Or.inl ⟨by rfl, ?_⟩) hHeld ?_ ?_
                        rotate_left
                        · rintro w' ⟨s0, s1, s2, s3, s4, s5⟩
                          go_simp
                          with_reducible rfl
                        rotate_left
                        · simp only [Act.put, List.setIfInBounds_toArray, List.set_cons_zero, List.set_cons_succ, i64_w, i32_w]
                          rfl
                        refine one_ (i := 3) (N := some 70) #[true, true, true, true, true, true, true, false, false] rfl rfl (one_of HT_.out (by kernel_rfl)) (by decide) (fun K hK => ?_)
                        refine goes_ Try.func32 (by kernel_rfl) rfl #[.agg #[.int .i64 t161, .int .i64 t162], .int .i64 x13_1] (by rfl) rfl rfl (by (try simp only [List.map_toArray, List.map_cons, List.map_nil]); first | done | rfl | (simp only [List.length_drop, List.length_take]; rfl)) ?_
                        with_reducible refine (biremelaw14_at.calls t161 t162 x13_1 t171 _ A37.out).mono ?_
                        rintro e w46 ⟨rfl, hb⟩
                        refine ⟨_, rfl, ?_⟩
                        have n0_ := Aside0.mk (blk_below (g := gb160) (o := .cells #[.int .i64 a0_0, .int .i64 a0_1, .int .i64 a0_2, .int .i64 a0_3, .int .i64 a0_4, .int .i64 a0_5] 35 (0, 0)) (by (with_reducible repeat (first | refine blk_drewN ?_ _ | refine blk_drew ?_ | refine blk_alloc ?_ _)); exact BK160.out) hb)
                        have n1_ := Aside0.mk (blk_below (g := gb167) (o := .cells #[.int .i64 t161, .int .i64 t162, .int .i64 t163, .int .i64 t164, .int .i64 t165, .int .i64 t166] 35 (0, 0)) (by (with_reducible repeat (first | refine blk_drewN ?_ _ | refine blk_drew ?_ | refine blk_alloc ?_ _)); exact BK167.out) hb)
                        have n2_ := Aside0.mk (below_step (by repeat (first | (with_reducible first | exact HB.out | apply below_alloc | apply pw_below_drewN | apply below_drew1 | refine below_set ?_ GE160.out | refine below_set ?_ GE167.out) | exact HB.out)) hb)
                        clear BK160
                        clear BK167
                        clear HB
                        have BK160 := n0_
                        have BK167 := n1_
                        have HB := n2_
                        clear n0_ n1_ n2_
                        (try clear hb)
                        (try clear hb2)
                        (try clear hk)
                        (try clear hi)
                        refine hK.out _ _ ⟨(blk_cell BK167.out 0).trans rfl, (blk_cell BK167.out 1).trans rfl, (blk_cell BK167.out 2).trans rfl, (blk_cell BK167.out 3).trans rfl, (blk_cell BK167.out 4).trans rfl, (blk_cell BK167.out 5).trans rfl⟩ (fun hHeld => ?_)
                        clear hK K
                        refine norm_ (a' := ?_) ?_ ?_
                        rotate_left
                        · show Act.put _ (some 70) _ = _
                          simp only [Act.put, List.setIfInBounds_toArray, List.set_cons_zero, List.set_cons_succ, i64_w, i32_w]
                          rfl
                        refine one_ (i := 7) (N := some 74) #[true, true, true, true, true, true, true, true, false] rfl rfl (one_of HT_.out (by kernel_rfl)) (by decide) (fun K hK => ?_)
                        refine goes_ Try.func32 (by kernel_rfl) rfl #[.agg #[.int .i64 t163, .int .i64 t164], .int .i64 x15_3] (by rfl) rfl rfl (by (try simp only [List.map_toArray, List.map_cons, List.map_nil]); first | done | rfl | (simp only [List.length_drop, List.length_take]; rfl)) ?_
                        with_reducible refine (biremelaw14_at.calls t163 t164 x15_3 t172 _ A38.out).mono ?_
                        rintro e w47 ⟨rfl, hb⟩
                        refine ⟨_, rfl, ?_⟩
                        have n0_ := Aside0.mk (blk_below (g := gb160) (o := .cells #[.int .i64 a0_0, .int .i64 a0_1, .int .i64 a0_2, .int .i64 a0_3, .int .i64 a0_4, .int .i64 a0_5] 35 (0, 0)) (by (with_reducible repeat (first | refine blk_drewN ?_ _ | refine blk_drew ?_ | refine blk_alloc ?_ _)); exact BK160.out) hb)
                        have n1_ := Aside0.mk (blk_below (g := gb167) (o := .cells #[.int .i64 t161, .int .i64 t162, .int .i64 t163, .int .i64 t164, .int .i64 t165, .int .i64 t166] 35 (0, 0)) (by (with_reducible repeat (first | refine blk_drewN ?_ _ | refine blk_drew ?_ | refine blk_alloc ?_ _)); exact BK167.out) hb)
                        have n2_ := Aside0.mk (below_step (by repeat (first | (with_reducible first | exact HB.out | apply below_alloc | apply pw_below_drewN | apply below_drew1 | refine below_set ?_ GE160.out | refine below_set ?_ GE167.out) | exact HB.out)) hb)
                        clear BK160
                        clear BK167
                        clear HB
                        have BK160 := n0_
                        have BK167 := n1_
                        have HB := n2_
                        clear n0_ n1_ n2_
                        (try clear hb)
                        (try clear hb2)
                        (try clear hk)
                        (try clear hi)
                        refine hK.out _ _ ⟨(blk_cell BK167.out 0).trans rfl, (blk_cell BK167.out 1).trans rfl, (blk_cell BK167.out 2).trans rfl, (blk_cell BK167.out 3).trans rfl, (blk_cell BK167.out 4).trans rfl, (blk_cell BK167.out 5).trans rfl⟩ (fun hHeld => ?_)
                        clear hK K
                        refine norm_ (a' := ?_) ?_ ?_
                        rotate_left
                        · show Act.put _ (some 74) _ = _
                          simp only [Act.put, List.setIfInBounds_toArray, List.set_cons_zero, List.set_cons_succ, i64_w, i32_w]
                          rfl
                        refine pure_ (i := 8) (N := some 75) (v := ?_) (a' := ?_) #[true, true, true, true, true, true, true, true, true] rfl rfl (any_of HT_.out (by kernel_rfl)) (fun _ _ _ h => h) (Or.inl ⟨by rfl, ?_⟩) ?_ ?_
                        rotate_left
                        · intro w'
                          go_simp
                          with_reducible rfl
                        rotate_left
                        · simp only [Act.put, List.setIfInBounds_toArray, List.set_cons_zero, List.set_cons_succ, i64_w, i32_w]
                          rfl
                        refine done_ (done_of HT_.out (by kernel_rfl)) ?_
                        try go_wp2
                        go_roundg k3
                        case measure => have := HK1.out; have := HK2.out; have := HK3.out; omega
                        case rel => exact ⟨(ji41), (ji42), (wrap64 (x15_3 + 1)), (by first | rfl | (simp; done) | (simp only [← hji41] <;> (first | rfl | simp)) | (simp [*]; done)), (by first | rfl | (simp; done) | (simp only [← hji42] <;> (first | rfl | simp)) | (simp [*]; done)), (by first | rfl | (simp; done) | (simp [*]; done)), H', ⟨by have := HK1.out; have := HK2.out; have := HK3.out; omega⟩, ⟨by (with_reducible repeat (first | refine blk_drewN ?_ _ | refine blk_drew ?_ | refine blk_alloc ?_ _)); exact BK160.out⟩, ⟨by (with_reducible repeat (first | refine blk_drewN ?_ _ | refine blk_drew ?_ | refine blk_alloc ?_ _)); exact BK167.out⟩, ⟨by repeat (first | (with_reducible first | exact HB.out | apply below_alloc | apply pw_below_drewN | apply below_drew1 | refine below_set ?_ GE160.out | refine below_set ?_ GE167.out) | exact HB.out)⟩⟩
                      · rw [if_neg c40] at H
                        have c40b0 : decide ((wrap64 (t168 - 45)) ≤ (wrap64 (x15_3 - x13_1))) = false := decide_eq_false c40
                        clear c40
                        obtain ⟨ji48, hji48⟩ : ∃ j_ : Int, (mx x10_3 (wrap64 (x15_3 - x13_1))) = j_ := ⟨_, rfl⟩
                        replace H : (biremelaw14_AffineTried.l2 k3 (wrap64 (t168 - 45)) x7_2 x8_2 x9_3 ji48 x11_2 x12_2 x13_1 (wrap64 (x15_3 + 1)) t161 t162 t163 t164 t165 t166) = some r := by first | (rw [hji48] at H; exact H) | (simp only [hji48] at H ⊢; exact H)
                        (try rw [hji48] at A37)
                        (try rw [hji48] at A38)
                        have hji48_ : (if x10_3 < (wrap64 (x15_3 - x13_1)) then (wrap64 (x15_3 - x13_1)) else x10_3) = ji48 := hji48
                        have H' := Aside0.mk H
                        clear H
                        have hnb49 := NB167_160.out
                        have hnc49 := NB160_167.out
                        have hcz50_0 : wr.cell? ⟨gb167, 0, none⟩ = some (.int .i64 t161) := (blk_cell BK167.out 0).trans rfl
                        have hcz50_1 : wr.cell? ⟨gb167, 1, none⟩ = some (.int .i64 t162) := (blk_cell BK167.out 1).trans rfl
                        have hcz50_2 : wr.cell? ⟨gb167, 2, none⟩ = some (.int .i64 t163) := (blk_cell BK167.out 2).trans rfl
                        have hcz50_3 : wr.cell? ⟨gb167, 3, none⟩ = some (.int .i64 t164) := (blk_cell BK167.out 3).trans rfl
                        have hcz50_4 : wr.cell? ⟨gb167, 4, none⟩ = some (.int .i64 t165) := (blk_cell BK167.out 4).trans rfl
                        have hcz50_5 : wr.cell? ⟨gb167, 5, none⟩ = some (.int .i64 t166) := (blk_cell BK167.out 5).trans rfl
                        have hfz50_0 := blk_frozen BK167.out 0
                        have hfz50_1 := blk_frozen BK167.out 1
                        have hfz50_2 := blk_frozen BK167.out 2
                        have hfz50_3 := blk_frozen BK167.out 3
                        have hfz50_4 := blk_frozen BK167.out 4
                        have hfz50_5 := blk_frozen BK167.out 5
                        try go_wp2
                        have n0_ := Aside0.mk (blk_drew BK160.out)
                        have n1_ := Aside0.mk (blk_drew BK167.out)
                        have n2_ := Aside0.mk (below_drew1 HB.out)
                        clear BK160
                        clear BK167
                        clear HB
                        have BK160 := n0_
                        have BK167 := n1_
                        have HB := n2_
                        clear n0_ n1_ n2_
                        refine start_ (n := 9) (S := fun w' => w'.cell? ⟨gb167, 0, none⟩ = some (.int .i64 t161) ∧ w'.cell? ⟨gb167, 1, none⟩ = some (.int .i64 t162) ∧ w'.cell? ⟨gb167, 2, none⟩ = some (.int .i64 t163) ∧ w'.cell? ⟨gb167, 3, none⟩ = some (.int .i64 t164) ∧ w'.cell? ⟨gb167, 4, none⟩ = some (.int .i64 t165) ∧ w'.cell? ⟨gb167, 5, none⟩ = some (.int .i64 t166)) (ds := []) #[false, false, false, false, false, false, false, false, false] (by kernel_rfl) rfl rfl ⟨(blk_cell BK167.out 0).trans rfl, (blk_cell BK167.out 1).trans rfl, (blk_cell BK167.out 2).trans rfl, (blk_cell BK167.out 3).trans rfl, (blk_cell BK167.out 4).trans rfl, (blk_cell BK167.out 5).trans rfl⟩ (fun hHeld => ?_); refine with_tabW biremelaw14_AffineTried.tab21 biremelaw14_AffineTried.bits21 (fun HT_ HW_ => ?_)
                        generalize wr.drew = w51 at BK160 BK167 HB hHeld ⊢
                        refine pure_ (i := 0) (N := some 67) (v := ?_) (a' := ?_) #[true, false, false, false, false, false, false, false, false] rfl rfl (any_of HT_.out (by kernel_rfl)) (fun _ _ _ h => h) (Or.inl ⟨by rfl, ?_⟩) ?_ ?_
                        rotate_left
                        · intro w'
                          go_simp
                          with_reducible rfl
                        rotate_left
                        · simp only [Act.put, List.setIfInBounds_toArray, List.set_cons_zero, List.set_cons_succ, i64_w, i32_w]
                          rfl
                        refine pure_ (i := 2) (N := some 69) (v := ?_) (a' := ?_) #[true, false, true, false, false, false, false, false, false] rfl rfl (any_of HT_.out (by kernel_rfl)) (fun _ _ _ h => h) (Or.inl ⟨by rfl, ?_⟩) ?_ ?_
                        rotate_left
                        · intro w'
                          go_simp
                          with_reducible rfl
                        rotate_left
                        · simp only [Act.put, List.setIfInBounds_toArray, List.set_cons_zero, List.set_cons_succ, i64_w, i32_w]
                          rfl
                        refine pure_ (i := 4) (N := some 71) (v := ?_) (a' := ?_) #[true, false, true, false, true, false, false, false, false] rfl rfl (any_of HT_.out (by kernel_rfl)) (fun _ _ _ h => h) (Or.inl ⟨by rfl, ?_⟩) ?_ ?_
                        rotate_left
                        · intro w'
                          go_simp
                          with_reducible rfl
                        rotate_left
                        · simp only [Act.put, List.setIfInBounds_toArray, List.set_cons_zero, List.set_cons_succ, i64_w, i32_w]
                          rfl
                        refine pure_ (i := 6) (N := some 73) (v := ?_) (a' := ?_) #[true, false, true, false, true, false, true, false, false] rfl rfl (any_of HT_.out (by kernel_rfl)) (fun _ _ _ h => h) (Or.inl ⟨by rfl, ?_⟩) ?_ ?_
                        rotate_left
                        · intro w'
                          go_simp
                          with_reducible rfl
                        rotate_left
                        · simp only [Act.put, List.setIfInBounds_toArray, List.set_cons_zero, List.set_cons_succ, i64_w, i32_w]
                          rfl
                        refine take_ (i := 1) (N := some 68) (v := ?_) (a' := ?_) #[true, true, true, false, true, false, true, false, false] rfl rfl (take_ofW HT_.out HW_.out (by kernel_rfl)) (fun _ _ _ h => h) (Or.inl ⟨by rfl, ?_⟩) hHeld ?_ ?_
                        rotate_left
                        · rintro w' ⟨s0, s1, s2, s3, s4, s5⟩
                          go_simp
                          with_reducible rfl
                        rotate_left
                        · simp only [Act.put, List.setIfInBounds_toArray, List.set_cons_zero, List.set_cons_succ, i64_w, i32_w]
                          rfl
                        refine take_ (i := 5) (N := some 72) (v := ?_) (a' := ?_) #[true, true, true, false, true, true, true, false, false] rfl rfl (take_ofW HT_.out HW_.out (by kernel_rfl)) (fun _ _ _ h => h) (Or.inl ⟨by rfl, ?_⟩) hHeld ?_ ?_
                        rotate_left
                        · rintro w' ⟨s0, s1, s2, s3, s4, s5⟩
                          go_simp
                          with_reducible rfl
                        rotate_left
                        · simp only [Act.put, List.setIfInBounds_toArray, List.set_cons_zero, List.set_cons_succ, i64_w, i32_w]
                          rfl
                        refine one_ (i := 3) (N := some 70) #[true, true, true, true, true, true, true, false, false] rfl rfl (one_of HT_.out (by kernel_rfl)) (by decide) (fun K hK => ?_)
                        refine goes_ Try.func32 (by kernel_rfl) rfl #[.agg #[.int .i64 t161, .int .i64 t162], .int .i64 x13_1] (by rfl) rfl rfl (by (try simp only [List.map_toArray, List.map_cons, List.map_nil]); first | done | rfl | (simp only [List.length_drop, List.length_take]; rfl)) ?_
                        with_reducible refine (biremelaw14_at.calls t161 t162 x13_1 t171 _ A37.out).mono ?_
                        rintro e w52 ⟨rfl, hb⟩
                        refine ⟨_, rfl, ?_⟩
                        have n0_ := Aside0.mk (blk_below (g := gb160) (o := .cells #[.int .i64 a0_0, .int .i64 a0_1, .int .i64 a0_2, .int .i64 a0_3, .int .i64 a0_4, .int .i64 a0_5] 35 (0, 0)) (by (with_reducible repeat (first | refine blk_drewN ?_ _ | refine blk_drew ?_ | refine blk_alloc ?_ _)); exact BK160.out) hb)
                        have n1_ := Aside0.mk (blk_below (g := gb167) (o := .cells #[.int .i64 t161, .int .i64 t162, .int .i64 t163, .int .i64 t164, .int .i64 t165, .int .i64 t166] 35 (0, 0)) (by (with_reducible repeat (first | refine blk_drewN ?_ _ | refine blk_drew ?_ | refine blk_alloc ?_ _)); exact BK167.out) hb)
                        have n2_ := Aside0.mk (below_step (by repeat (first | (with_reducible first | exact HB.out | apply below_alloc | apply pw_below_drewN | apply below_drew1 | refine below_set ?_ GE160.out | refine below_set ?_ GE167.out) | exact HB.out)) hb)
                        clear BK160
                        clear BK167
                        clear HB
                        have BK160 := n0_
                        have BK167 := n1_
                        have HB := n2_
                        clear n0_ n1_ n2_
                        (try clear hb)
                        (try clear hb2)
                        (try clear hk)
                        (try clear hi)
                        refine hK.out _ _ ⟨(blk_cell BK167.out 0).trans rfl, (blk_cell BK167.out 1).trans rfl, (blk_cell BK167.out 2).trans rfl, (blk_cell BK167.out 3).trans rfl, (blk_cell BK167.out 4).trans rfl, (blk_cell BK167.out 5).trans rfl⟩ (fun hHeld => ?_)
                        clear hK K
                        refine norm_ (a' := ?_) ?_ ?_
                        rotate_left
                        · show Act.put _ (some 70) _ = _
                          simp only [Act.put, List.setIfInBounds_toArray, List.set_cons_zero, List.set_cons_succ, i64_w, i32_w]
                          rfl
                        refine one_ (i := 7) (N := some 74) #[true, true, true, true, true, true, true, true, false] rfl rfl (one_of HT_.out (by kernel_rfl)) (by decide) (fun K hK => ?_)
                        refine goes_ Try.func32 (by kernel_rfl) rfl #[.agg #[.int .i64 t163, .int .i64 t164], .int .i64 x15_3] (by rfl) rfl rfl (by (try simp only [List.map_toArray, List.map_cons, List.map_nil]); first | done | rfl | (simp only [List.length_drop, List.length_take]; rfl)) ?_
                        with_reducible refine (biremelaw14_at.calls t163 t164 x15_3 t172 _ A38.out).mono ?_
                        rintro e w53 ⟨rfl, hb⟩
                        refine ⟨_, rfl, ?_⟩
                        have n0_ := Aside0.mk (blk_below (g := gb160) (o := .cells #[.int .i64 a0_0, .int .i64 a0_1, .int .i64 a0_2, .int .i64 a0_3, .int .i64 a0_4, .int .i64 a0_5] 35 (0, 0)) (by (with_reducible repeat (first | refine blk_drewN ?_ _ | refine blk_drew ?_ | refine blk_alloc ?_ _)); exact BK160.out) hb)
                        have n1_ := Aside0.mk (blk_below (g := gb167) (o := .cells #[.int .i64 t161, .int .i64 t162, .int .i64 t163, .int .i64 t164, .int .i64 t165, .int .i64 t166] 35 (0, 0)) (by (with_reducible repeat (first | refine blk_drewN ?_ _ | refine blk_drew ?_ | refine blk_alloc ?_ _)); exact BK167.out) hb)
                        have n2_ := Aside0.mk (below_step (by repeat (first | (with_reducible first | exact HB.out | apply below_alloc | apply pw_below_drewN | apply below_drew1 | refine below_set ?_ GE160.out | refine below_set ?_ GE167.out) | exact HB.out)) hb)
                        clear BK160
                        clear BK167
                        clear HB
                        have BK160 := n0_
                        have BK167 := n1_
                        have HB := n2_
                        clear n0_ n1_ n2_
                        (try clear hb)
                        (try clear hb2)
                        (try clear hk)
                        (try clear hi)
                        refine hK.out _ _ ⟨(blk_cell BK167.out 0).trans rfl, (blk_cell BK167.out 1).trans rfl, (blk_cell BK167.out 2).trans rfl, (blk_cell BK167.out 3).trans rfl, (blk_cell BK167.out 4).trans rfl, (blk_cell BK167.out 5).trans rfl⟩ (fun hHeld => ?_)
                        clear hK K
                        refine norm_ (a' := ?_) ?_ ?_
                        rotate_left
                        · show Act.put _ (some 74) _ = _
                          simp only [Act.put, List.setIfInBounds_toArray, List.set_cons_zero, List.set_cons_succ, i64_w, i32_w]
                          rfl
                        refine pure_ (i := 8) (N := some 75) (v := ?_) (a' := ?_) #[true, true, true, true, true, true, true, true, true] rfl rfl (any_of HT_.out (by kernel_rfl)) (fun _ _ _ h => h) (Or.inl ⟨by rfl, ?_⟩) ?_ ?_
                        rotate_left
                        · intro w'
                          go_simp
                          with_reducible rfl
                        rotate_left
                        · simp only [Act.put, List.setIfInBounds_toArray, List.set_cons_zero, List.set_cons_succ, i64_w, i32_w]
                          rfl
                        refine done_ (done_of HT_.out (by kernel_rfl)) ?_
                        try go_wp2
                        go_roundg k3
                        case measure => have := HK1.out; have := HK2.out; have := HK3.out; omega
                        case rel => exact ⟨(x9_3), (ji48), (wrap64 (x15_3 + 1)), (by first | rfl | (simp; done) | (simp [*]; done)), (by first | rfl | (simp; done) | (simp only [← hji48] <;> (first | rfl | simp)) | (simp [*]; done)), (by first | rfl | (simp; done) | (simp [*]; done)), H', ⟨by have := HK1.out; have := HK2.out; have := HK3.out; omega⟩, ⟨by (with_reducible repeat (first | refine blk_drewN ?_ _ | refine blk_drew ?_ | refine blk_alloc ?_ _)); exact BK160.out⟩, ⟨by (with_reducible repeat (first | refine blk_drewN ?_ _ | refine blk_drew ?_ | refine blk_alloc ?_ _)); exact BK167.out⟩, ⟨by repeat (first | (with_reducible first | exact HB.out | apply below_alloc | apply pw_below_drewN | apply below_drew1 | refine below_set ?_ GE160.out | refine below_set ?_ GE167.out) | exact HB.out)⟩⟩
                    · rw [if_neg c39] at H
                      have c39b0 : (t171 == t172) = false := beq_eq_false_iff_ne.mpr c39
                      have c39b1 : (t171 != t172) = true := bne_iff_ne.mpr c39
                      have H' := Aside0.mk H
                      clear H
                      have hnb54 := NB167_160.out
                      have hnc54 := NB160_167.out
                      have hcz55_0 : wr.cell? ⟨gb167, 0, none⟩ = some (.int .i64 t161) := (blk_cell BK167.out 0).trans rfl
                      have hcz55_1 : wr.cell? ⟨gb167, 1, none⟩ = some (.int .i64 t162) := (blk_cell BK167.out 1).trans rfl
                      have hcz55_2 : wr.cell? ⟨gb167, 2, none⟩ = some (.int .i64 t163) := (blk_cell BK167.out 2).trans rfl
                      have hcz55_3 : wr.cell? ⟨gb167, 3, none⟩ = some (.int .i64 t164) := (blk_cell BK167.out 3).trans rfl
                      have hcz55_4 : wr.cell? ⟨gb167, 4, none⟩ = some (.int .i64 t165) := (blk_cell BK167.out 4).trans rfl
                      have hcz55_5 : wr.cell? ⟨gb167, 5, none⟩ = some (.int .i64 t166) := (blk_cell BK167.out 5).trans rfl
                      have hfz55_0 := blk_frozen BK167.out 0
                      have hfz55_1 := blk_frozen BK167.out 1
                      have hfz55_2 := blk_frozen BK167.out 2
                      have hfz55_3 := blk_frozen BK167.out 3
                      have hfz55_4 := blk_frozen BK167.out 4
                      have hfz55_5 := blk_frozen BK167.out 5
                      try go_wp2
                      have n0_ := Aside0.mk (blk_drew BK160.out)
                      have n1_ := Aside0.mk (blk_drew BK167.out)
                      have n2_ := Aside0.mk (below_drew1 HB.out)
                      clear BK160
                      clear BK167
                      clear HB
                      have BK160 := n0_
                      have BK167 := n1_
                      have HB := n2_
                      clear n0_ n1_ n2_
                      refine start_ (n := 9) (S := fun w' => w'.cell? ⟨gb167, 0, none⟩ = some (.int .i64 t161) ∧ w'.cell? ⟨gb167, 1, none⟩ = some (.int .i64 t162) ∧ w'.cell? ⟨gb167, 2, none⟩ = some (.int .i64 t163) ∧ w'.cell? ⟨gb167, 3, none⟩ = some (.int .i64 t164) ∧ w'.cell? ⟨gb167, 4, none⟩ = some (.int .i64 t165) ∧ w'.cell? ⟨gb167, 5, none⟩ = some (.int .i64 t166)) (ds := []) #[false, false, false, false, false, false, false, false, false] (by kernel_rfl) rfl rfl ⟨(blk_cell BK167.out 0).trans rfl, (blk_cell BK167.out 1).trans rfl, (blk_cell BK167.out 2).trans rfl, (blk_cell BK167.out 3).trans rfl, (blk_cell BK167.out 4).trans rfl, (blk_cell BK167.out 5).trans rfl⟩ (fun hHeld => ?_); refine with_tabW biremelaw14_AffineTried.tab21 biremelaw14_AffineTried.bits21 (fun HT_ HW_ => ?_)
                      generalize wr.drew = w56 at BK160 BK167 HB hHeld ⊢
                      refine pure_ (i := 0) (N := some 67) (v := ?_) (a' := ?_) #[true, false, false, false, false, false, false, false, false] rfl rfl (any_of HT_.out (by kernel_rfl)) (fun _ _ _ h => h) (Or.inl ⟨by rfl, ?_⟩) ?_ ?_
                      rotate_left
                      · intro w'
                        go_simp
                        with_reducible rfl
                      rotate_left
                      · simp only [Act.put, List.setIfInBounds_toArray, List.set_cons_zero, List.set_cons_succ, i64_w, i32_w]
                        rfl
                      refine pure_ (i := 2) (N := some 69) (v := ?_) (a' := ?_) #[true, false, true, false, false, false, false, false, false] rfl rfl (any_of HT_.out (by kernel_rfl)) (fun _ _ _ h => h) (Or.inl ⟨by rfl, ?_⟩) ?_ ?_
                      rotate_left
                      · intro w'
                        go_simp
                        with_reducible rfl
                      rotate_left
                      · simp only [Act.put, List.setIfInBounds_toArray, List.set_cons_zero, List.set_cons_succ, i64_w, i32_w]
                        rfl
                      refine pure_ (i := 4) (N := some 71) (v := ?_) (a' := ?_) #[true, false, true, false, true, false, false, false, false] rfl rfl (any_of HT_.out (by kernel_rfl)) (fun _ _ _ h => h) (Or.inl ⟨by rfl, ?_⟩) ?_ ?_
                      rotate_left
                      · intro w'
                        go_simp
                        with_reducible rfl
                      rotate_left
                      · simp only [Act.put, List.setIfInBounds_toArray, List.set_cons_zero, List.set_cons_succ, i64_w, i32_w]
                        rfl
                      refine pure_ (i := 6) (N := some 73) (v := ?_) (a' := ?_) #[true, false, true, false, true, false, true, false, false] rfl rfl (any_of HT_.out (by kernel_rfl)) (fun _ _ _ h => h) (Or.inl ⟨by rfl, ?_⟩) ?_ ?_
                      rotate_left
                      · intro w'
                        go_simp
                        with_reducible rfl
                      rotate_left
                      · simp only [Act.put, List.setIfInBounds_toArray, List.set_cons_zero, List.set_cons_succ, i64_w, i32_w]
                        rfl
                      refine take_ (i := 1) (N := some 68) (v := ?_) (a' := ?_) #[true, true, true, false, true, false, true, false, false] rfl rfl (take_ofW HT_.out HW_.out (by kernel_rfl)) (fun _ _ _ h => h) (Or.inl ⟨by rfl, ?_⟩) hHeld ?_ ?_
                      rotate_left
                      · rintro w' ⟨s0, s1, s2, s3, s4, s5⟩
                        go_simp
                        with_reducible rfl
                      rotate_left
                      · simp only [Act.put, List.setIfInBounds_toArray, List.set_cons_zero, List.set_cons_succ, i64_w, i32_w]
                        rfl
                      refine take_ (i := 5) (N := some 72) (v := ?_) (a' := ?_) #[true, true, true, false, true, true, true, false, false] rfl rfl (take_ofW HT_.out HW_.out (by kernel_rfl)) (fun _ _ _ h => h) (Or.inl ⟨by rfl, ?_⟩) hHeld ?_ ?_
                      rotate_left
                      · rintro w' ⟨s0, s1, s2, s3, s4, s5⟩
                        go_simp
                        with_reducible rfl
                      rotate_left
                      · simp only [Act.put, List.setIfInBounds_toArray, List.set_cons_zero, List.set_cons_succ, i64_w, i32_w]
                        rfl
                      refine one_ (i := 3) (N := some 70) #[true, true, true, true, true, true, true, false, false] rfl rfl (one_of HT_.out (by kernel_rfl)) (by decide) (fun K hK => ?_)
                      refine goes_ Try.func32 (by kernel_rfl) rfl #[.agg #[.int .i64 t161, .int .i64 t162], .int .i64 x13_1] (by rfl) rfl rfl (by (try simp only [List.map_toArray, List.map_cons, List.map_nil]); first | done | rfl | (simp only [List.length_drop, List.length_take]; rfl)) ?_
                      with_reducible refine (biremelaw14_at.calls t161 t162 x13_1 t171 _ A37.out).mono ?_
                      rintro e w57 ⟨rfl, hb⟩
                      refine ⟨_, rfl, ?_⟩
                      have n0_ := Aside0.mk (blk_below (g := gb160) (o := .cells #[.int .i64 a0_0, .int .i64 a0_1, .int .i64 a0_2, .int .i64 a0_3, .int .i64 a0_4, .int .i64 a0_5] 35 (0, 0)) (by (with_reducible repeat (first | refine blk_drewN ?_ _ | refine blk_drew ?_ | refine blk_alloc ?_ _)); exact BK160.out) hb)
                      have n1_ := Aside0.mk (blk_below (g := gb167) (o := .cells #[.int .i64 t161, .int .i64 t162, .int .i64 t163, .int .i64 t164, .int .i64 t165, .int .i64 t166] 35 (0, 0)) (by (with_reducible repeat (first | refine blk_drewN ?_ _ | refine blk_drew ?_ | refine blk_alloc ?_ _)); exact BK167.out) hb)
                      have n2_ := Aside0.mk (below_step (by repeat (first | (with_reducible first | exact HB.out | apply below_alloc | apply pw_below_drewN | apply below_drew1 | refine below_set ?_ GE160.out | refine below_set ?_ GE167.out) | exact HB.out)) hb)
                      clear BK160
                      clear BK167
                      clear HB
                      have BK160 := n0_
                      have BK167 := n1_
                      have HB := n2_
                      clear n0_ n1_ n2_
                      (try clear hb)
                      (try clear hb2)
                      (try clear hk)
                      (try clear hi)
                      refine hK.out _ _ ⟨(blk_cell BK167.out 0).trans rfl, (blk_cell BK167.out 1).trans rfl, (blk_cell BK167.out 2).trans rfl, (blk_cell BK167.out 3).trans rfl, (blk_cell BK167.out 4).trans rfl, (blk_cell BK167.out 5).trans rfl⟩ (fun hHeld => ?_)
                      clear hK K
                      refine norm_ (a' := ?_) ?_ ?_
                      rotate_left
                      · show Act.put _ (some 70) _ = _
                        simp only [Act.put, List.setIfInBounds_toArray, List.set_cons_zero, List.set_cons_succ, i64_w, i32_w]
                        rfl
                      refine one_ (i := 7) (N := some 74) #[true, true, true, true, true, true, true, true, false] rfl rfl (one_of HT_.out (by kernel_rfl)) (by decide) (fun K hK => ?_)
                      refine goes_ Try.func32 (by kernel_rfl) rfl #[.agg #[.int .i64 t163, .int .i64 t164], .int .i64 x15_3] (by rfl) rfl rfl (by (try simp only [List.map_toArray, List.map_cons, List.map_nil]); first | done | rfl | (simp only [List.length_drop, List.length_take]; rfl)) ?_
                      with_reducible refine (biremelaw14_at.calls t163 t164 x15_3 t172 _ A38.out).mono ?_
                      rintro e w58 ⟨rfl, hb⟩
                      refine ⟨_, rfl, ?_⟩
                      have n0_ := Aside0.mk (blk_below (g := gb160) (o := .cells #[.int .i64 a0_0, .int .i64 a0_1, .int .i64 a0_2, .int .i64 a0_3, .int .i64 a0_4, .int .i64 a0_5] 35 (0, 0)) (by (with_reducible repeat (first | refine blk_drewN ?_ _ | refine blk_drew ?_ | refine blk_alloc ?_ _)); exact BK160.out) hb)
                      have n1_ := Aside0.mk (blk_below (g := gb167) (o := .cells #[.int .i64 t161, .int .i64 t162, .int .i64 t163, .int .i64 t164, .int .i64 t165, .int .i64 t166] 35 (0, 0)) (by (with_reducible repeat (first | refine blk_drewN ?_ _ | refine blk_drew ?_ | refine blk_alloc ?_ _)); exact BK167.out) hb)
                      have n2_ := Aside0.mk (below_step (by repeat (first | (with_reducible first | exact HB.out | apply below_alloc | apply pw_below_drewN | apply below_drew1 | refine below_set ?_ GE160.out | refine below_set ?_ GE167.out) | exact HB.out)) hb)
                      clear BK160
                      clear BK167
                      clear HB
                      have BK160 := n0_
                      have BK167 := n1_
                      have HB := n2_
                      clear n0_ n1_ n2_
                      (try clear hb)
                      (try clear hb2)
                      (try clear hk)
                      (try clear hi)
                      refine hK.out _ _ ⟨(blk_cell BK167.out 0).trans rfl, (blk_cell BK167.out 1).trans rfl, (blk_cell BK167.out 2).trans rfl, (blk_cell BK167.out 3).trans rfl, (blk_cell BK167.out 4).trans rfl, (blk_cell BK167.out 5).trans rfl⟩ (fun hHeld => ?_)
                      clear hK K
                      refine norm_ (a' := ?_) ?_ ?_
                      rotate_left
                      · show Act.put _ (some 74) _ = _
                        simp only [Act.put, List.setIfInBounds_toArray, List.set_cons_zero, List.set_cons_succ, i64_w, i32_w]
                        rfl
                      refine pure_ (i := 8) (N := some 75) (v := ?_) (a' := ?_) #[true, true, true, true, true, true, true, true, true] rfl rfl (any_of HT_.out (by kernel_rfl)) (fun _ _ _ h => h) (Or.inl ⟨by rfl, ?_⟩) ?_ ?_
                      rotate_left
                      · intro w'
                        go_simp
                        with_reducible rfl
                      rotate_left
                      · simp only [Act.put, List.setIfInBounds_toArray, List.set_cons_zero, List.set_cons_succ, i64_w, i32_w]
                        rfl
                      refine done_ (done_of HT_.out (by kernel_rfl)) ?_
                      try go_wp2
                      go_roundg k3
                      case measure => have := HK1.out; have := HK2.out; have := HK3.out; omega
                      case rel => exact ⟨(x9_3), (x10_3), (wrap64 (x15_3 + 1)), (by first | rfl | (simp; done) | (simp [*]; done)), (by first | rfl | (simp; done) | (simp [*]; done)), (by first | rfl | (simp; done) | (simp [*]; done)), H', ⟨by have := HK1.out; have := HK2.out; have := HK3.out; omega⟩, ⟨by (with_reducible repeat (first | refine blk_drewN ?_ _ | refine blk_drew ?_ | refine blk_alloc ?_ _)); exact BK160.out⟩, ⟨by (with_reducible repeat (first | refine blk_drewN ?_ _ | refine blk_drew ?_ | refine blk_alloc ?_ _)); exact BK167.out⟩, ⟨by repeat (first | (with_reducible first | exact HB.out | apply below_alloc | apply pw_below_drewN | apply below_drew1 | refine below_set ?_ GE160.out | refine below_set ?_ GE167.out) | exact HB.out)⟩⟩
                  · rw [if_neg c36] at H
                    have c36b0 : decide (x15_3 < t165) = false := decide_eq_false c36
                    clear c36
                    have H' := Aside0.mk H
                    clear H
                    have hnb59 := NB167_160.out
                    have hnc59 := NB160_167.out
                    have hcz60_0 : wr.cell? ⟨gb167, 0, none⟩ = some (.int .i64 t161) := (blk_cell BK167.out 0).trans rfl
                    have hcz60_1 : wr.cell? ⟨gb167, 1, none⟩ = some (.int .i64 t162) := (blk_cell BK167.out 1).trans rfl
                    have hcz60_2 : wr.cell? ⟨gb167, 2, none⟩ = some (.int .i64 t163) := (blk_cell BK167.out 2).trans rfl
                    have hcz60_3 : wr.cell? ⟨gb167, 3, none⟩ = some (.int .i64 t164) := (blk_cell BK167.out 3).trans rfl
                    have hcz60_4 : wr.cell? ⟨gb167, 4, none⟩ = some (.int .i64 t165) := (blk_cell BK167.out 4).trans rfl
                    have hcz60_5 : wr.cell? ⟨gb167, 5, none⟩ = some (.int .i64 t166) := (blk_cell BK167.out 5).trans rfl
                    have hfz60_0 := blk_frozen BK167.out 0
                    have hfz60_1 := blk_frozen BK167.out 1
                    have hfz60_2 := blk_frozen BK167.out 2
                    have hfz60_3 := blk_frozen BK167.out 3
                    have hfz60_4 := blk_frozen BK167.out 4
                    have hfz60_5 := blk_frozen BK167.out 5
                    go_wp2
                    go_roundg k3
                    case measure => have := HK1.out; have := HK2.out; have := HK3.out; omega
                    case rel => exact ⟨(x7_2), (x8_2), (x9_3), (x10_3), (x11_2), (x12_2), (wrap64 (x13_1 + 1)), (by first | rfl | (simp; done) | (simp [*]; done)), (by first | rfl | (simp; done) | (simp [*]; done)), (by first | rfl | (simp; done) | (simp [*]; done)), (by first | rfl | (simp; done) | (simp [*]; done)), (by first | rfl | (simp; done) | (simp [*]; done)), (by first | rfl | (simp; done) | (simp [*]; done)), (by first | rfl | (simp; done) | (simp [*]; done)), H', ⟨by have := HK1.out; have := HK2.out; have := HK3.out; omega⟩, ⟨by (with_reducible repeat (first | refine blk_drewN ?_ _ | refine blk_drew ?_ | refine blk_alloc ?_ _)); exact BK160.out⟩, ⟨by (with_reducible repeat (first | refine blk_drewN ?_ _ | refine blk_drew ?_ | refine blk_alloc ?_ _)); exact BK167.out⟩, ⟨by repeat (first | (with_reducible first | exact HB.out | apply below_alloc | apply pw_below_drewN | apply below_drew1 | refine below_set ?_ GE160.out | refine below_set ?_ GE167.out) | exact HB.out)⟩⟩
      · rw [if_neg c11] at H
        have c11b0 : decide (x13_1 < t165) = false := decide_eq_false c11
        clear c11
        replace H := Option.bind_eq_some_iff.mp H
        obtain ⟨⟨t173, t174, t175, t176⟩, A610, H⟩ := H
        replace H : ((affine_Count.f k1 t161 t162 t163 t164 t165 t166).bind fun bt177 => ((affine_Ahead.f k1 t161 t162 t163 t164 t165 (wrap64 (t168 - 45))).bind fun bt179 => ((affine_Behind.f k1 t161 t162 t163 t164 t165).bind fun bt182 => (if t176 = 0 then (if bt177.2 = 0 then (if bt179.2.2 = 0 then (if bt182.2.2 = 0 then (if (t175 != x7_1) = true then (some false) else (if bt177.1 = x8_1 then (if t173 = x11_1 then (if t174 = x12_1 then (if (bt179.2.1 == (decide (x9_1 < 100))) = true then (if bt179.2.1 = true then (if bt179.1 = x9_1 then (if (bt182.2.1 == (decide (x10_1 > (-100)))) = true then (if bt182.2.1 = true then (if bt182.1 = x10_1 then ((biremelaw14_alive.f k1).bind fun t185 => (some t185)) else (some false)) else ((biremelaw14_alive.f k1).bind fun t186 => (some t186))) else (some false)) else (some false)) else (if (bt182.2.1 == (decide (x10_1 > (-100)))) = true then (if bt182.2.1 = true then (if bt182.1 = x10_1 then ((biremelaw14_alive.f k1).bind fun t187 => (some t187)) else (some false)) else ((biremelaw14_alive.f k1).bind fun t188 => (some t188))) else (some false))) else (some false)) else (some false)) else (some false)) else (some false))) else (some false)) else (some false)) else (some false)) else (some false))))) = some r := H
        have A61 := Aside0.mk A610
        clear A610
        replace H := Option.bind_eq_some_iff.mp H
        obtain ⟨⟨t177, t178⟩, A620, H⟩ := H
        replace H : ((affine_Ahead.f k1 t161 t162 t163 t164 t165 (wrap64 (t168 - 45))).bind fun bt179 => ((affine_Behind.f k1 t161 t162 t163 t164 t165).bind fun bt182 => (if t176 = 0 then (if t178 = 0 then (if bt179.2.2 = 0 then (if bt182.2.2 = 0 then (if (t175 != x7_1) = true then (some false) else (if t177 = x8_1 then (if t173 = x11_1 then (if t174 = x12_1 then (if (bt179.2.1 == (decide (x9_1 < 100))) = true then (if bt179.2.1 = true then (if bt179.1 = x9_1 then (if (bt182.2.1 == (decide (x10_1 > (-100)))) = true then (if bt182.2.1 = true then (if bt182.1 = x10_1 then ((biremelaw14_alive.f k1).bind fun t185 => (some t185)) else (some false)) else ((biremelaw14_alive.f k1).bind fun t186 => (some t186))) else (some false)) else (some false)) else (if (bt182.2.1 == (decide (x10_1 > (-100)))) = true then (if bt182.2.1 = true then (if bt182.1 = x10_1 then ((biremelaw14_alive.f k1).bind fun t187 => (some t187)) else (some false)) else ((biremelaw14_alive.f k1).bind fun t188 => (some t188))) else (some false))) else (some false)) else (some false)) else (some false)) else (some false))) else (some false)) else (some false)) else (some false)) else (some false)))) = some r := H
        have A62 := Aside0.mk A620
        clear A620
        replace H := Option.bind_eq_some_iff.mp H
        obtain ⟨⟨t179, t180, t181⟩, A630, H⟩ := H
        replace H : ((affine_Behind.f k1 t161 t162 t163 t164 t165).bind fun bt182 => (if t176 = 0 then (if t178 = 0 then (if t181 = 0 then (if bt182.2.2 = 0 then (if (t175 != x7_1) = true then (some false) else (if t177 = x8_1 then (if t173 = x11_1 then (if t174 = x12_1 then (if (t180 == (decide (x9_1 < 100))) = true then (if t180 = true then (if t179 = x9_1 then (if (bt182.2.1 == (decide (x10_1 > (-100)))) = true then (if bt182.2.1 = true then (if bt182.1 = x10_1 then ((biremelaw14_alive.f k1).bind fun t185 => (some t185)) else (some false)) else ((biremelaw14_alive.f k1).bind fun t186 => (some t186))) else (some false)) else (some false)) else (if (bt182.2.1 == (decide (x10_1 > (-100)))) = true then (if bt182.2.1 = true then (if bt182.1 = x10_1 then ((biremelaw14_alive.f k1).bind fun t187 => (some t187)) else (some false)) else ((biremelaw14_alive.f k1).bind fun t188 => (some t188))) else (some false))) else (some false)) else (some false)) else (some false)) else (some false))) else (some false)) else (some false)) else (some false)) else (some false))) = some r := H
        have A63 := Aside0.mk A630
        clear A630
        replace H := Option.bind_eq_some_iff.mp H
        obtain ⟨⟨t182, t183, t184⟩, A640, H⟩ := H
        replace H : (if t176 = 0 then (if t178 = 0 then (if t181 = 0 then (if t184 = 0 then (if (t175 != x7_1) = true then (some false) else (if t177 = x8_1 then (if t173 = x11_1 then (if t174 = x12_1 then (if (t180 == (decide (x9_1 < 100))) = true then (if t180 = true then (if t179 = x9_1 then (if (t183 == (decide (x10_1 > (-100)))) = true then (if t183 = true then (if t182 = x10_1 then ((biremelaw14_alive.f k1).bind fun t185 => (some t185)) else (some false)) else ((biremelaw14_alive.f k1).bind fun t186 => (some t186))) else (some false)) else (some false)) else (if (t183 == (decide (x10_1 > (-100)))) = true then (if t183 = true then (if t182 = x10_1 then ((biremelaw14_alive.f k1).bind fun t187 => (some t187)) else (some false)) else ((biremelaw14_alive.f k1).bind fun t188 => (some t188))) else (some false))) else (some false)) else (some false)) else (some false)) else (some false))) else (some false)) else (some false)) else (some false)) else (some false)) = some r := H
        have A64 := Aside0.mk A640
        clear A640
        by_cases c65 : t176 = 0
        · rw [if_pos c65] at H
          have c65b0 : (t176 == 0) = true := beq_iff_eq.mpr c65
          have c65b1 : (t176 != 0) = false := bne_eq_false_iff_eq.mpr c65
          clear c65
          by_cases c66 : t178 = 0
          · rw [if_pos c66] at H
            have c66b0 : (t178 == 0) = true := beq_iff_eq.mpr c66
            have c66b1 : (t178 != 0) = false := bne_eq_false_iff_eq.mpr c66
            clear c66
            by_cases c67 : t181 = 0
            · rw [if_pos c67] at H
              have c67b0 : (t181 == 0) = true := beq_iff_eq.mpr c67
              have c67b1 : (t181 != 0) = false := bne_eq_false_iff_eq.mpr c67
              clear c67
              by_cases c68 : t184 = 0
              · rw [if_pos c68] at H
                have c68b0 : (t184 == 0) = true := beq_iff_eq.mpr c68
                have c68b1 : (t184 != 0) = false := bne_eq_false_iff_eq.mpr c68
                clear c68
                by_cases c69 : (t175 != x7_1) = true
                · rw [if_pos c69] at H
                  have c69b0 : (t175 != x7_1) = true := c69
                  (try (have c69b1 : decide (t175 = x7_1) = false := by simpa using c69))
                  (try (have c69b2 : (t175 == x7_1) = false := by simpa using c69))
                  (try (have c69b3 : ¬ (t175 = x7_1) := by simpa using c69))
                  clear c69
                  exact absurd ((Option.some.inj H).trans hr) (by decide)
                · rw [if_neg c69] at H
                  have c69b0 : (t175 != x7_1) = false := by simpa using c69
                  (try (have c69b1 : decide (t175 = x7_1) = true := by simpa using c69))
                  (try (have c69b2 : (t175 == x7_1) = true := by simpa using c69))
                  clear c69
                  by_cases c79 : t177 = x8_1
                  · rw [if_pos c79] at H
                    have c79b0 : (t177 == x8_1) = true := beq_iff_eq.mpr c79
                    have c79b1 : (t177 != x8_1) = false := bne_eq_false_iff_eq.mpr c79
                    clear c79
                    by_cases c80 : t173 = x11_1
                    · rw [if_pos c80] at H
                      have c80b0 : (t173 == x11_1) = true := beq_iff_eq.mpr c80
                      have c80b1 : (t173 != x11_1) = false := bne_eq_false_iff_eq.mpr c80
                      clear c80
                      by_cases c81 : t174 = x12_1
                      · rw [if_pos c81] at H
                        have c81b0 : (t174 == x12_1) = true := beq_iff_eq.mpr c81
                        have c81b1 : (t174 != x12_1) = false := bne_eq_false_iff_eq.mpr c81
                        clear c81
                        by_cases c82 : (t180 == (decide (x9_1 < 100))) = true
                        · rw [if_pos c82] at H
                          have c82b0 : (t180 == (decide (x9_1 < 100))) = true := c82
                          (try (have c82b1 : decide (t180 = (decide (x9_1 < 100))) = true := by simpa using c82))
                          (try (have c82b2 : (t180 == (decide (x9_1 < 100))) = true := by simpa using c82))
                          clear c82
                          by_cases c83 : t180 = true
                          · subst c83
                            have H1 : (if t179 = x9_1 then (if (t183 == (decide (x10_1 > (-100)))) = true then (if t183 = true then (if t182 = x10_1 then ((biremelaw14_alive.f k1).bind fun t185 => (some t185)) else (some false)) else ((biremelaw14_alive.f k1).bind fun t186 => (some t186))) else (some false)) else (some false)) = some r := by rw [if_pos rfl] at H; exact H
                            clear H
                            have H := H1
                            clear H1
                            by_cases c84 : t179 = x9_1
                            · rw [if_pos c84] at H
                              have c84b0 : (t179 == x9_1) = true := beq_iff_eq.mpr c84
                              have c84b1 : (t179 != x9_1) = false := bne_eq_false_iff_eq.mpr c84
                              clear c84
                              by_cases c85 : (t183 == (decide (x10_1 > (-100)))) = true
                              · rw [if_pos c85] at H
                                have c85b0 : (t183 == (decide (x10_1 > (-100)))) = true := c85
                                (try (have c85b1 : decide (t183 = (decide (x10_1 > (-100)))) = true := by simpa using c85))
                                (try (have c85b2 : (t183 == (decide (x10_1 > (-100)))) = true := by simpa using c85))
                                clear c85
                                by_cases c86 : t183 = true
                                · subst c86
                                  have H1 : (if t182 = x10_1 then ((biremelaw14_alive.f k1).bind fun t185 => (some t185)) else (some false)) = some r := by rw [if_pos rfl] at H; exact H
                                  clear H
                                  have H := H1
                                  clear H1
                                  by_cases c87 : t182 = x10_1
                                  · rw [if_pos c87] at H
                                    have c87b0 : (t182 == x10_1) = true := beq_iff_eq.mpr c87
                                    have c87b1 : (t182 != x10_1) = false := bne_eq_false_iff_eq.mpr c87
                                    clear c87
                                    replace H := Option.bind_eq_some_iff.mp H
                                    obtain ⟨t185, A880, H⟩ := H
                                    replace H : (some t185) = some r := H
                                    have A88 := Aside0.mk A880
                                    clear A880
                                    obtain rfl := Option.some.inj H
                                    have hnb89 := NB167_160.out
                                    have hnc89 := NB160_167.out
                                    have hcz90_0 : wr.cell? ⟨gb167, 0, none⟩ = some (.int .i64 t161) := (blk_cell BK167.out 0).trans rfl
                                    have hcz90_1 : wr.cell? ⟨gb167, 1, none⟩ = some (.int .i64 t162) := (blk_cell BK167.out 1).trans rfl
                                    have hcz90_2 : wr.cell? ⟨gb167, 2, none⟩ = some (.int .i64 t163) := (blk_cell BK167.out 2).trans rfl
                                    have hcz90_3 : wr.cell? ⟨gb167, 3, none⟩ = some (.int .i64 t164) := (blk_cell BK167.out 3).trans rfl
                                    have hcz90_4 : wr.cell? ⟨gb167, 4, none⟩ = some (.int .i64 t165) := (blk_cell BK167.out 4).trans rfl
                                    have hcz90_5 : wr.cell? ⟨gb167, 5, none⟩ = some (.int .i64 t166) := (blk_cell BK167.out 5).trans rfl
                                    have hfz90_0 := blk_frozen BK167.out 0
                                    have hfz90_1 := blk_frozen BK167.out 1
                                    have hfz90_2 := blk_frozen BK167.out 2
                                    have hfz90_3 := blk_frozen BK167.out 3
                                    have hfz90_4 := blk_frozen BK167.out 4
                                    have hfz90_5 := blk_frozen BK167.out 5
                                    go_wp2_with (first | ((with_reducible refine gate_callee (f := 27) rfl ?_); refine goesL_ (some 99) rfl rfl Try.func27 (by kernel_rfl) rfl #[.agg #[.int .i64 t161, .int .i64 t162], .agg #[.int .i64 t163, .int .i64 t164], .int .i64 t165, .int .i64 t166] rfl (by (try simp only [List.map_toArray, List.map_cons, List.map_nil]); first | done | rfl | (simp only [List.length_drop, List.length_take]; rfl)) ?_; (with_reducible refine (affine_Meet.calls k1 t161 t162 t163 t164 t165 t166 t173 t174 t175 t176 _ A61.out).mono ?_); rintro e w91 ⟨rfl, hb⟩; refine ⟨_, rfl, ?_⟩; have n0_ := Aside0.mk (blk_below (g := gb160) (o := .cells #[.int .i64 a0_0, .int .i64 a0_1, .int .i64 a0_2, .int .i64 a0_3, .int .i64 a0_4, .int .i64 a0_5] 35 (0, 0)) (by (with_reducible repeat (first | refine blk_drewN ?_ _ | refine blk_drew ?_ | refine blk_alloc ?_ _)); exact BK160.out) hb); have n1_ := Aside0.mk (blk_below (g := gb167) (o := .cells #[.int .i64 t161, .int .i64 t162, .int .i64 t163, .int .i64 t164, .int .i64 t165, .int .i64 t166] 35 (0, 0)) (by (with_reducible repeat (first | refine blk_drewN ?_ _ | refine blk_drew ?_ | refine blk_alloc ?_ _)); exact BK167.out) hb); have n2_ := Aside0.mk (below_step (by repeat (first | (with_reducible first | exact HB.out | apply below_alloc | apply pw_below_drewN | apply below_drew1 | refine below_set ?_ GE160.out | refine below_set ?_ GE167.out) | exact HB.out)) hb); clear BK160; clear BK167; clear HB; have BK160 := n0_; have BK167 := n1_; have HB := n2_; clear n0_ n1_ n2_; (try clear hb); (try clear hb2); (try clear hk); (try clear hi); have hcz92_0 : w91.cell? ⟨gb167, 0, none⟩ = some (.int .i64 t161) := (blk_cell BK167.out 0).trans rfl; have hcz92_1 : w91.cell? ⟨gb167, 1, none⟩ = some (.int .i64 t162) := (blk_cell BK167.out 1).trans rfl; have hcz92_2 : w91.cell? ⟨gb167, 2, none⟩ = some (.int .i64 t163) := (blk_cell BK167.out 2).trans rfl; have hcz92_3 : w91.cell? ⟨gb167, 3, none⟩ = some (.int .i64 t164) := (blk_cell BK167.out 3).trans rfl; have hcz92_4 : w91.cell? ⟨gb167, 4, none⟩ = some (.int .i64 t165) := (blk_cell BK167.out 4).trans rfl; have hcz92_5 : w91.cell? ⟨gb167, 5, none⟩ = some (.int .i64 t166) := (blk_cell BK167.out 5).trans rfl; have hfz92_0 := blk_frozen BK167.out 0; have hfz92_1 := blk_frozen BK167.out 1; have hfz92_2 := blk_frozen BK167.out 2; have hfz92_3 := blk_frozen BK167.out 3; have hfz92_4 := blk_frozen BK167.out 4; have hfz92_5 := blk_frozen BK167.out 5) | ((with_reducible refine gate_callee (f := 28) rfl ?_); refine goesL_ (some 113) rfl rfl Try.func28 (by kernel_rfl) rfl #[.agg #[.int .i64 t161, .int .i64 t162], .agg #[.int .i64 t163, .int .i64 t164], .int .i64 t165, .int .i64 t166] rfl (by (try simp only [List.map_toArray, List.map_cons, List.map_nil]); first | done | rfl | (simp only [List.length_drop, List.length_take]; rfl)) ?_; (with_reducible refine (affine_Count.calls k1 t161 t162 t163 t164 t165 t166 t177 t178 _ A62.out).mono ?_); rintro e w93 ⟨rfl, hb⟩; refine ⟨_, rfl, ?_⟩; have n0_ := Aside0.mk (blk_below (g := gb160) (o := .cells #[.int .i64 a0_0, .int .i64 a0_1, .int .i64 a0_2, .int .i64 a0_3, .int .i64 a0_4, .int .i64 a0_5] 35 (0, 0)) (by (with_reducible repeat (first | refine blk_drewN ?_ _ | refine blk_drew ?_ | refine blk_alloc ?_ _)); exact BK160.out) hb); have n1_ := Aside0.mk (blk_below (g := gb167) (o := .cells #[.int .i64 t161, .int .i64 t162, .int .i64 t163, .int .i64 t164, .int .i64 t165, .int .i64 t166] 35 (0, 0)) (by (with_reducible repeat (first | refine blk_drewN ?_ _ | refine blk_drew ?_ | refine blk_alloc ?_ _)); exact BK167.out) hb); have n2_ := Aside0.mk (below_step (by repeat (first | (with_reducible first | exact HB.out | apply below_alloc | apply pw_below_drewN | apply below_drew1 | refine below_set ?_ GE160.out | refine below_set ?_ GE167.out) | exact HB.out)) hb); clear BK160; clear BK167; clear HB; have BK160 := n0_; have BK167 := n1_; have HB := n2_; clear n0_ n1_ n2_; (try clear hb); (try clear hb2); (try clear hk); (try clear hi); have hcz94_0 : w93.cell? ⟨gb167, 0, none⟩ = some (.int .i64 t161) := (blk_cell BK167.out 0).trans rfl; have hcz94_1 : w93.cell? ⟨gb167, 1, none⟩ = some (.int .i64 t162) := (blk_cell BK167.out 1).trans rfl; have hcz94_2 : w93.cell? ⟨gb167, 2, none⟩ = some (.int .i64 t163) := (blk_cell BK167.out 2).trans rfl; have hcz94_3 : w93.cell? ⟨gb167, 3, none⟩ = some (.int .i64 t164) := (blk_cell BK167.out 3).trans rfl; have hcz94_4 : w93.cell? ⟨gb167, 4, none⟩ = some (.int .i64 t165) := (blk_cell BK167.out 4).trans rfl; have hcz94_5 : w93.cell? ⟨gb167, 5, none⟩ = some (.int .i64 t166) := (blk_cell BK167.out 5).trans rfl; have hfz94_0 := blk_frozen BK167.out 0; have hfz94_1 := blk_frozen BK167.out 1; have hfz94_2 := blk_frozen BK167.out 2; have hfz94_3 := blk_frozen BK167.out 3; have hfz94_4 := blk_frozen BK167.out 4; have hfz94_5 := blk_frozen BK167.out 5) | ((with_reducible refine gate_callee (f := 18) rfl ?_); refine goesL_ (some 124) rfl rfl Try.func18 (by kernel_rfl) rfl #[.agg #[.int .i64 t161, .int .i64 t162], .agg #[.int .i64 t163, .int .i64 t164], .int .i64 t165, .int .i64 (wrap64 (t168 - 45))] rfl (by (try simp only [List.map_toArray, List.map_cons, List.map_nil]); first | done | rfl | (simp only [List.length_drop, List.length_take]; rfl)) ?_; (with_reducible refine (affine_Ahead.calls k1 t161 t162 t163 t164 t165 (wrap64 (t168 - 45)) t179 true t181 _ A63.out).mono ?_); rintro e w95 ⟨rfl, hb⟩; refine ⟨_, rfl, ?_⟩; have n0_ := Aside0.mk (blk_below (g := gb160) (o := .cells #[.int .i64 a0_0, .int .i64 a0_1, .int .i64 a0_2, .int .i64 a0_3, .int .i64 a0_4, .int .i64 a0_5] 35 (0, 0)) (by (with_reducible repeat (first | refine blk_drewN ?_ _ | refine blk_drew ?_ | refine blk_alloc ?_ _)); exact BK160.out) hb); have n1_ := Aside0.mk (blk_below (g := gb167) (o := .cells #[.int .i64 t161, .int .i64 t162, .int .i64 t163, .int .i64 t164, .int .i64 t165, .int .i64 t166] 35 (0, 0)) (by (with_reducible repeat (first | refine blk_drewN ?_ _ | refine blk_drew ?_ | refine blk_alloc ?_ _)); exact BK167.out) hb); have n2_ := Aside0.mk (below_step (by repeat (first | (with_reducible first | exact HB.out | apply below_alloc | apply pw_below_drewN | apply below_drew1 | refine below_set ?_ GE160.out | refine below_set ?_ GE167.out) | exact HB.out)) hb); clear BK160; clear BK167; clear HB; have BK160 := n0_; have BK167 := n1_; have HB := n2_; clear n0_ n1_ n2_; (try clear hb); (try clear hb2); (try clear hk); (try clear hi); have hcz96_0 : w95.cell? ⟨gb167, 0, none⟩ = some (.int .i64 t161) := (blk_cell BK167.out 0).trans rfl; have hcz96_1 : w95.cell? ⟨gb167, 1, none⟩ = some (.int .i64 t162) := (blk_cell BK167.out 1).trans rfl; have hcz96_2 : w95.cell? ⟨gb167, 2, none⟩ = some (.int .i64 t163) := (blk_cell BK167.out 2).trans rfl; have hcz96_3 : w95.cell? ⟨gb167, 3, none⟩ = some (.int .i64 t164) := (blk_cell BK167.out 3).trans rfl; have hcz96_4 : w95.cell? ⟨gb167, 4, none⟩ = some (.int .i64 t165) := (blk_cell BK167.out 4).trans rfl; have hcz96_5 : w95.cell? ⟨gb167, 5, none⟩ = some (.int .i64 t166) := (blk_cell BK167.out 5).trans rfl; have hfz96_0 := blk_frozen BK167.out 0; have hfz96_1 := blk_frozen BK167.out 1; have hfz96_2 := blk_frozen BK167.out 2; have hfz96_3 := blk_frozen BK167.out 3; have hfz96_4 := blk_frozen BK167.out 4; have hfz96_5 := blk_frozen BK167.out 5) | ((with_reducible refine gate_callee (f := 19) rfl ?_); refine goesL_ (some 135) rfl rfl Try.func19 (by kernel_rfl) rfl #[.agg #[.int .i64 t161, .int .i64 t162], .agg #[.int .i64 t163, .int .i64 t164], .int .i64 t165] rfl (by (try simp only [List.map_toArray, List.map_cons, List.map_nil]); first | done | rfl | (simp only [List.length_drop, List.length_take]; rfl)) ?_; (with_reducible refine (affine_Behind.calls k1 t161 t162 t163 t164 t165 t182 true t184 _ A64.out).mono ?_); rintro e w97 ⟨rfl, hb⟩; refine ⟨_, rfl, ?_⟩; have n0_ := Aside0.mk (blk_below (g := gb160) (o := .cells #[.int .i64 a0_0, .int .i64 a0_1, .int .i64 a0_2, .int .i64 a0_3, .int .i64 a0_4, .int .i64 a0_5] 35 (0, 0)) (by (with_reducible repeat (first | refine blk_drewN ?_ _ | refine blk_drew ?_ | refine blk_alloc ?_ _)); exact BK160.out) hb); have n1_ := Aside0.mk (blk_below (g := gb167) (o := .cells #[.int .i64 t161, .int .i64 t162, .int .i64 t163, .int .i64 t164, .int .i64 t165, .int .i64 t166] 35 (0, 0)) (by (with_reducible repeat (first | refine blk_drewN ?_ _ | refine blk_drew ?_ | refine blk_alloc ?_ _)); exact BK167.out) hb); have n2_ := Aside0.mk (below_step (by repeat (first | (with_reducible first | exact HB.out | apply below_alloc | apply pw_below_drewN | apply below_drew1 | refine below_set ?_ GE160.out | refine below_set ?_ GE167.out) | exact HB.out)) hb); clear BK160; clear BK167; clear HB; have BK160 := n0_; have BK167 := n1_; have HB := n2_; clear n0_ n1_ n2_; (try clear hb); (try clear hb2); (try clear hk); (try clear hi)) | (go_at_call 16; (with_reducible refine (biremelaw14_alive.calls k1  t185 _ A88.out).mono ?_); rintro e w98 ⟨rfl, hb⟩; have n0_ := Aside0.mk (blk_below (g := gb160) (o := .cells #[.int .i64 a0_0, .int .i64 a0_1, .int .i64 a0_2, .int .i64 a0_3, .int .i64 a0_4, .int .i64 a0_5] 35 (0, 0)) (by (with_reducible repeat (first | refine blk_drewN ?_ _ | refine blk_drew ?_ | refine blk_alloc ?_ _)); exact BK160.out) hb); have n1_ := Aside0.mk (blk_below (g := gb167) (o := .cells #[.int .i64 t161, .int .i64 t162, .int .i64 t163, .int .i64 t164, .int .i64 t165, .int .i64 t166] 35 (0, 0)) (by (with_reducible repeat (first | refine blk_drewN ?_ _ | refine blk_drew ?_ | refine blk_alloc ?_ _)); exact BK167.out) hb); have n2_ := Aside0.mk (below_step (by repeat (first | (with_reducible first | exact HB.out | apply below_alloc | apply pw_below_drewN | apply below_drew1 | refine below_set ?_ GE160.out | refine below_set ?_ GE167.out) | exact HB.out)) hb); clear BK160; clear BK167; clear HB; have BK160 := n0_; have BK167 := n1_; have HB := n2_; clear n0_ n1_ n2_; (try clear hb); (try clear hb2); (try clear hk); (try clear hi)))
                                    go_ret
                                    exact ⟨by first | rfl | (simp [errW_none, errW_some] <;> rfl) | (simp [*, errW_none, errW_some] <;> rfl), by repeat (first | (with_reducible first | exact HB.out | apply below_alloc | apply pw_below_drewN | apply below_drew1 | refine below_set ?_ GE160.out | refine below_set ?_ GE167.out) | exact HB.out)⟩
                                  · rw [if_neg c87] at H
                                    have c87b0 : (t182 == x10_1) = false := beq_eq_false_iff_ne.mpr c87
                                    have c87b1 : (t182 != x10_1) = true := bne_iff_ne.mpr c87
                                    exact absurd ((Option.some.inj H).trans hr) (by decide)
                                · replace c86 := Bool.eq_false_iff.mpr c86
                                  subst c86
                                  have H1 : ((biremelaw14_alive.f k1).bind fun t186 => (some t186)) = some r := by rw [if_neg (show ¬ (false = true) by decide)] at H; exact H
                                  clear H
                                  have H := H1
                                  clear H1
                                  replace H := Option.bind_eq_some_iff.mp H
                                  obtain ⟨t186, A1080, H⟩ := H
                                  replace H : (some t186) = some r := H
                                  have A108 := Aside0.mk A1080
                                  clear A1080
                                  obtain rfl := Option.some.inj H
                                  have hnb109 := NB167_160.out
                                  have hnc109 := NB160_167.out
                                  have hcz110_0 : wr.cell? ⟨gb167, 0, none⟩ = some (.int .i64 t161) := (blk_cell BK167.out 0).trans rfl
                                  have hcz110_1 : wr.cell? ⟨gb167, 1, none⟩ = some (.int .i64 t162) := (blk_cell BK167.out 1).trans rfl
                                  have hcz110_2 : wr.cell? ⟨gb167, 2, none⟩ = some (.int .i64 t163) := (blk_cell BK167.out 2).trans rfl
                                  have hcz110_3 : wr.cell? ⟨gb167, 3, none⟩ = some (.int .i64 t164) := (blk_cell BK167.out 3).trans rfl
                                  have hcz110_4 : wr.cell? ⟨gb167, 4, none⟩ = some (.int .i64 t165) := (blk_cell BK167.out 4).trans rfl
                                  have hcz110_5 : wr.cell? ⟨gb167, 5, none⟩ = some (.int .i64 t166) := (blk_cell BK167.out 5).trans rfl
                                  have hfz110_0 := blk_frozen BK167.out 0
                                  have hfz110_1 := blk_frozen BK167.out 1
                                  have hfz110_2 := blk_frozen BK167.out 2
                                  have hfz110_3 := blk_frozen BK167.out 3
                                  have hfz110_4 := blk_frozen BK167.out 4
                                  have hfz110_5 := blk_frozen BK167.out 5
                                  go_wp2_with (first | ((with_reducible refine gate_callee (f := 27) rfl ?_); refine goesL_ (some 99) rfl rfl Try.func27 (by kernel_rfl) rfl #[.agg #[.int .i64 t161, .int .i64 t162], .agg #[.int .i64 t163, .int .i64 t164], .int .i64 t165, .int .i64 t166] rfl (by (try simp only [List.map_toArray, List.map_cons, List.map_nil]); first | done | rfl | (simp only [List.length_drop, List.length_take]; rfl)) ?_; (with_reducible refine (affine_Meet.calls k1 t161 t162 t163 t164 t165 t166 t173 t174 t175 t176 _ A61.out).mono ?_); rintro e w111 ⟨rfl, hb⟩; refine ⟨_, rfl, ?_⟩; have n0_ := Aside0.mk (blk_below (g := gb160) (o := .cells #[.int .i64 a0_0, .int .i64 a0_1, .int .i64 a0_2, .int .i64 a0_3, .int .i64 a0_4, .int .i64 a0_5] 35 (0, 0)) (by (with_reducible repeat (first | refine blk_drewN ?_ _ | refine blk_drew ?_ | refine blk_alloc ?_ _)); exact BK160.out) hb); have n1_ := Aside0.mk (blk_below (g := gb167) (o := .cells #[.int .i64 t161, .int .i64 t162, .int .i64 t163, .int .i64 t164, .int .i64 t165, .int .i64 t166] 35 (0, 0)) (by (with_reducible repeat (first | refine blk_drewN ?_ _ | refine blk_drew ?_ | refine blk_alloc ?_ _)); exact BK167.out) hb); have n2_ := Aside0.mk (below_step (by repeat (first | (with_reducible first | exact HB.out | apply below_alloc | apply pw_below_drewN | apply below_drew1 | refine below_set ?_ GE160.out | refine below_set ?_ GE167.out) | exact HB.out)) hb); clear BK160; clear BK167; clear HB; have BK160 := n0_; have BK167 := n1_; have HB := n2_; clear n0_ n1_ n2_; (try clear hb); (try clear hb2); (try clear hk); (try clear hi); have hcz112_0 : w111.cell? ⟨gb167, 0, none⟩ = some (.int .i64 t161) := (blk_cell BK167.out 0).trans rfl; have hcz112_1 : w111.cell? ⟨gb167, 1, none⟩ = some (.int .i64 t162) := (blk_cell BK167.out 1).trans rfl; have hcz112_2 : w111.cell? ⟨gb167, 2, none⟩ = some (.int .i64 t163) := (blk_cell BK167.out 2).trans rfl; have hcz112_3 : w111.cell? ⟨gb167, 3, none⟩ = some (.int .i64 t164) := (blk_cell BK167.out 3).trans rfl; have hcz112_4 : w111.cell? ⟨gb167, 4, none⟩ = some (.int .i64 t165) := (blk_cell BK167.out 4).trans rfl; have hcz112_5 : w111.cell? ⟨gb167, 5, none⟩ = some (.int .i64 t166) := (blk_cell BK167.out 5).trans rfl; have hfz112_0 := blk_frozen BK167.out 0; have hfz112_1 := blk_frozen BK167.out 1; have hfz112_2 := blk_frozen BK167.out 2; have hfz112_3 := blk_frozen BK167.out 3; have hfz112_4 := blk_frozen BK167.out 4; have hfz112_5 := blk_frozen BK167.out 5) | ((with_reducible refine gate_callee (f := 28) rfl ?_); refine goesL_ (some 113) rfl rfl Try.func28 (by kernel_rfl) rfl #[.agg #[.int .i64 t161, .int .i64 t162], .agg #[.int .i64 t163, .int .i64 t164], .int .i64 t165, .int .i64 t166] rfl (by (try simp only [List.map_toArray, List.map_cons, List.map_nil]); first | done | rfl | (simp only [List.length_drop, List.length_take]; rfl)) ?_; (with_reducible refine (affine_Count.calls k1 t161 t162 t163 t164 t165 t166 t177 t178 _ A62.out).mono ?_); rintro e w113 ⟨rfl, hb⟩; refine ⟨_, rfl, ?_⟩; have n0_ := Aside0.mk (blk_below (g := gb160) (o := .cells #[.int .i64 a0_0, .int .i64 a0_1, .int .i64 a0_2, .int .i64 a0_3, .int .i64 a0_4, .int .i64 a0_5] 35 (0, 0)) (by (with_reducible repeat (first | refine blk_drewN ?_ _ | refine blk_drew ?_ | refine blk_alloc ?_ _)); exact BK160.out) hb); have n1_ := Aside0.mk (blk_below (g := gb167) (o := .cells #[.int .i64 t161, .int .i64 t162, .int .i64 t163, .int .i64 t164, .int .i64 t165, .int .i64 t166] 35 (0, 0)) (by (with_reducible repeat (first | refine blk_drewN ?_ _ | refine blk_drew ?_ | refine blk_alloc ?_ _)); exact BK167.out) hb); have n2_ := Aside0.mk (below_step (by repeat (first | (with_reducible first | exact HB.out | apply below_alloc | apply pw_below_drewN | apply below_drew1 | refine below_set ?_ GE160.out | refine below_set ?_ GE167.out) | exact HB.out)) hb); clear BK160; clear BK167; clear HB; have BK160 := n0_; have BK167 := n1_; have HB := n2_; clear n0_ n1_ n2_; (try clear hb); (try clear hb2); (try clear hk); (try clear hi); have hcz114_0 : w113.cell? ⟨gb167, 0, none⟩ = some (.int .i64 t161) := (blk_cell BK167.out 0).trans rfl; have hcz114_1 : w113.cell? ⟨gb167, 1, none⟩ = some (.int .i64 t162) := (blk_cell BK167.out 1).trans rfl; have hcz114_2 : w113.cell? ⟨gb167, 2, none⟩ = some (.int .i64 t163) := (blk_cell BK167.out 2).trans rfl; have hcz114_3 : w113.cell? ⟨gb167, 3, none⟩ = some (.int .i64 t164) := (blk_cell BK167.out 3).trans rfl; have hcz114_4 : w113.cell? ⟨gb167, 4, none⟩ = some (.int .i64 t165) := (blk_cell BK167.out 4).trans rfl; have hcz114_5 : w113.cell? ⟨gb167, 5, none⟩ = some (.int .i64 t166) := (blk_cell BK167.out 5).trans rfl; have hfz114_0 := blk_frozen BK167.out 0; have hfz114_1 := blk_frozen BK167.out 1; have hfz114_2 := blk_frozen BK167.out 2; have hfz114_3 := blk_frozen BK167.out 3; have hfz114_4 := blk_frozen BK167.out 4; have hfz114_5 := blk_frozen BK167.out 5) | ((with_reducible refine gate_callee (f := 18) rfl ?_); refine goesL_ (some 124) rfl rfl Try.func18 (by kernel_rfl) rfl #[.agg #[.int .i64 t161, .int .i64 t162], .agg #[.int .i64 t163, .int .i64 t164], .int .i64 t165, .int .i64 (wrap64 (t168 - 45))] rfl (by (try simp only [List.map_toArray, List.map_cons, List.map_nil]); first | done | rfl | (simp only [List.length_drop, List.length_take]; rfl)) ?_; (with_reducible refine (affine_Ahead.calls k1 t161 t162 t163 t164 t165 (wrap64 (t168 - 45)) t179 true t181 _ A63.out).mono ?_); rintro e w115 ⟨rfl, hb⟩; refine ⟨_, rfl, ?_⟩; have n0_ := Aside0.mk (blk_below (g := gb160) (o := .cells #[.int .i64 a0_0, .int .i64 a0_1, .int .i64 a0_2, .int .i64 a0_3, .int .i64 a0_4, .int .i64 a0_5] 35 (0, 0)) (by (with_reducible repeat (first | refine blk_drewN ?_ _ | refine blk_drew ?_ | refine blk_alloc ?_ _)); exact BK160.out) hb); have n1_ := Aside0.mk (blk_below (g := gb167) (o := .cells #[.int .i64 t161, .int .i64 t162, .int .i64 t163, .int .i64 t164, .int .i64 t165, .int .i64 t166] 35 (0, 0)) (by (with_reducible repeat (first | refine blk_drewN ?_ _ | refine blk_drew ?_ | refine blk_alloc ?_ _)); exact BK167.out) hb); have n2_ := Aside0.mk (below_step (by repeat (first | (with_reducible first | exact HB.out | apply below_alloc | apply pw_below_drewN | apply below_drew1 | refine below_set ?_ GE160.out | refine below_set ?_ GE167.out) | exact HB.out)) hb); clear BK160; clear BK167; clear HB; have BK160 := n0_; have BK167 := n1_; have HB := n2_; clear n0_ n1_ n2_; (try clear hb); (try clear hb2); (try clear hk); (try clear hi); have hcz116_0 : w115.cell? ⟨gb167, 0, none⟩ = some (.int .i64 t161) := (blk_cell BK167.out 0).trans rfl; have hcz116_1 : w115.cell? ⟨gb167, 1, none⟩ = some (.int .i64 t162) := (blk_cell BK167.out 1).trans rfl; have hcz116_2 : w115.cell? ⟨gb167, 2, none⟩ = some (.int .i64 t163) := (blk_cell BK167.out 2).trans rfl; have hcz116_3 : w115.cell? ⟨gb167, 3, none⟩ = some (.int .i64 t164) := (blk_cell BK167.out 3).trans rfl; have hcz116_4 : w115.cell? ⟨gb167, 4, none⟩ = some (.int .i64 t165) := (blk_cell BK167.out 4).trans rfl; have hcz116_5 : w115.cell? ⟨gb167, 5, none⟩ = some (.int .i64 t166) := (blk_cell BK167.out 5).trans rfl; have hfz116_0 := blk_frozen BK167.out 0; have hfz116_1 := blk_frozen BK167.out 1; have hfz116_2 := blk_frozen BK167.out 2; have hfz116_3 := blk_frozen BK167.out 3; have hfz116_4 := blk_frozen BK167.out 4; have hfz116_5 := blk_frozen BK167.out 5) | ((with_reducible refine gate_callee (f := 19) rfl ?_); refine goesL_ (some 135) rfl rfl Try.func19 (by kernel_rfl) rfl #[.agg #[.int .i64 t161, .int .i64 t162], .agg #[.int .i64 t163, .int .i64 t164], .int .i64 t165] rfl (by (try simp only [List.map_toArray, List.map_cons, List.map_nil]); first | done | rfl | (simp only [List.length_drop, List.length_take]; rfl)) ?_; (with_reducible refine (affine_Behind.calls k1 t161 t162 t163 t164 t165 t182 false t184 _ A64.out).mono ?_); rintro e w117 ⟨rfl, hb⟩; refine ⟨_, rfl, ?_⟩; have n0_ := Aside0.mk (blk_below (g := gb160) (o := .cells #[.int .i64 a0_0, .int .i64 a0_1, .int .i64 a0_2, .int .i64 a0_3, .int .i64 a0_4, .int .i64 a0_5] 35 (0, 0)) (by (with_reducible repeat (first | refine blk_drewN ?_ _ | refine blk_drew ?_ | refine blk_alloc ?_ _)); exact BK160.out) hb); have n1_ := Aside0.mk (blk_below (g := gb167) (o := .cells #[.int .i64 t161, .int .i64 t162, .int .i64 t163, .int .i64 t164, .int .i64 t165, .int .i64 t166] 35 (0, 0)) (by (with_reducible repeat (first | refine blk_drewN ?_ _ | refine blk_drew ?_ | refine blk_alloc ?_ _)); exact BK167.out) hb); have n2_ := Aside0.mk (below_step (by repeat (first | (with_reducible first | exact HB.out | apply below_alloc | apply pw_below_drewN | apply below_drew1 | refine below_set ?_ GE160.out | refine below_set ?_ GE167.out) | exact HB.out)) hb); clear BK160; clear BK167; clear HB; have BK160 := n0_; have BK167 := n1_; have HB := n2_; clear n0_ n1_ n2_; (try clear hb); (try clear hb2); (try clear hk); (try clear hi)) | (go_at_call 16; (with_reducible refine (biremelaw14_alive.calls k1  t186 _ A108.out).mono ?_); rintro e w118 ⟨rfl, hb⟩; have n0_ := Aside0.mk (blk_below (g := gb160) (o := .cells #[.int .i64 a0_0, .int .i64 a0_1, .int .i64 a0_2, .int .i64 a0_3, .int .i64 a0_4, .int .i64 a0_5] 35 (0, 0)) (by (with_reducible repeat (first | refine blk_drewN ?_ _ | refine blk_drew ?_ | refine blk_alloc ?_ _)); exact BK160.out) hb); have n1_ := Aside0.mk (blk_below (g := gb167) (o := .cells #[.int .i64 t161, .int .i64 t162, .int .i64 t163, .int .i64 t164, .int .i64 t165, .int .i64 t166] 35 (0, 0)) (by (with_reducible repeat (first | refine blk_drewN ?_ _ | refine blk_drew ?_ | refine blk_alloc ?_ _)); exact BK167.out) hb); have n2_ := Aside0.mk (below_step (by repeat (first | (with_reducible first | exact HB.out | apply below_alloc | apply pw_below_drewN | apply below_drew1 | refine below_set ?_ GE160.out | refine below_set ?_ GE167.out) | exact HB.out)) hb); clear BK160; clear BK167; clear HB; have BK160 := n0_; have BK167 := n1_; have HB := n2_; clear n0_ n1_ n2_; (try clear hb); (try clear hb2); (try clear hk); (try clear hi)))
                                  go_ret
                                  exact ⟨by first | rfl | (simp [errW_none, errW_some] <;> rfl) | (simp [*, errW_none, errW_some] <;> rfl), by repeat (first | (with_reducible first | exact HB.out | apply below_alloc | apply pw_below_drewN | apply below_drew1 | refine below_set ?_ GE160.out | refine below_set ?_ GE167.out) | exact HB.out)⟩
                              · rw [if_neg c85] at H
                                have c85b0 : (t183 == (decide (x10_1 > (-100)))) = false := by simpa using c85
                                (try (have c85b1 : decide (t183 = (decide (x10_1 > (-100)))) = false := by simpa using c85))
                                (try (have c85b2 : (t183 == (decide (x10_1 > (-100)))) = false := by simpa using c85))
                                (try (have c85b3 : ¬ (t183 = (decide (x10_1 > (-100)))) := by simpa using c85))
                                clear c85
                                exact absurd ((Option.some.inj H).trans hr) (by decide)
                            · rw [if_neg c84] at H
                              have c84b0 : (t179 == x9_1) = false := beq_eq_false_iff_ne.mpr c84
                              have c84b1 : (t179 != x9_1) = true := bne_iff_ne.mpr c84
                              exact absurd ((Option.some.inj H).trans hr) (by decide)
                          · replace c83 := Bool.eq_false_iff.mpr c83
                            subst c83
                            have H1 : (if (t183 == (decide (x10_1 > (-100)))) = true then (if t183 = true then (if t182 = x10_1 then ((biremelaw14_alive.f k1).bind fun t187 => (some t187)) else (some false)) else ((biremelaw14_alive.f k1).bind fun t188 => (some t188))) else (some false)) = some r := by rw [if_neg (show ¬ (false = true) by decide)] at H; exact H
                            clear H
                            have H := H1
                            clear H1
                            by_cases c137 : (t183 == (decide (x10_1 > (-100)))) = true
                            · rw [if_pos c137] at H
                              have c137b0 : (t183 == (decide (x10_1 > (-100)))) = true := c137
                              (try (have c137b1 : decide (t183 = (decide (x10_1 > (-100)))) = true := by simpa using c137))
                              (try (have c137b2 : (t183 == (decide (x10_1 > (-100)))) = true := by simpa using c137))
                              clear c137
                              by_cases c138 : t183 = true
                              · subst c138
                                have H1 : (if t182 = x10_1 then ((biremelaw14_alive.f k1).bind fun t187 => (some t187)) else (some false)) = some r := by rw [if_pos rfl] at H; exact H
                                clear H
                                have H := H1
                                clear H1
                                by_cases c139 : t182 = x10_1
                                · rw [if_pos c139] at H
                                  have c139b0 : (t182 == x10_1) = true := beq_iff_eq.mpr c139
                                  have c139b1 : (t182 != x10_1) = false := bne_eq_false_iff_eq.mpr c139
                                  clear c139
                                  replace H := Option.bind_eq_some_iff.mp H
                                  obtain ⟨t187, A1400, H⟩ := H
                                  replace H : (some t187) = some r := H
                                  have A140 := Aside0.mk A1400
                                  clear A1400
                                  obtain rfl := Option.some.inj H
                                  have hnb141 := NB167_160.out
                                  have hnc141 := NB160_167.out
                                  have hcz142_0 : wr.cell? ⟨gb167, 0, none⟩ = some (.int .i64 t161) := (blk_cell BK167.out 0).trans rfl
                                  have hcz142_1 : wr.cell? ⟨gb167, 1, none⟩ = some (.int .i64 t162) := (blk_cell BK167.out 1).trans rfl
                                  have hcz142_2 : wr.cell? ⟨gb167, 2, none⟩ = some (.int .i64 t163) := (blk_cell BK167.out 2).trans rfl
                                  have hcz142_3 : wr.cell? ⟨gb167, 3, none⟩ = some (.int .i64 t164) := (blk_cell BK167.out 3).trans rfl
                                  have hcz142_4 : wr.cell? ⟨gb167, 4, none⟩ = some (.int .i64 t165) := (blk_cell BK167.out 4).trans rfl
                                  have hcz142_5 : wr.cell? ⟨gb167, 5, none⟩ = some (.int .i64 t166) := (blk_cell BK167.out 5).trans rfl
                                  have hfz142_0 := blk_frozen BK167.out 0
                                  have hfz142_1 := blk_frozen BK167.out 1
                                  have hfz142_2 := blk_frozen BK167.out 2
                                  have hfz142_3 := blk_frozen BK167.out 3
                                  have hfz142_4 := blk_frozen BK167.out 4
                                  have hfz142_5 := blk_frozen BK167.out 5
                                  go_wp2_with (first | ((with_reducible refine gate_callee (f := 27) rfl ?_); refine goesL_ (some 99) rfl rfl Try.func27 (by kernel_rfl) rfl #[.agg #[.int .i64 t161, .int .i64 t162], .agg #[.int .i64 t163, .int .i64 t164], .int .i64 t165, .int .i64 t166] rfl (by (try simp only [List.map_toArray, List.map_cons, List.map_nil]); first | done | rfl | (simp only [List.length_drop, List.length_take]; rfl)) ?_; (with_reducible refine (affine_Meet.calls k1 t161 t162 t163 t164 t165 t166 t173 t174 t175 t176 _ A61.out).mono ?_); rintro e w143 ⟨rfl, hb⟩; refine ⟨_, rfl, ?_⟩; have n0_ := Aside0.mk (blk_below (g := gb160) (o := .cells #[.int .i64 a0_0, .int .i64 a0_1, .int .i64 a0_2, .int .i64 a0_3, .int .i64 a0_4, .int .i64 a0_5] 35 (0, 0)) (by (with_reducible repeat (first | refine blk_drewN ?_ _ | refine blk_drew ?_ | refine blk_alloc ?_ _)); exact BK160.out) hb); have n1_ := Aside0.mk (blk_below (g := gb167) (o := .cells #[.int .i64 t161, .int .i64 t162, .int .i64 t163, .int .i64 t164, .int .i64 t165, .int .i64 t166] 35 (0, 0)) (by (with_reducible repeat (first | refine blk_drewN ?_ _ | refine blk_drew ?_ | refine blk_alloc ?_ _)); exact BK167.out) hb); have n2_ := Aside0.mk (below_step (by repeat (first | (with_reducible first | exact HB.out | apply below_alloc | apply pw_below_drewN | apply below_drew1 | refine below_set ?_ GE160.out | refine below_set ?_ GE167.out) | exact HB.out)) hb); clear BK160; clear BK167; clear HB; have BK160 := n0_; have BK167 := n1_; have HB := n2_; clear n0_ n1_ n2_; (try clear hb); (try clear hb2); (try clear hk); (try clear hi); have hcz144_0 : w143.cell? ⟨gb167, 0, none⟩ = some (.int .i64 t161) := (blk_cell BK167.out 0).trans rfl; have hcz144_1 : w143.cell? ⟨gb167, 1, none⟩ = some (.int .i64 t162) := (blk_cell BK167.out 1).trans rfl; have hcz144_2 : w143.cell? ⟨gb167, 2, none⟩ = some (.int .i64 t163) := (blk_cell BK167.out 2).trans rfl; have hcz144_3 : w143.cell? ⟨gb167, 3, none⟩ = some (.int .i64 t164) := (blk_cell BK167.out 3).trans rfl; have hcz144_4 : w143.cell? ⟨gb167, 4, none⟩ = some (.int .i64 t165) := (blk_cell BK167.out 4).trans rfl; have hcz144_5 : w143.cell? ⟨gb167, 5, none⟩ = some (.int .i64 t166) := (blk_cell BK167.out 5).trans rfl; have hfz144_0 := blk_frozen BK167.out 0; have hfz144_1 := blk_frozen BK167.out 1; have hfz144_2 := blk_frozen BK167.out 2; have hfz144_3 := blk_frozen BK167.out 3; have hfz144_4 := blk_frozen BK167.out 4; have hfz144_5 := blk_frozen BK167.out 5) | ((with_reducible refine gate_callee (f := 28) rfl ?_); refine goesL_ (some 113) rfl rfl Try.func28 (by kernel_rfl) rfl #[.agg #[.int .i64 t161, .int .i64 t162], .agg #[.int .i64 t163, .int .i64 t164], .int .i64 t165, .int .i64 t166] rfl (by (try simp only [List.map_toArray, List.map_cons, List.map_nil]); first | done | rfl | (simp only [List.length_drop, List.length_take]; rfl)) ?_; (with_reducible refine (affine_Count.calls k1 t161 t162 t163 t164 t165 t166 t177 t178 _ A62.out).mono ?_); rintro e w145 ⟨rfl, hb⟩; refine ⟨_, rfl, ?_⟩; have n0_ := Aside0.mk (blk_below (g := gb160) (o := .cells #[.int .i64 a0_0, .int .i64 a0_1, .int .i64 a0_2, .int .i64 a0_3, .int .i64 a0_4, .int .i64 a0_5] 35 (0, 0)) (by (with_reducible repeat (first | refine blk_drewN ?_ _ | refine blk_drew ?_ | refine blk_alloc ?_ _)); exact BK160.out) hb); have n1_ := Aside0.mk (blk_below (g := gb167) (o := .cells #[.int .i64 t161, .int .i64 t162, .int .i64 t163, .int .i64 t164, .int .i64 t165, .int .i64 t166] 35 (0, 0)) (by (with_reducible repeat (first | refine blk_drewN ?_ _ | refine blk_drew ?_ | refine blk_alloc ?_ _)); exact BK167.out) hb); have n2_ := Aside0.mk (below_step (by repeat (first | (with_reducible first | exact HB.out | apply below_alloc | apply pw_below_drewN | apply below_drew1 | refine below_set ?_ GE160.out | refine below_set ?_ GE167.out) | exact HB.out)) hb); clear BK160; clear BK167; clear HB; have BK160 := n0_; have BK167 := n1_; have HB := n2_; clear n0_ n1_ n2_; (try clear hb); (try clear hb2); (try clear hk); (try clear hi); have hcz146_0 : w145.cell? ⟨gb167, 0, none⟩ = some (.int .i64 t161) := (blk_cell BK167.out 0).trans rfl; have hcz146_1 : w145.cell? ⟨gb167, 1, none⟩ = some (.int .i64 t162) := (blk_cell BK167.out 1).trans rfl; have hcz146_2 : w145.cell? ⟨gb167, 2, none⟩ = some (.int .i64 t163) := (blk_cell BK167.out 2).trans rfl; have hcz146_3 : w145.cell? ⟨gb167, 3, none⟩ = some (.int .i64 t164) := (blk_cell BK167.out 3).trans rfl; have hcz146_4 : w145.cell? ⟨gb167, 4, none⟩ = some (.int .i64 t165) := (blk_cell BK167.out 4).trans rfl; have hcz146_5 : w145.cell? ⟨gb167, 5, none⟩ = some (.int .i64 t166) := (blk_cell BK167.out 5).trans rfl; have hfz146_0 := blk_frozen BK167.out 0; have hfz146_1 := blk_frozen BK167.out 1; have hfz146_2 := blk_frozen BK167.out 2; have hfz146_3 := blk_frozen BK167.out 3; have hfz146_4 := blk_frozen BK167.out 4; have hfz146_5 := blk_frozen BK167.out 5) | ((with_reducible refine gate_callee (f := 18) rfl ?_); refine goesL_ (some 124) rfl rfl Try.func18 (by kernel_rfl) rfl #[.agg #[.int .i64 t161, .int .i64 t162], .agg #[.int .i64 t163, .int .i64 t164], .int .i64 t165, .int .i64 (wrap64 (t168 - 45))] rfl (by (try simp only [List.map_toArray, List.map_cons, List.map_nil]); first | done | rfl | (simp only [List.length_drop, List.length_take]; rfl)) ?_; (with_reducible refine (affine_Ahead.calls k1 t161 t162 t163 t164 t165 (wrap64 (t168 - 45)) t179 false t181 _ A63.out).mono ?_); rintro e w147 ⟨rfl, hb⟩; refine ⟨_, rfl, ?_⟩; have n0_ := Aside0.mk (blk_below (g := gb160) (o := .cells #[.int .i64 a0_0, .int .i64 a0_1, .int .i64 a0_2, .int .i64 a0_3, .int .i64 a0_4, .int .i64 a0_5] 35 (0, 0)) (by (with_reducible repeat (first | refine blk_drewN ?_ _ | refine blk_drew ?_ | refine blk_alloc ?_ _)); exact BK160.out) hb); have n1_ := Aside0.mk (blk_below (g := gb167) (o := .cells #[.int .i64 t161, .int .i64 t162, .int .i64 t163, .int .i64 t164, .int .i64 t165, .int .i64 t166] 35 (0, 0)) (by (with_reducible repeat (first | refine blk_drewN ?_ _ | refine blk_drew ?_ | refine blk_alloc ?_ _)); exact BK167.out) hb); have n2_ := Aside0.mk (below_step (by repeat (first | (with_reducible first | exact HB.out | apply below_alloc | apply pw_below_drewN | apply below_drew1 | refine below_set ?_ GE160.out | refine below_set ?_ GE167.out) | exact HB.out)) hb); clear BK160; clear BK167; clear HB; have BK160 := n0_; have BK167 := n1_; have HB := n2_; clear n0_ n1_ n2_; (try clear hb); (try clear hb2); (try clear hk); (try clear hi); have hcz148_0 : w147.cell? ⟨gb167, 0, none⟩ = some (.int .i64 t161) := (blk_cell BK167.out 0).trans rfl; have hcz148_1 : w147.cell? ⟨gb167, 1, none⟩ = some (.int .i64 t162) := (blk_cell BK167.out 1).trans rfl; have hcz148_2 : w147.cell? ⟨gb167, 2, none⟩ = some (.int .i64 t163) := (blk_cell BK167.out 2).trans rfl; have hcz148_3 : w147.cell? ⟨gb167, 3, none⟩ = some (.int .i64 t164) := (blk_cell BK167.out 3).trans rfl; have hcz148_4 : w147.cell? ⟨gb167, 4, none⟩ = some (.int .i64 t165) := (blk_cell BK167.out 4).trans rfl; have hcz148_5 : w147.cell? ⟨gb167, 5, none⟩ = some (.int .i64 t166) := (blk_cell BK167.out 5).trans rfl; have hfz148_0 := blk_frozen BK167.out 0; have hfz148_1 := blk_frozen BK167.out 1; have hfz148_2 := blk_frozen BK167.out 2; have hfz148_3 := blk_frozen BK167.out 3; have hfz148_4 := blk_frozen BK167.out 4; have hfz148_5 := blk_frozen BK167.out 5) | ((with_reducible refine gate_callee (f := 19) rfl ?_); refine goesL_ (some 135) rfl rfl Try.func19 (by kernel_rfl) rfl #[.agg #[.int .i64 t161, .int .i64 t162], .agg #[.int .i64 t163, .int .i64 t164], .int .i64 t165] rfl (by (try simp only [List.map_toArray, List.map_cons, List.map_nil]); first | done | rfl | (simp only [List.length_drop, List.length_take]; rfl)) ?_; (with_reducible refine (affine_Behind.calls k1 t161 t162 t163 t164 t165 t182 true t184 _ A64.out).mono ?_); rintro e w149 ⟨rfl, hb⟩; refine ⟨_, rfl, ?_⟩; have n0_ := Aside0.mk (blk_below (g := gb160) (o := .cells #[.int .i64 a0_0, .int .i64 a0_1, .int .i64 a0_2, .int .i64 a0_3, .int .i64 a0_4, .int .i64 a0_5] 35 (0, 0)) (by (with_reducible repeat (first | refine blk_drewN ?_ _ | refine blk_drew ?_ | refine blk_alloc ?_ _)); exact BK160.out) hb); have n1_ := Aside0.mk (blk_below (g := gb167) (o := .cells #[.int .i64 t161, .int .i64 t162, .int .i64 t163, .int .i64 t164, .int .i64 t165, .int .i64 t166] 35 (0, 0)) (by (with_reducible repeat (first | refine blk_drewN ?_ _ | refine blk_drew ?_ | refine blk_alloc ?_ _)); exact BK167.out) hb); have n2_ := Aside0.mk (below_step (by repeat (first | (with_reducible first | exact HB.out | apply below_alloc | apply pw_below_drewN | apply below_drew1 | refine below_set ?_ GE160.out | refine below_set ?_ GE167.out) | exact HB.out)) hb); clear BK160; clear BK167; clear HB; have BK160 := n0_; have BK167 := n1_; have HB := n2_; clear n0_ n1_ n2_; (try clear hb); (try clear hb2); (try clear hk); (try clear hi)) | (go_at_call 16; (with_reducible refine (biremelaw14_alive.calls k1  t187 _ A140.out).mono ?_); rintro e w150 ⟨rfl, hb⟩; have n0_ := Aside0.mk (blk_below (g := gb160) (o := .cells #[.int .i64 a0_0, .int .i64 a0_1, .int .i64 a0_2, .int .i64 a0_3, .int .i64 a0_4, .int .i64 a0_5] 35 (0, 0)) (by (with_reducible repeat (first | refine blk_drewN ?_ _ | refine blk_drew ?_ | refine blk_alloc ?_ _)); exact BK160.out) hb); have n1_ := Aside0.mk (blk_below (g := gb167) (o := .cells #[.int .i64 t161, .int .i64 t162, .int .i64 t163, .int .i64 t164, .int .i64 t165, .int .i64 t166] 35 (0, 0)) (by (with_reducible repeat (first | refine blk_drewN ?_ _ | refine blk_drew ?_ | refine blk_alloc ?_ _)); exact BK167.out) hb); have n2_ := Aside0.mk (below_step (by repeat (first | (with_reducible first | exact HB.out | apply below_alloc | apply pw_below_drewN | apply below_drew1 | refine below_set ?_ GE160.out | refine below_set ?_ GE167.out) | exact HB.out)) hb); clear BK160; clear BK167; clear HB; have BK160 := n0_; have BK167 := n1_; have HB := n2_; clear n0_ n1_ n2_; (try clear hb); (try clear hb2); (try clear hk); (try clear hi)))
                                  go_ret
                                  exact ⟨by first | rfl | (simp [errW_none, errW_some] <;> rfl) | (simp [*, errW_none, errW_some] <;> rfl), by repeat (first | (with_reducible first | exact HB.out | apply below_alloc | apply pw_below_drewN | apply below_drew1 | refine below_set ?_ GE160.out | refine below_set ?_ GE167.out) | exact HB.out)⟩
                                · rw [if_neg c139] at H
                                  have c139b0 : (t182 == x10_1) = false := beq_eq_false_iff_ne.mpr c139
                                  have c139b1 : (t182 != x10_1) = true := bne_iff_ne.mpr c139
                                  exact absurd ((Option.some.inj H).trans hr) (by decide)
                              · replace c138 := Bool.eq_false_iff.mpr c138
                                subst c138
                                have H1 : ((biremelaw14_alive.f k1).bind fun t188 => (some t188)) = some r := by rw [if_neg (show ¬ (false = true) by decide)] at H; exact H
                                clear H
                                have H := H1
                                clear H1
                                replace H := Option.bind_eq_some_iff.mp H
                                obtain ⟨t188, A1600, H⟩ := H
                                replace H : (some t188) = some r := H
                                have A160 := Aside0.mk A1600
                                clear A1600
                                obtain rfl := Option.some.inj H
                                have hnb161 := NB167_160.out
                                have hnc161 := NB160_167.out
                                have hcz162_0 : wr.cell? ⟨gb167, 0, none⟩ = some (.int .i64 t161) := (blk_cell BK167.out 0).trans rfl
                                have hcz162_1 : wr.cell? ⟨gb167, 1, none⟩ = some (.int .i64 t162) := (blk_cell BK167.out 1).trans rfl
                                have hcz162_2 : wr.cell? ⟨gb167, 2, none⟩ = some (.int .i64 t163) := (blk_cell BK167.out 2).trans rfl
                                have hcz162_3 : wr.cell? ⟨gb167, 3, none⟩ = some (.int .i64 t164) := (blk_cell BK167.out 3).trans rfl
                                have hcz162_4 : wr.cell? ⟨gb167, 4, none⟩ = some (.int .i64 t165) := (blk_cell BK167.out 4).trans rfl
                                have hcz162_5 : wr.cell? ⟨gb167, 5, none⟩ = some (.int .i64 t166) := (blk_cell BK167.out 5).trans rfl
                                have hfz162_0 := blk_frozen BK167.out 0
                                have hfz162_1 := blk_frozen BK167.out 1
                                have hfz162_2 := blk_frozen BK167.out 2
                                have hfz162_3 := blk_frozen BK167.out 3
                                have hfz162_4 := blk_frozen BK167.out 4
                                have hfz162_5 := blk_frozen BK167.out 5
                                go_wp2_with (first | ((with_reducible refine gate_callee (f := 27) rfl ?_); refine goesL_ (some 99) rfl rfl Try.func27 (by kernel_rfl) rfl #[.agg #[.int .i64 t161, .int .i64 t162], .agg #[.int .i64 t163, .int .i64 t164], .int .i64 t165, .int .i64 t166] rfl (by (try simp only [List.map_toArray, List.map_cons, List.map_nil]); first | done | rfl | (simp only [List.length_drop, List.length_take]; rfl)) ?_; (with_reducible refine (affine_Meet.calls k1 t161 t162 t163 t164 t165 t166 t173 t174 t175 t176 _ A61.out).mono ?_); rintro e w163 ⟨rfl, hb⟩; refine ⟨_, rfl, ?_⟩; have n0_ := Aside0.mk (blk_below (g := gb160) (o := .cells #[.int .i64 a0_0, .int .i64 a0_1, .int .i64 a0_2, .int .i64 a0_3, .int .i64 a0_4, .int .i64 a0_5] 35 (0, 0)) (by (with_reducible repeat (first | refine blk_drewN ?_ _ | refine blk_drew ?_ | refine blk_alloc ?_ _)); exact BK160.out) hb); have n1_ := Aside0.mk (blk_below (g := gb167) (o := .cells #[.int .i64 t161, .int .i64 t162, .int .i64 t163, .int .i64 t164, .int .i64 t165, .int .i64 t166] 35 (0, 0)) (by (with_reducible repeat (first | refine blk_drewN ?_ _ | refine blk_drew ?_ | refine blk_alloc ?_ _)); exact BK167.out) hb); have n2_ := Aside0.mk (below_step (by repeat (first | (with_reducible first | exact HB.out | apply below_alloc | apply pw_below_drewN | apply below_drew1 | refine below_set ?_ GE160.out | refine below_set ?_ GE167.out) | exact HB.out)) hb); clear BK160; clear BK167; clear HB; have BK160 := n0_; have BK167 := n1_; have HB := n2_; clear n0_ n1_ n2_; (try clear hb); (try clear hb2); (try clear hk); (try clear hi); have hcz164_0 : w163.cell? ⟨gb167, 0, none⟩ = some (.int .i64 t161) := (blk_cell BK167.out 0).trans rfl; have hcz164_1 : w163.cell? ⟨gb167, 1, none⟩ = some (.int .i64 t162) := (blk_cell BK167.out 1).trans rfl; have hcz164_2 : w163.cell? ⟨gb167, 2, none⟩ = some (.int .i64 t163) := (blk_cell BK167.out 2).trans rfl; have hcz164_3 : w163.cell? ⟨gb167, 3, none⟩ = some (.int .i64 t164) := (blk_cell BK167.out 3).trans rfl; have hcz164_4 : w163.cell? ⟨gb167, 4, none⟩ = some (.int .i64 t165) := (blk_cell BK167.out 4).trans rfl; have hcz164_5 : w163.cell? ⟨gb167, 5, none⟩ = some (.int .i64 t166) := (blk_cell BK167.out 5).trans rfl; have hfz164_0 := blk_frozen BK167.out 0; have hfz164_1 := blk_frozen BK167.out 1; have hfz164_2 := blk_frozen BK167.out 2; have hfz164_3 := blk_frozen BK167.out 3; have hfz164_4 := blk_frozen BK167.out 4; have hfz164_5 := blk_frozen BK167.out 5) | ((with_reducible refine gate_callee (f := 28) rfl ?_); refine goesL_ (some 113) rfl rfl Try.func28 (by kernel_rfl) rfl #[.agg #[.int .i64 t161, .int .i64 t162], .agg #[.int .i64 t163, .int .i64 t164], .int .i64 t165, .int .i64 t166] rfl (by (try simp only [List.map_toArray, List.map_cons, List.map_nil]); first | done | rfl | (simp only [List.length_drop, List.length_take]; rfl)) ?_; (with_reducible refine (affine_Count.calls k1 t161 t162 t163 t164 t165 t166 t177 t178 _ A62.out).mono ?_); rintro e w165 ⟨rfl, hb⟩; refine ⟨_, rfl, ?_⟩; have n0_ := Aside0.mk (blk_below (g := gb160) (o := .cells #[.int .i64 a0_0, .int .i64 a0_1, .int .i64 a0_2, .int .i64 a0_3, .int .i64 a0_4, .int .i64 a0_5] 35 (0, 0)) (by (with_reducible repeat (first | refine blk_drewN ?_ _ | refine blk_drew ?_ | refine blk_alloc ?_ _)); exact BK160.out) hb); have n1_ := Aside0.mk (blk_below (g := gb167) (o := .cells #[.int .i64 t161, .int .i64 t162, .int .i64 t163, .int .i64 t164, .int .i64 t165, .int .i64 t166] 35 (0, 0)) (by (with_reducible repeat (first | refine blk_drewN ?_ _ | refine blk_drew ?_ | refine blk_alloc ?_ _)); exact BK167.out) hb); have n2_ := Aside0.mk (below_step (by repeat (first | (with_reducible first | exact HB.out | apply below_alloc | apply pw_below_drewN | apply below_drew1 | refine below_set ?_ GE160.out | refine below_set ?_ GE167.out) | exact HB.out)) hb); clear BK160; clear BK167; clear HB; have BK160 := n0_; have BK167 := n1_; have HB := n2_; clear n0_ n1_ n2_; (try clear hb); (try clear hb2); (try clear hk); (try clear hi); have hcz166_0 : w165.cell? ⟨gb167, 0, none⟩ = some (.int .i64 t161) := (blk_cell BK167.out 0).trans rfl; have hcz166_1 : w165.cell? ⟨gb167, 1, none⟩ = some (.int .i64 t162) := (blk_cell BK167.out 1).trans rfl; have hcz166_2 : w165.cell? ⟨gb167, 2, none⟩ = some (.int .i64 t163) := (blk_cell BK167.out 2).trans rfl; have hcz166_3 : w165.cell? ⟨gb167, 3, none⟩ = some (.int .i64 t164) := (blk_cell BK167.out 3).trans rfl; have hcz166_4 : w165.cell? ⟨gb167, 4, none⟩ = some (.int .i64 t165) := (blk_cell BK167.out 4).trans rfl; have hcz166_5 : w165.cell? ⟨gb167, 5, none⟩ = some (.int .i64 t166) := (blk_cell BK167.out 5).trans rfl; have hfz166_0 := blk_frozen BK167.out 0; have hfz166_1 := blk_frozen BK167.out 1; have hfz166_2 := blk_frozen BK167.out 2; have hfz166_3 := blk_frozen BK167.out 3; have hfz166_4 := blk_frozen BK167.out 4; have hfz166_5 := blk_frozen BK167.out 5) | ((with_reducible refine gate_callee (f := 18) rfl ?_); refine goesL_ (some 124) rfl rfl Try.func18 (by kernel_rfl) rfl #[.agg #[.int .i64 t161, .int .i64 t162], .agg #[.int .i64 t163, .int .i64 t164], .int .i64 t165, .int .i64 (wrap64 (t168 - 45))] rfl (by (try simp only [List.map_toArray, List.map_cons, List.map_nil]); first | done | rfl | (simp only [List.length_drop, List.length_take]; rfl)) ?_; (with_reducible refine (affine_Ahead.calls k1 t161 t162 t163 t164 t165 (wrap64 (t168 - 45)) t179 false t181 _ A63.out).mono ?_); rintro e w167 ⟨rfl, hb⟩; refine ⟨_, rfl, ?_⟩; have n0_ := Aside0.mk (blk_below (g := gb160) (o := .cells #[.int .i64 a0_0, .int .i64 a0_1, .int .i64 a0_2, .int .i64 a0_3, .int .i64 a0_4, .int .i64 a0_5] 35 (0, 0)) (by (with_reducible repeat (first | refine blk_drewN ?_ _ | refine blk_drew ?_ | refine blk_alloc ?_ _)); exact BK160.out) hb); have n1_ := Aside0.mk (blk_below (g := gb167) (o := .cells #[.int .i64 t161, .int .i64 t162, .int .i64 t163, .int .i64 t164, .int .i64 t165, .int .i64 t166] 35 (0, 0)) (by (with_reducible repeat (first | refine blk_drewN ?_ _ | refine blk_drew ?_ | refine blk_alloc ?_ _)); exact BK167.out) hb); have n2_ := Aside0.mk (below_step (by repeat (first | (with_reducible first | exact HB.out | apply below_alloc | apply pw_below_drewN | apply below_drew1 | refine below_set ?_ GE160.out | refine below_set ?_ GE167.out) | exact HB.out)) hb); clear BK160; clear BK167; clear HB; have BK160 := n0_; have BK167 := n1_; have HB := n2_; clear n0_ n1_ n2_; (try clear hb); (try clear hb2); (try clear hk); (try clear hi); have hcz168_0 : w167.cell? ⟨gb167, 0, none⟩ = some (.int .i64 t161) := (blk_cell BK167.out 0).trans rfl; have hcz168_1 : w167.cell? ⟨gb167, 1, none⟩ = some (.int .i64 t162) := (blk_cell BK167.out 1).trans rfl; have hcz168_2 : w167.cell? ⟨gb167, 2, none⟩ = some (.int .i64 t163) := (blk_cell BK167.out 2).trans rfl; have hcz168_3 : w167.cell? ⟨gb167, 3, none⟩ = some (.int .i64 t164) := (blk_cell BK167.out 3).trans rfl; have hcz168_4 : w167.cell? ⟨gb167, 4, none⟩ = some (.int .i64 t165) := (blk_cell BK167.out 4).trans rfl; have hcz168_5 : w167.cell? ⟨gb167, 5, none⟩ = some (.int .i64 t166) := (blk_cell BK167.out 5).trans rfl; have hfz168_0 := blk_frozen BK167.out 0; have hfz168_1 := blk_frozen BK167.out 1; have hfz168_2 := blk_frozen BK167.out 2; have hfz168_3 := blk_frozen BK167.out 3; have hfz168_4 := blk_frozen BK167.out 4; have hfz168_5 := blk_frozen BK167.out 5) | ((with_reducible refine gate_callee (f := 19) rfl ?_); refine goesL_ (some 135) rfl rfl Try.func19 (by kernel_rfl) rfl #[.agg #[.int .i64 t161, .int .i64 t162], .agg #[.int .i64 t163, .int .i64 t164], .int .i64 t165] rfl (by (try simp only [List.map_toArray, List.map_cons, List.map_nil]); first | done | rfl | (simp only [List.length_drop, List.length_take]; rfl)) ?_; (with_reducible refine (affine_Behind.calls k1 t161 t162 t163 t164 t165 t182 false t184 _ A64.out).mono ?_); rintro e w169 ⟨rfl, hb⟩; refine ⟨_, rfl, ?_⟩; have n0_ := Aside0.mk (blk_below (g := gb160) (o := .cells #[.int .i64 a0_0, .int .i64 a0_1, .int .i64 a0_2, .int .i64 a0_3, .int .i64 a0_4, .int .i64 a0_5] 35 (0, 0)) (by (with_reducible repeat (first | refine blk_drewN ?_ _ | refine blk_drew ?_ | refine blk_alloc ?_ _)); exact BK160.out) hb); have n1_ := Aside0.mk (blk_below (g := gb167) (o := .cells #[.int .i64 t161, .int .i64 t162, .int .i64 t163, .int .i64 t164, .int .i64 t165, .int .i64 t166] 35 (0, 0)) (by (with_reducible repeat (first | refine blk_drewN ?_ _ | refine blk_drew ?_ | refine blk_alloc ?_ _)); exact BK167.out) hb); have n2_ := Aside0.mk (below_step (by repeat (first | (with_reducible first | exact HB.out | apply below_alloc | apply pw_below_drewN | apply below_drew1 | refine below_set ?_ GE160.out | refine below_set ?_ GE167.out) | exact HB.out)) hb); clear BK160; clear BK167; clear HB; have BK160 := n0_; have BK167 := n1_; have HB := n2_; clear n0_ n1_ n2_; (try clear hb); (try clear hb2); (try clear hk); (try clear hi)) | (go_at_call 16; (with_reducible refine (biremelaw14_alive.calls k1  t188 _ A160.out).mono ?_); rintro e w170 ⟨rfl, hb⟩; have n0_ := Aside0.mk (blk_below (g := gb160) (o := .cells #[.int .i64 a0_0, .int .i64 a0_1, .int .i64 a0_2, .int .i64 a0_3, .int .i64 a0_4, .int .i64 a0_5] 35 (0, 0)) (by (with_reducible repeat (first | refine blk_drewN ?_ _ | refine blk_drew ?_ | refine blk_alloc ?_ _)); exact BK160.out) hb); have n1_ := Aside0.mk (blk_below (g := gb167) (o := .cells #[.int .i64 t161, .int .i64 t162, .int .i64 t163, .int .i64 t164, .int .i64 t165, .int .i64 t166] 35 (0, 0)) (by (with_reducible repeat (first | refine blk_drewN ?_ _ | refine blk_drew ?_ | refine blk_alloc ?_ _)); exact BK167.out) hb); have n2_ := Aside0.mk (below_step (by repeat (first | (with_reducible first | exact HB.out | apply below_alloc | apply pw_below_drewN | apply below_drew1 | refine below_set ?_ GE160.out | refine below_set ?_ GE167.out) | exact HB.out)) hb); clear BK160; clear BK167; clear HB; have BK160 := n0_; have BK167 := n1_; have HB := n2_; clear n0_ n1_ n2_; (try clear hb); (try clear hb2); (try clear hk); (try clear hi)))
                                go_ret
                                exact ⟨by first | rfl | (simp [errW_none, errW_some] <;> rfl) | (simp [*, errW_none, errW_some] <;> rfl), by repeat (first | (with_reducible first | exact HB.out | apply below_alloc | apply pw_below_drewN | apply below_drew1 | refine below_set ?_ GE160.out | refine below_set ?_ GE167.out) | exact HB.out)⟩
                            · rw [if_neg c137] at H
                              have c137b0 : (t183 == (decide (x10_1 > (-100)))) = false := by simpa using c137
                              (try (have c137b1 : decide (t183 = (decide (x10_1 > (-100)))) = false := by simpa using c137))
                              (try (have c137b2 : (t183 == (decide (x10_1 > (-100)))) = false := by simpa using c137))
                              (try (have c137b3 : ¬ (t183 = (decide (x10_1 > (-100)))) := by simpa using c137))
                              clear c137
                              exact absurd ((Option.some.inj H).trans hr) (by decide)
                        · rw [if_neg c82] at H
                          have c82b0 : (t180 == (decide (x9_1 < 100))) = false := by simpa using c82
                          (try (have c82b1 : decide (t180 = (decide (x9_1 < 100))) = false := by simpa using c82))
                          (try (have c82b2 : (t180 == (decide (x9_1 < 100))) = false := by simpa using c82))
                          (try (have c82b3 : ¬ (t180 = (decide (x9_1 < 100))) := by simpa using c82))
                          clear c82
                          exact absurd ((Option.some.inj H).trans hr) (by decide)
                      · rw [if_neg c81] at H
                        have c81b0 : (t174 == x12_1) = false := beq_eq_false_iff_ne.mpr c81
                        have c81b1 : (t174 != x12_1) = true := bne_iff_ne.mpr c81
                        exact absurd ((Option.some.inj H).trans hr) (by decide)
                    · rw [if_neg c80] at H
                      have c80b0 : (t173 == x11_1) = false := beq_eq_false_iff_ne.mpr c80
                      have c80b1 : (t173 != x11_1) = true := bne_iff_ne.mpr c80
                      exact absurd ((Option.some.inj H).trans hr) (by decide)
                  · rw [if_neg c79] at H
                    have c79b0 : (t177 == x8_1) = false := beq_eq_false_iff_ne.mpr c79
                    have c79b1 : (t177 != x8_1) = true := bne_iff_ne.mpr c79
                    exact absurd ((Option.some.inj H).trans hr) (by decide)
              · rw [if_neg c68] at H
                have c68b0 : (t184 == 0) = false := beq_eq_false_iff_ne.mpr c68
                have c68b1 : (t184 != 0) = true := bne_iff_ne.mpr c68
                exact absurd ((Option.some.inj H).trans hr) (by decide)
            · rw [if_neg c67] at H
              have c67b0 : (t181 == 0) = false := beq_eq_false_iff_ne.mpr c67
              have c67b1 : (t181 != 0) = true := bne_iff_ne.mpr c67
              exact absurd ((Option.some.inj H).trans hr) (by decide)
          · rw [if_neg c66] at H
            have c66b0 : (t178 == 0) = false := beq_eq_false_iff_ne.mpr c66
            have c66b1 : (t178 != 0) = true := bne_iff_ne.mpr c66
            exact absurd ((Option.some.inj H).trans hr) (by decide)
        · rw [if_neg c65] at H
          have c65b0 : (t176 == 0) = false := beq_eq_false_iff_ne.mpr c65
          have c65b1 : (t176 != 0) = true := bne_iff_ne.mpr c65
          exact absurd ((Option.some.inj H).trans hr) (by decide)
end Go.Proofs.Ytiedehjmhlgicaa.PAll
