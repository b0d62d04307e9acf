/- The walk of the law AffineAheads: a call of it returns what its plain definition tells, and changes no block that was there before. -/
import Derived.Test.YtiedehjmhlgicaaN6
import Derived.Test.YtiedehjmhlgicaaN9d
import Derived.Test.YtiedehjmhlgicaaN9e
namespace Go.Proofs.Ytiedehjmhlgicaa.PAll
open Go.RowKit Go.Proofs.YtiedehjmhlgicaaW.PrintWords Go.Proofs.YtiedehjmhlgicaaW.PrintLast Go.Proofs.YtiedehjmhlgicaaW.PrintMore
attribute [local go_sem] max2_int min2_int max_two min_two max_three min_three max_four min_four   -- for this text's walks alone
attribute [local go_sem high] eqA23
set_option linter.unusedVariables false
set_option linter.unusedSimpArgs false

set_option maxHeartbeats 8000000 in
set_option maxRecDepth 100000 in
theorem biremelaw14_AffineAheads.calls (k : Nat) (a0_0 : Int) (a0_1 : Int) (a0_2 : Int) (a0_3 : Int) (a0_4 : Int) (a0_5 : Int) (a1 : Int) (r : Bool) (hr : r = true) (w : World) (h : biremelaw14_AffineAheads.f k a0_0 a0_1 a0_2 a0_3 a0_4 a0_5 a1 = some r) :
  Calls Try.prog 4 #[.agg #[.int .i64 a0_0, .int .i64 a0_1, .int .i64 a0_2, .int .i64 a0_3, .int .i64 a0_4, .int .i64 a0_5], .int .i64 a1] w fun e w' => e = .returned (.bool r) ∧ Below w.heap.size w w' := by
 have hu35 := Try.underlying35
 have hu33 := Try.underlying33
 have HB := Aside0.mk (Below.refl w.heap.size w)
 have H : ((affine_Ahead.f k a0_0 a0_1 a0_2 a0_3 a0_4 a1).bind fun bt539 => ((affine_Behind.f k a0_0 a0_1 a0_2 a0_3 a0_4).bind fun bt542 => ((biremeref14_Line.f k a0_0 a0_1).bind fun t545 => (if t545 = true then ((biremeref14_Line.f k a0_2 a0_3).bind fun t546 => (if t546 = true then ((biremeref14_Within.f k (([a0_4] : List Int))).bind fun t550 => (biremelaw14_AffineAheads.j0 k a1 bt539.1 bt539.2.1 bt539.2.2 bt542.1 bt542.2.1 bt542.2.2 t550 a0_0 a0_1 a0_2 a0_3 a0_4 a0_5)) else (biremelaw14_AffineAheads.j0 k a1 bt539.1 bt539.2.1 bt539.2.2 bt542.1 bt542.2.1 bt542.2.2 false a0_0 a0_1 a0_2 a0_3 a0_4 a0_5))) else (biremelaw14_AffineAheads.j0 k a1 bt539.1 bt539.2.1 bt539.2.2 bt542.1 bt542.2.1 bt542.2.2 false a0_0 a0_1 a0_2 a0_3 a0_4 a0_5))))) = some r := h
 clear h
 replace H := Option.bind_eq_some_iff.mp H
 obtain ⟨⟨t539, t540, t541⟩, A30, H⟩ := H
 replace H : ((affine_Behind.f k a0_0 a0_1 a0_2 a0_3 a0_4).bind fun bt542 => ((biremeref14_Line.f k a0_0 a0_1).bind fun t545 => (if t545 = true then ((biremeref14_Line.f k a0_2 a0_3).bind fun t546 => (if t546 = true then ((biremeref14_Within.f k (([a0_4] : List Int))).bind fun t550 => (biremelaw14_AffineAheads.j0 k a1 t539 t540 t541 bt542.1 bt542.2.1 bt542.2.2 t550 a0_0 a0_1 a0_2 a0_3 a0_4 a0_5)) else (biremelaw14_AffineAheads.j0 k a1 t539 t540 t541 bt542.1 bt542.2.1 bt542.2.2 false a0_0 a0_1 a0_2 a0_3 a0_4 a0_5))) else (biremelaw14_AffineAheads.j0 k a1 t539 t540 t541 bt542.1 bt542.2.1 bt542.2.2 false a0_0 a0_1 a0_2 a0_3 a0_4 a0_5)))) = some r := H
 have A3 := Aside0.mk A30
 clear A30
 replace H := Option.bind_eq_some_iff.mp H
 obtain ⟨⟨t542, t543, t544⟩, A40, H⟩ := H
 replace H : ((biremeref14_Line.f k a0_0 a0_1).bind fun t545 => (if t545 = true then ((biremeref14_Line.f k a0_2 a0_3).bind fun t546 => (if t546 = true then ((biremeref14_Within.f k (([a0_4] : List Int))).bind fun t550 => (biremelaw14_AffineAheads.j0 k a1 t539 t540 t541 t542 t543 t544 t550 a0_0 a0_1 a0_2 a0_3 a0_4 a0_5)) else (biremelaw14_AffineAheads.j0 k a1 t539 t540 t541 t542 t543 t544 false a0_0 a0_1 a0_2 a0_3 a0_4 a0_5))) else (biremelaw14_AffineAheads.j0 k a1 t539 t540 t541 t542 t543 t544 false a0_0 a0_1 a0_2 a0_3 a0_4 a0_5))) = some r := H
 have A4 := Aside0.mk A40
 clear A40
 have HC5 := Aside0.mk H
 clear H
 go_enter Try.func4, Try.ntmps4
 go_upto_region 3 with (first | ((with_reducible refine gate_dst (N := 2) rfl ?_); (try (refine gate_guard (by rfl) ?_; dsimp only)); refine box_event ?hg (N := 2) ?hd (cs := #[.int .i64 a0_0, .int .i64 a0_1, .int .i64 a0_2, .int .i64 a0_3, .int .i64 a0_4, .int .i64 a0_5]) (t := 35) ?hr ?_; (case hd => rfl); (case hg => rfl); (case hr => first | (go_simp; done) | (go_simp; rfl)); intro gb538 hg w6 hbox hb; have n0_ := Aside0.mk (below_step (by repeat (first | (with_reducible first | exact HB.out | apply below_alloc | apply pw_below_drewN | apply below_drew1) | exact HB.out)) hb); have n1_ := Aside0.mk (hbox); have n2_ := Aside0.mk ((by rw [hg]; exact (below_size (by repeat (first | (with_reducible first | exact HB.out | apply below_alloc | apply pw_below_drewN | apply below_drew1) | exact HB.out))) : w.heap.size ≤ gb538)); have n3_ := Aside0.mk ((by rw [hg]; exact (below_size (by repeat (first | (with_reducible first | exact HB.out | apply below_alloc | apply pw_below_drewN | apply below_drew1) | exact HB.out))) : w.heap.size ≤ gb538)); clear HB; have HB := n0_; have BK538 := n1_; have GW538 := n2_; have GE538 := n3_; clear n0_ n1_ n2_ n3_; clear hb hbox hg; have hcz7_0 : w6.cell? ⟨gb538, 0, none⟩ = some (.int .i64 a0_0) := (blk_cell BK538.out 0).trans rfl; have hcz7_1 : w6.cell? ⟨gb538, 1, none⟩ = some (.int .i64 a0_1) := (blk_cell BK538.out 1).trans rfl; have hcz7_2 : w6.cell? ⟨gb538, 2, none⟩ = some (.int .i64 a0_2) := (blk_cell BK538.out 2).trans rfl; have hcz7_3 : w6.cell? ⟨gb538, 3, none⟩ = some (.int .i64 a0_3) := (blk_cell BK538.out 3).trans rfl; have hcz7_4 : w6.cell? ⟨gb538, 4, none⟩ = some (.int .i64 a0_4) := (blk_cell BK538.out 4).trans rfl; have hcz7_5 : w6.cell? ⟨gb538, 5, none⟩ = some (.int .i64 a0_5) := (blk_cell BK538.out 5).trans rfl; have hfz7_0 := blk_frozen BK538.out 0; have hfz7_1 := blk_frozen BK538.out 1; have hfz7_2 := blk_frozen BK538.out 2; have hfz7_3 := blk_frozen BK538.out 3; have hfz7_4 := blk_frozen BK538.out 4; have hfz7_5 := blk_frozen BK538.out 5) | ((with_reducible refine gate_callee (f := 18) rfl ?_); refine goesL_ (some 24) rfl rfl Try.func18 (by kernel_rfl) rfl #[.agg #[.int .i64 a0_0, .int .i64 a0_1], .agg #[.int .i64 a0_2, .int .i64 a0_3], .int .i64 a0_4, .int .i64 a1] rfl (by (try simp only [List.map_toArray, List.map_cons, List.map_nil]); first | done | rfl | (simp only [List.length_drop, List.length_take]; rfl)) ?_; (with_reducible refine (affine_Ahead.calls k a0_0 a0_1 a0_2 a0_3 a0_4 a1 t539 t540 t541 _ A3.out).mono ?_); rintro e w8 ⟨rfl, hb⟩; refine ⟨_, rfl, ?_⟩; have n0_ := Aside0.mk (blk_below (g := gb538) (o := .cells #[.int .i64 a0_0, .int .i64 a0_1, .int .i64 a0_2, .int .i64 a0_3, .int .i64 a0_4, .int .i64 a0_5] 35 (0, 0)) (by (with_reducible repeat (first | refine blk_drewN ?_ _ | refine blk_drew ?_ | refine blk_alloc ?_ _)); exact BK538.out) hb); have n1_ := Aside0.mk (below_step (by repeat (first | (with_reducible first | exact HB.out | apply below_alloc | apply pw_below_drewN | apply below_drew1 | refine below_set ?_ GE538.out) | exact HB.out)) hb); clear BK538; clear HB; have BK538 := n0_; have HB := n1_; clear n0_ n1_; (try clear hb); (try clear hb2); (try clear hk); (try clear hi); have hcz9_0 : w8.cell? ⟨gb538, 0, none⟩ = some (.int .i64 a0_0) := (blk_cell BK538.out 0).trans rfl; have hcz9_1 : w8.cell? ⟨gb538, 1, none⟩ = some (.int .i64 a0_1) := (blk_cell BK538.out 1).trans rfl; have hcz9_2 : w8.cell? ⟨gb538, 2, none⟩ = some (.int .i64 a0_2) := (blk_cell BK538.out 2).trans rfl; have hcz9_3 : w8.cell? ⟨gb538, 3, none⟩ = some (.int .i64 a0_3) := (blk_cell BK538.out 3).trans rfl; have hcz9_4 : w8.cell? ⟨gb538, 4, none⟩ = some (.int .i64 a0_4) := (blk_cell BK538.out 4).trans rfl; have hcz9_5 : w8.cell? ⟨gb538, 5, none⟩ = some (.int .i64 a0_5) := (blk_cell BK538.out 5).trans rfl; have hfz9_0 := blk_frozen BK538.out 0; have hfz9_1 := blk_frozen BK538.out 1; have hfz9_2 := blk_frozen BK538.out 2; have hfz9_3 := blk_frozen BK538.out 3; have hfz9_4 := blk_frozen BK538.out 4; have hfz9_5 := blk_frozen BK538.out 5) | ((with_reducible refine gate_callee (f := 19) rfl ?_); refine goesL_ (some 35) rfl rfl Try.func19 (by kernel_rfl) rfl #[.agg #[.int .i64 a0_0, .int .i64 a0_1], .agg #[.int .i64 a0_2, .int .i64 a0_3], .int .i64 a0_4] rfl (by (try simp only [List.map_toArray, List.map_cons, List.map_nil]); first | done | rfl | (simp only [List.length_drop, List.length_take]; rfl)) ?_; (with_reducible refine (affine_Behind.calls k a0_0 a0_1 a0_2 a0_3 a0_4 t542 t543 t544 _ A4.out).mono ?_); rintro e w10 ⟨rfl, hb⟩; refine ⟨_, rfl, ?_⟩; have n0_ := Aside0.mk (blk_below (g := gb538) (o := .cells #[.int .i64 a0_0, .int .i64 a0_1, .int .i64 a0_2, .int .i64 a0_3, .int .i64 a0_4, .int .i64 a0_5] 35 (0, 0)) (by (with_reducible repeat (first | refine blk_drewN ?_ _ | refine blk_drew ?_ | refine blk_alloc ?_ _)); exact BK538.out) hb); have n1_ := Aside0.mk (below_step (by repeat (first | (with_reducible first | exact HB.out | apply below_alloc | apply pw_below_drewN | apply below_drew1 | refine below_set ?_ GE538.out) | exact HB.out)) hb); clear BK538; clear HB; have BK538 := n0_; have HB := n1_; clear n0_ n1_; (try clear hb); (try clear hb2); (try clear hk); (try clear hi)))
 (try simp only [Act.put, List.setIfInBounds_toArray, List.set_cons_zero, List.set_cons_succ])
 go_cut [11] (fun v11 wc => ∃ (kq : Nat) (x11_4 : Bool), v11 = .bool x11_4 ∧ Aside0 (biremelaw14_AffineAheads.j0 kq a1 t539 t540 t541 t542 t543 t544 x11_4 a0_0 a0_1 a0_2 a0_3 a0_4 a0_5 = some r) ∧ Aside0 (kq ≤ k) ∧ Aside0 (wc.heap[gb538]? = some (.cells #[.int .i64 a0_0, .int .i64 a0_1, .int .i64 a0_2, .int .i64 a0_3, .int .i64 a0_4, .int .i64 a0_5] 35 (0, 0))) ∧ Aside0 (Below w.heap.size w wc))
 case first =>
  have H := HC5.out
  clear HC5
  replace H := Option.bind_eq_some_iff.mp H
  obtain ⟨t545, A110, H⟩ := H
  replace H : (if t545 = true then ((biremeref14_Line.f k a0_2 a0_3).bind fun t546 => (if t546 = true then ((biremeref14_Within.f k (([a0_4] : List Int))).bind fun t550 => (biremelaw14_AffineAheads.j0 k a1 t539 t540 t541 t542 t543 t544 t550 a0_0 a0_1 a0_2 a0_3 a0_4 a0_5)) else (biremelaw14_AffineAheads.j0 k a1 t539 t540 t541 t542 t543 t544 false a0_0 a0_1 a0_2 a0_3 a0_4 a0_5))) else (biremelaw14_AffineAheads.j0 k a1 t539 t540 t541 t542 t543 t544 false a0_0 a0_1 a0_2 a0_3 a0_4 a0_5)) = some r := H
  have A11 := Aside0.mk A110
  clear A110
  by_cases c12 : t545 = true
  ·subst c12
   have H1 : ((biremeref14_Line.f k a0_2 a0_3).bind fun t546 => (if t546 = true then ((biremeref14_Within.f k (([a0_4] : List Int))).bind fun t550 => (biremelaw14_AffineAheads.j0 k a1 t539 t540 t541 t542 t543 t544 t550 a0_0 a0_1 a0_2 a0_3 a0_4 a0_5)) else (biremelaw14_AffineAheads.j0 k a1 t539 t540 t541 t542 t543 t544 false a0_0 a0_1 a0_2 a0_3 a0_4 a0_5))) = some r := by rw [if_pos rfl] at H; exact H
   clear H
   have H := H1
   clear H1
   replace H := Option.bind_eq_some_iff.mp H
   obtain ⟨t546, A130, H⟩ := H
   replace H : (if t546 = true then ((biremeref14_Within.f k (([a0_4] : List Int))).bind fun t550 => (biremelaw14_AffineAheads.j0 k a1 t539 t540 t541 t542 t543 t544 t550 a0_0 a0_1 a0_2 a0_3 a0_4 a0_5)) else (biremelaw14_AffineAheads.j0 k a1 t539 t540 t541 t542 t543 t544 false a0_0 a0_1 a0_2 a0_3 a0_4 a0_5)) = some r := H
   have A13 := Aside0.mk A130
   clear A130
   by_cases c14 : t546 = true
   ·subst c14
    have H1 : ((biremeref14_Within.f k (([a0_4] : List Int))).bind fun t550 => (biremelaw14_AffineAheads.j0 k a1 t539 t540 t541 t542 t543 t544 t550 a0_0 a0_1 a0_2 a0_3 a0_4 a0_5)) = some r := by rw [if_pos rfl] at H; exact H
    clear H
    have H := H1
    clear H1
    obtain ⟨y547, hy547⟩ : ∃ y_ : List Int, y_ = (([a0_4] : List Int)) := ⟨_, rfl⟩
    replace H : ((biremeref14_Within.f k y547).bind fun t550 => (biremelaw14_AffineAheads.j0 k a1 t539 t540 t541 t542 t543 t544 t550 a0_0 a0_1 a0_2 a0_3 a0_4 a0_5)) = some r := by first | (rw [hy547]; with_reducible exact H) | (have H2_ := (Option.bind_some _ _).symm.trans H; rw [hy547]; with_reducible exact H2_) | (have H2_ := (Option.bind_some _ _).symm.trans H; with_reducible exact H2_) | with_reducible exact H | (rw [hy547]; exact H) | exact H
    have Ny547 := Aside0.mk hy547
    clear hy547
    replace H := Option.bind_eq_some_iff.mp H
    obtain ⟨t550, A150, H⟩ := H
    replace H : (biremelaw14_AffineAheads.j0 k a1 t539 t540 t541 t542 t543 t544 t550 a0_0 a0_1 a0_2 a0_3 a0_4 a0_5) = some r := H
    have A15 := Aside0.mk A150
    clear A150
    have H' := Aside0.mk H
    clear H
    have hcz16_0 : w10.cell? ⟨gb538, 0, none⟩ = some (.int .i64 a0_0) := (blk_cell BK538.out 0).trans rfl
    have hcz16_1 : w10.cell? ⟨gb538, 1, none⟩ = some (.int .i64 a0_1) := (blk_cell BK538.out 1).trans rfl
    have hcz16_2 : w10.cell? ⟨gb538, 2, none⟩ = some (.int .i64 a0_2) := (blk_cell BK538.out 2).trans rfl
    have hcz16_3 : w10.cell? ⟨gb538, 3, none⟩ = some (.int .i64 a0_3) := (blk_cell BK538.out 3).trans rfl
    have hcz16_4 : w10.cell? ⟨gb538, 4, none⟩ = some (.int .i64 a0_4) := (blk_cell BK538.out 4).trans rfl
    have hcz16_5 : w10.cell? ⟨gb538, 5, none⟩ = some (.int .i64 a0_5) := (blk_cell BK538.out 5).trans rfl
    have hfz16_0 := blk_frozen BK538.out 0
    have hfz16_1 := blk_frozen BK538.out 1
    have hfz16_2 := blk_frozen BK538.out 2
    have hfz16_3 := blk_frozen BK538.out 3
    have hfz16_4 := blk_frozen BK538.out 4
    have hfz16_5 := blk_frozen BK538.out 5
    go_wp2_with (first | ((with_reducible refine gate_callee (f := 20) rfl ?_); refine goesL_ (some 41) rfl rfl Try.func20 (by kernel_rfl) rfl #[.agg #[.int .i64 a0_0, .int .i64 a0_1]] rfl (by (try simp only [List.map_toArray, List.map_cons, List.map_nil]); first | done | rfl | (simp only [List.length_drop, List.length_take]; rfl)) ?_; (with_reducible refine (biremeref14_Line.calls k a0_0 a0_1 true _ A11.out).mono ?_); rintro e w17 ⟨rfl, hb⟩; refine ⟨_, rfl, ?_⟩; have n0_ := Aside0.mk (blk_below (g := gb538) (o := .cells #[.int .i64 a0_0, .int .i64 a0_1, .int .i64 a0_2, .int .i64 a0_3, .int .i64 a0_4, .int .i64 a0_5] 35 (0, 0)) (by (with_reducible repeat (first | refine blk_drewN ?_ _ | refine blk_drew ?_ | refine blk_alloc ?_ _)); exact BK538.out) hb); have n1_ := Aside0.mk (below_step (by repeat (first | (with_reducible first | exact HB.out | apply below_alloc | apply pw_below_drewN | apply below_drew1 | refine below_set ?_ GE538.out) | exact HB.out)) hb); clear BK538; clear HB; have BK538 := n0_; have HB := n1_; clear n0_ n1_; (try clear hb); (try clear hb2); (try clear hk); (try clear hi); have hcz18_0 : w17.cell? ⟨gb538, 0, none⟩ = some (.int .i64 a0_0) := (blk_cell BK538.out 0).trans rfl; have hcz18_1 : w17.cell? ⟨gb538, 1, none⟩ = some (.int .i64 a0_1) := (blk_cell BK538.out 1).trans rfl; have hcz18_2 : w17.cell? ⟨gb538, 2, none⟩ = some (.int .i64 a0_2) := (blk_cell BK538.out 2).trans rfl; have hcz18_3 : w17.cell? ⟨gb538, 3, none⟩ = some (.int .i64 a0_3) := (blk_cell BK538.out 3).trans rfl; have hcz18_4 : w17.cell? ⟨gb538, 4, none⟩ = some (.int .i64 a0_4) := (blk_cell BK538.out 4).trans rfl; have hcz18_5 : w17.cell? ⟨gb538, 5, none⟩ = some (.int .i64 a0_5) := (blk_cell BK538.out 5).trans rfl; have hfz18_0 := blk_frozen BK538.out 0; have hfz18_1 := blk_frozen BK538.out 1; have hfz18_2 := blk_frozen BK538.out 2; have hfz18_3 := blk_frozen BK538.out 3; have hfz18_4 := blk_frozen BK538.out 4; have hfz18_5 := blk_frozen BK538.out 5) | (go_at_call 20; (with_reducible refine (biremeref14_Line.calls k a0_2 a0_3 true _ A13.out).mono ?_); rintro e w19 ⟨rfl, hb⟩; have n0_ := Aside0.mk (blk_below (g := gb538) (o := .cells #[.int .i64 a0_0, .int .i64 a0_1, .int .i64 a0_2, .int .i64 a0_3, .int .i64 a0_4, .int .i64 a0_5] 35 (0, 0)) (by (with_reducible repeat (first | refine blk_drewN ?_ _ | refine blk_drew ?_ | refine blk_alloc ?_ _)); exact BK538.out) hb); have n1_ := Aside0.mk (below_step (by repeat (first | (with_reducible first | exact HB.out | apply below_alloc | apply pw_below_drewN | apply below_drew1 | refine below_set ?_ GE538.out) | exact HB.out)) hb); clear BK538; clear HB; have BK538 := n0_; have HB := n1_; clear n0_ n1_; (try clear hb); (try clear hb2); (try clear hk); (try clear hi); have hcz20_0 : w19.cell? ⟨gb538, 0, none⟩ = some (.int .i64 a0_0) := (blk_cell BK538.out 0).trans rfl; have hcz20_1 : w19.cell? ⟨gb538, 1, none⟩ = some (.int .i64 a0_1) := (blk_cell BK538.out 1).trans rfl; have hcz20_2 : w19.cell? ⟨gb538, 2, none⟩ = some (.int .i64 a0_2) := (blk_cell BK538.out 2).trans rfl; have hcz20_3 : w19.cell? ⟨gb538, 3, none⟩ = some (.int .i64 a0_3) := (blk_cell BK538.out 3).trans rfl; have hcz20_4 : w19.cell? ⟨gb538, 4, none⟩ = some (.int .i64 a0_4) := (blk_cell BK538.out 4).trans rfl; have hcz20_5 : w19.cell? ⟨gb538, 5, none⟩ = some (.int .i64 a0_5) := (blk_cell BK538.out 5).trans rfl; have hfz20_0 := blk_frozen BK538.out 0; have hfz20_1 := blk_frozen BK538.out 1; have hfz20_2 := blk_frozen BK538.out 2; have hfz20_3 := blk_frozen BK538.out 3; have hfz20_4 := blk_frozen BK538.out 4; have hfz20_5 := blk_frozen BK538.out 5) | ((with_reducible refine gate_dst (N := 50) rfl ?_); (try (refine gate_guard (by rfl) ?_; dsimp only)); refine Kd.R_lit (Kd.int .i64) _ 2 ?hg (N := 50) ?hd (xs := ([a0_4] : List Int)) (inner := [.int .i64 a0_4]) (ok := fun _ => True) (okp := fun _ => True) ?hr ?hp (fun _ hk => hk) trivial (Below.refl _ _) (Nat.le_refl _) (by simp) ?_; (case hd => rfl); (case hg => rfl); (case hr => first | (go_simp; done) | (go_simp; rfl)); (case hp => exact (Reps.one (show Kd.M (Kd.int .i64) _ _ _ a0_4 [.int .i64 a0_4] from rfl) (Reps.none _ _))); intro v548 w21 ho22 hb hg_ hnew_; clear hg_ hnew_; (first | rw [← Ny547.out] at ho22 | (simp only [Int.reduceToNat] at ho22; rw [← Ny547.out] at ho22)); have n0_ := Aside0.mk (Kd.R_lower ho22 (below_size (by repeat (first | (with_reducible first | exact HB.out | apply below_alloc | apply pw_below_drewN | apply below_drew1 | refine below_set ?_ GE538.out) | exact HB.out)))); have n1_ := Aside0.mk (blk_below (g := gb538) (o := .cells #[.int .i64 a0_0, .int .i64 a0_1, .int .i64 a0_2, .int .i64 a0_3, .int .i64 a0_4, .int .i64 a0_5] 35 (0, 0)) (by (with_reducible repeat (first | refine blk_drewN ?_ _ | refine blk_drew ?_ | refine blk_alloc ?_ _)); exact BK538.out) hb); have n2_ := Aside0.mk (below_step (by repeat (first | (with_reducible first | exact HB.out | apply below_alloc | apply pw_below_drewN | apply below_drew1 | refine below_set ?_ GE538.out) | exact HB.out)) hb); clear BK538; clear HB; have HO549 := n0_; have BK538 := n1_; have HB := n2_; clear n0_ n1_ n2_; clear hb ho22; obtain ⟨Ao23, co23, eo23⟩ := Kd.R_slice HO549.out; subst eo23) | (go_at_call 15; (with_reducible refine (biremeref14_Within.calls k _ _ y547 t550 _ ?side1 ?side2 A15.out).mono ?_); (case side1 => repeat (first | exact (Kd.R_reads' HO549.out).2.2 | (with_reducible refine Kd.C_alloc ?_ _) | (with_reducible refine Kd.C_drewN ?_ _) | (with_reducible refine Kd.C_drew ?_))); (case side2 => exact (Kd.R_reads' HO549.out).2.1); rintro e w' ⟨rfl, ⟨nd, rfl⟩⟩))
    go_meet
    case rel => exact ⟨_, (t550), (by first | rfl | (simp; done) | (simp [*]; done)), H', ⟨by first | omega | exact Nat.le_refl _⟩, ⟨by (with_reducible repeat (first | refine blk_drewN ?_ _ | refine blk_drew ?_ | refine blk_alloc ?_ _)); exact BK538.out⟩, ⟨by repeat (first | (with_reducible first | exact HB.out | apply below_alloc | apply pw_below_drewN | apply below_drew1 | refine below_set ?_ GE538.out) | exact HB.out)⟩⟩
   ·replace c14 := Bool.eq_false_iff.mpr c14
    subst c14
    have H1 : (biremelaw14_AffineAheads.j0 k a1 t539 t540 t541 t542 t543 t544 false a0_0 a0_1 a0_2 a0_3 a0_4 a0_5) = some r := by rw [if_neg (show ¬ (false = true) by decide)] at H; exact H
    clear H
    have H := H1
    clear H1
    have H' := Aside0.mk H
    clear H
    have hcz24_0 : w10.cell? ⟨gb538, 0, none⟩ = some (.int .i64 a0_0) := (blk_cell BK538.out 0).trans rfl
    have hcz24_1 : w10.cell? ⟨gb538, 1, none⟩ = some (.int .i64 a0_1) := (blk_cell BK538.out 1).trans rfl
    have hcz24_2 : w10.cell? ⟨gb538, 2, none⟩ = some (.int .i64 a0_2) := (blk_cell BK538.out 2).trans rfl
    have hcz24_3 : w10.cell? ⟨gb538, 3, none⟩ = some (.int .i64 a0_3) := (blk_cell BK538.out 3).trans rfl
    have hcz24_4 : w10.cell? ⟨gb538, 4, none⟩ = some (.int .i64 a0_4) := (blk_cell BK538.out 4).trans rfl
    have hcz24_5 : w10.cell? ⟨gb538, 5, none⟩ = some (.int .i64 a0_5) := (blk_cell BK538.out 5).trans rfl
    have hfz24_0 := blk_frozen BK538.out 0
    have hfz24_1 := blk_frozen BK538.out 1
    have hfz24_2 := blk_frozen BK538.out 2
    have hfz24_3 := blk_frozen BK538.out 3
    have hfz24_4 := blk_frozen BK538.out 4
    have hfz24_5 := blk_frozen BK538.out 5
    go_wp2_with (first | ((with_reducible refine gate_callee (f := 20) rfl ?_); refine goesL_ (some 41) rfl rfl Try.func20 (by kernel_rfl) rfl #[.agg #[.int .i64 a0_0, .int .i64 a0_1]] rfl (by (try simp only [List.map_toArray, List.map_cons, List.map_nil]); first | done | rfl | (simp only [List.length_drop, List.length_take]; rfl)) ?_; (with_reducible refine (biremeref14_Line.calls k a0_0 a0_1 true _ A11.out).mono ?_); rintro e w25 ⟨rfl, hb⟩; refine ⟨_, rfl, ?_⟩; have n0_ := Aside0.mk (blk_below (g := gb538) (o := .cells #[.int .i64 a0_0, .int .i64 a0_1, .int .i64 a0_2, .int .i64 a0_3, .int .i64 a0_4, .int .i64 a0_5] 35 (0, 0)) (by (with_reducible repeat (first | refine blk_drewN ?_ _ | refine blk_drew ?_ | refine blk_alloc ?_ _)); exact BK538.out) hb); have n1_ := Aside0.mk (below_step (by repeat (first | (with_reducible first | exact HB.out | apply below_alloc | apply pw_below_drewN | apply below_drew1 | refine below_set ?_ GE538.out) | exact HB.out)) hb); clear BK538; clear HB; have BK538 := n0_; have HB := n1_; clear n0_ n1_; (try clear hb); (try clear hb2); (try clear hk); (try clear hi); have hcz26_0 : w25.cell? ⟨gb538, 0, none⟩ = some (.int .i64 a0_0) := (blk_cell BK538.out 0).trans rfl; have hcz26_1 : w25.cell? ⟨gb538, 1, none⟩ = some (.int .i64 a0_1) := (blk_cell BK538.out 1).trans rfl; have hcz26_2 : w25.cell? ⟨gb538, 2, none⟩ = some (.int .i64 a0_2) := (blk_cell BK538.out 2).trans rfl; have hcz26_3 : w25.cell? ⟨gb538, 3, none⟩ = some (.int .i64 a0_3) := (blk_cell BK538.out 3).trans rfl; have hcz26_4 : w25.cell? ⟨gb538, 4, none⟩ = some (.int .i64 a0_4) := (blk_cell BK538.out 4).trans rfl; have hcz26_5 : w25.cell? ⟨gb538, 5, none⟩ = some (.int .i64 a0_5) := (blk_cell BK538.out 5).trans rfl; have hfz26_0 := blk_frozen BK538.out 0; have hfz26_1 := blk_frozen BK538.out 1; have hfz26_2 := blk_frozen BK538.out 2; have hfz26_3 := blk_frozen BK538.out 3; have hfz26_4 := blk_frozen BK538.out 4; have hfz26_5 := blk_frozen BK538.out 5) | (go_at_call 20; (with_reducible refine (biremeref14_Line.calls k a0_2 a0_3 false _ A13.out).mono ?_); rintro e w27 ⟨rfl, hb⟩; have n0_ := Aside0.mk (blk_below (g := gb538) (o := .cells #[.int .i64 a0_0, .int .i64 a0_1, .int .i64 a0_2, .int .i64 a0_3, .int .i64 a0_4, .int .i64 a0_5] 35 (0, 0)) (by (with_reducible repeat (first | refine blk_drewN ?_ _ | refine blk_drew ?_ | refine blk_alloc ?_ _)); exact BK538.out) hb); have n1_ := Aside0.mk (below_step (by repeat (first | (with_reducible first | exact HB.out | apply below_alloc | apply pw_below_drewN | apply below_drew1 | refine below_set ?_ GE538.out) | exact HB.out)) hb); clear BK538; clear HB; have BK538 := n0_; have HB := n1_; clear n0_ n1_; (try clear hb); (try clear hb2); (try clear hk); (try clear hi)))
    go_meet
    case rel => exact ⟨_, (false), (by first | rfl | (simp; done) | (simp [*]; done)), H', ⟨by first | omega | exact Nat.le_refl _⟩, ⟨by (with_reducible repeat (first | refine blk_drewN ?_ _ | refine blk_drew ?_ | refine blk_alloc ?_ _)); exact BK538.out⟩, ⟨by repeat (first | (with_reducible first | exact HB.out | apply below_alloc | apply pw_below_drewN | apply below_drew1 | refine below_set ?_ GE538.out) | exact HB.out)⟩⟩
  ·replace c12 := Bool.eq_false_iff.mpr c12
   subst c12
   have H1 : (biremelaw14_AffineAheads.j0 k a1 t539 t540 t541 t542 t543 t544 false a0_0 a0_1 a0_2 a0_3 a0_4 a0_5) = some r := by rw [if_neg (show ¬ (false = true) by decide)] at H; exact H
   clear H
   have H := H1
   clear H1
   have H' := Aside0.mk H
   clear H
   have hcz28_0 : w10.cell? ⟨gb538, 0, none⟩ = some (.int .i64 a0_0) := (blk_cell BK538.out 0).trans rfl
   have hcz28_1 : w10.cell? ⟨gb538, 1, none⟩ = some (.int .i64 a0_1) := (blk_cell BK538.out 1).trans rfl
   have hcz28_2 : w10.cell? ⟨gb538, 2, none⟩ = some (.int .i64 a0_2) := (blk_cell BK538.out 2).trans rfl
   have hcz28_3 : w10.cell? ⟨gb538, 3, none⟩ = some (.int .i64 a0_3) := (blk_cell BK538.out 3).trans rfl
   have hcz28_4 : w10.cell? ⟨gb538, 4, none⟩ = some (.int .i64 a0_4) := (blk_cell BK538.out 4).trans rfl
   have hcz28_5 : w10.cell? ⟨gb538, 5, none⟩ = some (.int .i64 a0_5) := (blk_cell BK538.out 5).trans rfl
   have hfz28_0 := blk_frozen BK538.out 0
   have hfz28_1 := blk_frozen BK538.out 1
   have hfz28_2 := blk_frozen BK538.out 2
   have hfz28_3 := blk_frozen BK538.out 3
   have hfz28_4 := blk_frozen BK538.out 4
   have hfz28_5 := blk_frozen BK538.out 5
   go_wp2_with (first | ((with_reducible refine gate_callee (f := 20) rfl ?_); refine goesL_ (some 41) rfl rfl Try.func20 (by kernel_rfl) rfl #[.agg #[.int .i64 a0_0, .int .i64 a0_1]] rfl (by (try simp only [List.map_toArray, List.map_cons, List.map_nil]); first | done | rfl | (simp only [List.length_drop, List.length_take]; rfl)) ?_; (with_reducible refine (biremeref14_Line.calls k a0_0 a0_1 false _ A11.out).mono ?_); rintro e w29 ⟨rfl, hb⟩; refine ⟨_, rfl, ?_⟩; have n0_ := Aside0.mk (blk_below (g := gb538) (o := .cells #[.int .i64 a0_0, .int .i64 a0_1, .int .i64 a0_2, .int .i64 a0_3, .int .i64 a0_4, .int .i64 a0_5] 35 (0, 0)) (by (with_reducible repeat (first | refine blk_drewN ?_ _ | refine blk_drew ?_ | refine blk_alloc ?_ _)); exact BK538.out) hb); have n1_ := Aside0.mk (below_step (by repeat (first | (with_reducible first | exact HB.out | apply below_alloc | apply pw_below_drewN | apply below_drew1 | refine below_set ?_ GE538.out) | exact HB.out)) hb); clear BK538; clear HB; have BK538 := n0_; have HB := n1_; clear n0_ n1_; (try clear hb); (try clear hb2); (try clear hk); (try clear hi)))
   go_meet
   case rel => exact ⟨_, (false), (by first | rfl | (simp; done) | (simp [*]; done)), H', ⟨by first | omega | exact Nat.le_refl _⟩, ⟨by (with_reducible repeat (first | refine blk_drewN ?_ _ | refine blk_drew ?_ | refine blk_alloc ?_ _)); exact BK538.out⟩, ⟨by repeat (first | (with_reducible first | exact HB.out | apply below_alloc | apply pw_below_drewN | apply below_drew1 | refine below_set ?_ GE538.out) | exact HB.out)⟩⟩
 case rest =>
  clear HC5
  try clear c1
  try clear c2
  try clear p2
  try clear c4
  try clear c12
  try clear c14
  try clear c18
  try clear c19
  try clear c20
  try clear hcz16_0
  try clear hcz16_1
  try clear hcz16_2
  try clear hcz16_3
  try clear hcz16_4
  try clear hcz16_5
  try clear hcz18_0
  try clear hcz18_1
  try clear hcz18_2
  try clear hcz18_3
  try clear hcz18_4
  try clear hcz18_5
  try clear hcz20_0
  try clear hcz20_1
  try clear hcz20_2
  try clear hcz20_3
  try clear hcz20_4
  try clear hcz20_5
  try clear hcz24_0
  try clear hcz24_1
  try clear hcz24_2
  try clear hcz24_3
  try clear hcz24_4
  try clear hcz24_5
  try clear hcz26_0
  try clear hcz26_1
  try clear hcz26_2
  try clear hcz26_3
  try clear hcz26_4
  try clear hcz26_5
  try clear hcz28_0
  try clear hcz28_1
  try clear hcz28_2
  try clear hcz28_3
  try clear hcz28_4
  try clear hcz28_5
  try clear hcz7_0
  try clear hcz7_1
  try clear hcz7_2
  try clear hcz7_3
  try clear hcz7_4
  try clear hcz7_5
  try clear hcz9_0
  try clear hcz9_1
  try clear hcz9_2
  try clear hcz9_3
  try clear hcz9_4
  try clear hcz9_5
  try clear hfz16_0
  try clear hfz16_1
  try clear hfz16_2
  try clear hfz16_3
  try clear hfz16_4
  try clear hfz16_5
  try clear hfz18_0
  try clear hfz18_1
  try clear hfz18_2
  try clear hfz18_3
  try clear hfz18_4
  try clear hfz18_5
  try clear hfz20_0
  try clear hfz20_1
  try clear hfz20_2
  try clear hfz20_3
  try clear hfz20_4
  try clear hfz20_5
  try clear hfz24_0
  try clear hfz24_1
  try clear hfz24_2
  try clear hfz24_3
  try clear hfz24_4
  try clear hfz24_5
  try clear hfz26_0
  try clear hfz26_1
  try clear hfz26_2
  try clear hfz26_3
  try clear hfz26_4
  try clear hfz26_5
  try clear hfz28_0
  try clear hfz28_1
  try clear hfz28_2
  try clear hfz28_3
  try clear hfz28_4
  try clear hfz28_5
  try clear hfz7_0
  try clear hfz7_1
  try clear hfz7_2
  try clear hfz7_3
  try clear hfz7_4
  try clear hfz7_5
  try clear hfz9_0
  try clear hfz9_1
  try clear hfz9_2
  try clear hfz9_3
  try clear hfz9_4
  try clear hfz9_5
  obtain ⟨kq, x11_4, rfl, HA, HJ4, BK538, HB⟩ := hcut
  cases kq with
  | zero => exact absurd HA.out (by simp [biremelaw14_AffineAheads.j0])
  | succ kj4 =>
   have H := HA.out
   clear HA
   simp only [biremelaw14_AffineAheads.j0] at H
   have HC30 := Aside0.mk H
   clear H
   go_upto_block 0 with (fail)
   go_cut [] (fun wc => ∃ (kq : Nat), Aside0 (biremelaw14_AffineAheads.j2 kq t542 t543 t544 x11_4 a0_0 a0_1 a0_2 a0_3 a0_4 a0_5 = some r) ∧ Aside0 (kq ≤ kj4) ∧ Aside0 (wc.heap[gb538]? = some (.cells #[.int .i64 a0_0, .int .i64 a0_1, .int .i64 a0_2, .int .i64 a0_3, .int .i64 a0_4, .int .i64 a0_5] 35 (0, 0))) ∧ Aside0 (Below w.heap.size w wc))
   case first =>
    have H := HC30.out
    clear HC30
    have HC31 := Aside0.mk H
    clear H
    go_upto_region 7 with (fail)
    go_cut [76] (fun v76 wc => ∃ (kq : Nat) (x76_30 : Bool), v76 = .bool x76_30 ∧ Aside0 (biremelaw14_AffineAheads.j1 kq a1 t539 t540 t541 t542 t543 t544 x11_4 x76_30 a0_0 a0_1 a0_2 a0_3 a0_4 a0_5 = some r) ∧ Aside0 (kq ≤ kj4) ∧ Aside0 (wc.heap[gb538]? = some (.cells #[.int .i64 a0_0, .int .i64 a0_1, .int .i64 a0_2, .int .i64 a0_3, .int .i64 a0_4, .int .i64 a0_5] 35 (0, 0))) ∧ Aside0 (Below w.heap.size w wc))
    case first =>
     have H := HC31.out
     clear HC31
     by_cases c32 : x11_4 = true
     ·subst c32
      have H1 : ((biremeref14_Within.f kj4 (([a1] : List Int))).bind fun t554 => (biremelaw14_AffineAheads.j1 kj4 a1 t539 t540 t541 t542 t543 t544 true (!t554) a0_0 a0_1 a0_2 a0_3 a0_4 a0_5)) = some r := by rw [if_pos rfl] at H; exact H
      clear H
      have H := H1
      clear H1
      obtain ⟨y551, hy551⟩ : ∃ y_ : List Int, y_ = (([a1] : List Int)) := ⟨_, rfl⟩
      replace H : ((biremeref14_Within.f kj4 y551).bind fun t554 => (biremelaw14_AffineAheads.j1 kj4 a1 t539 t540 t541 t542 t543 t544 true (!t554) a0_0 a0_1 a0_2 a0_3 a0_4 a0_5)) = some r := by first | (rw [hy551]; with_reducible exact H) | (have H2_ := (Option.bind_some _ _).symm.trans H; rw [hy551]; with_reducible exact H2_) | (have H2_ := (Option.bind_some _ _).symm.trans H; with_reducible exact H2_) | with_reducible exact H | (rw [hy551]; exact H) | exact H
      have Ny551 := Aside0.mk hy551
      clear hy551
      replace H := Option.bind_eq_some_iff.mp H
      obtain ⟨t554, A330, H⟩ := H
      replace H : (biremelaw14_AffineAheads.j1 kj4 a1 t539 t540 t541 t542 t543 t544 true (!t554) a0_0 a0_1 a0_2 a0_3 a0_4 a0_5) = some r := H
      have A33 := Aside0.mk A330
      clear A330
      have H' := Aside0.mk H
      clear H
      go_wp2_with (first | ((with_reducible refine gate_dst (N := 81) rfl ?_); (try (refine gate_guard (by rfl) ?_; dsimp only)); refine Kd.R_lit (Kd.int .i64) _ 2 ?hg (N := 81) ?hd (xs := ([a1] : List Int)) (inner := [.int .i64 a1]) (ok := fun _ => True) (okp := fun _ => True) ?hr ?hp (fun _ hk => hk) trivial (Below.refl _ _) (Nat.le_refl _) (by simp) ?_; (case hd => rfl); (case hg => rfl); (case hr => first | (go_simp; done) | (go_simp; rfl)); (case hp => exact (Reps.one (show Kd.M (Kd.int .i64) _ _ _ a1 [.int .i64 a1] from rfl) (Reps.none _ _))); intro v552 w34 ho35 hb hg_ hnew_; clear hg_ hnew_; (first | rw [← Ny551.out] at ho35 | (simp only [Int.reduceToNat] at ho35; rw [← Ny551.out] at ho35)); have n0_ := Aside0.mk (Kd.R_lower ho35 (below_size (by repeat (first | (with_reducible first | exact HB.out | apply below_alloc | apply pw_below_drewN | apply below_drew1 | refine below_set ?_ GE538.out) | exact HB.out)))); have n1_ := Aside0.mk (blk_below (g := gb538) (o := .cells #[.int .i64 a0_0, .int .i64 a0_1, .int .i64 a0_2, .int .i64 a0_3, .int .i64 a0_4, .int .i64 a0_5] 35 (0, 0)) (by (with_reducible repeat (first | refine blk_drewN ?_ _ | refine blk_drew ?_ | refine blk_alloc ?_ _)); exact BK538.out) hb); have n2_ := Aside0.mk (below_step (by repeat (first | (with_reducible first | exact HB.out | apply below_alloc | apply pw_below_drewN | apply below_drew1 | refine below_set ?_ GE538.out) | exact HB.out)) hb); clear BK538; clear HB; have HO553 := n0_; have BK538 := n1_; have HB := n2_; clear n0_ n1_ n2_; clear hb ho35; obtain ⟨Ao36, co36, eo36⟩ := Kd.R_slice HO553.out; subst eo36) | (go_at_call 15; (with_reducible refine (biremeref14_Within.calls kj4 _ _ y551 t554 _ ?side1 ?side2 A33.out).mono ?_); (case side1 => repeat (first | exact (Kd.R_reads' HO553.out).2.2 | (with_reducible refine Kd.C_alloc ?_ _) | (with_reducible refine Kd.C_drewN ?_ _) | (with_reducible refine Kd.C_drew ?_))); (case side2 => exact (Kd.R_reads' HO553.out).2.1); rintro e w' ⟨rfl, ⟨nd, rfl⟩⟩))
      go_meet
      case rel => exact ⟨_, (!t554), (by first | rfl | (simp; done) | (simp [*]; done)), H', ⟨by have := HJ4.out; first | omega | exact Nat.le_refl _⟩, ⟨by (with_reducible repeat (first | refine blk_drewN ?_ _ | refine blk_drew ?_ | refine blk_alloc ?_ _)); exact BK538.out⟩, ⟨by repeat (first | (with_reducible first | exact HB.out | apply below_alloc | apply pw_below_drewN | apply below_drew1 | refine below_set ?_ GE538.out) | exact HB.out)⟩⟩
     ·replace c32 := Bool.eq_false_iff.mpr c32
      subst c32
      have H1 : (biremelaw14_AffineAheads.j1 kj4 a1 t539 t540 t541 t542 t543 t544 false true a0_0 a0_1 a0_2 a0_3 a0_4 a0_5) = some r := by rw [if_neg (show ¬ (false = true) by decide)] at H; exact H
      clear H
      have H := H1
      clear H1
      have H' := Aside0.mk H
      clear H
      go_wp2
      go_meet
      case rel => exact ⟨_, (true), (by first | rfl | (simp; done) | (simp [*]; done)), H', ⟨by have := HJ4.out; first | omega | exact Nat.le_refl _⟩, ⟨by (with_reducible repeat (first | refine blk_drewN ?_ _ | refine blk_drew ?_ | refine blk_alloc ?_ _)); exact BK538.out⟩, ⟨by repeat (first | (with_reducible first | exact HB.out | apply below_alloc | apply pw_below_drewN | apply below_drew1 | refine below_set ?_ GE538.out) | exact HB.out)⟩⟩
    case rest =>
     clear HC31
     try clear c1
     try clear c2
     try clear p2
     try clear c3
     try clear c4
     try clear c12
     try clear c14
     try clear c18
     try clear c19
     try clear c20
     try clear c32
     try clear hcz16_0
     try clear hcz16_1
     try clear hcz16_2
     try clear hcz16_3
     try clear hcz16_4
     try clear hcz16_5
     try clear hcz18_0
     try clear hcz18_1
     try clear hcz18_2
     try clear hcz18_3
     try clear hcz18_4
     try clear hcz18_5
     try clear hcz20_0
     try clear hcz20_1
     try clear hcz20_2
     try clear hcz20_3
     try clear hcz20_4
     try clear hcz20_5
     try clear hcz24_0
     try clear hcz24_1
     try clear hcz24_2
     try clear hcz24_3
     try clear hcz24_4
     try clear hcz24_5
     try clear hcz26_0
     try clear hcz26_1
     try clear hcz26_2
     try clear hcz26_3
     try clear hcz26_4
     try clear hcz26_5
     try clear hcz28_0
     try clear hcz28_1
     try clear hcz28_2
     try clear hcz28_3
     try clear hcz28_4
     try clear hcz28_5
     try clear hcz7_0
     try clear hcz7_1
     try clear hcz7_2
     try clear hcz7_3
     try clear hcz7_4
     try clear hcz7_5
     try clear hcz9_0
     try clear hcz9_1
     try clear hcz9_2
     try clear hcz9_3
     try clear hcz9_4
     try clear hcz9_5
     try clear hfz16_0
     try clear hfz16_1
     try clear hfz16_2
     try clear hfz16_3
     try clear hfz16_4
     try clear hfz16_5
     try clear hfz18_0
     try clear hfz18_1
     try clear hfz18_2
     try clear hfz18_3
     try clear hfz18_4
     try clear hfz18_5
     try clear hfz20_0
     try clear hfz20_1
     try clear hfz20_2
     try clear hfz20_3
     try clear hfz20_4
     try clear hfz20_5
     try clear hfz24_0
     try clear hfz24_1
     try clear hfz24_2
     try clear hfz24_3
     try clear hfz24_4
     try clear hfz24_5
     try clear hfz26_0
     try clear hfz26_1
     try clear hfz26_2
     try clear hfz26_3
     try clear hfz26_4
     try clear hfz26_5
     try clear hfz28_0
     try clear hfz28_1
     try clear hfz28_2
     try clear hfz28_3
     try clear hfz28_4
     try clear hfz28_5
     try clear hfz7_0
     try clear hfz7_1
     try clear hfz7_2
     try clear hfz7_3
     try clear hfz7_4
     try clear hfz7_5
     try clear hfz9_0
     try clear hfz9_1
     try clear hfz9_2
     try clear hfz9_3
     try clear hfz9_4
     try clear hfz9_5
     try clear p2
     obtain ⟨kq, x76_30, rfl, HA, HJ30, BK538, HB⟩ := hcut
     cases kq with
     | zero => exact absurd HA.out (by simp [biremelaw14_AffineAheads.j1])
     | succ kj30 =>
      have H := HA.out
      clear HA
      simp only [biremelaw14_AffineAheads.j1] at H
      by_cases c37 : x76_30 = true
      ·subst c37
       have H1 : (if t539 = 0 then (if t540 = true then (some false) else (if t541 = 3 then (biremelaw14_AffineAheads.j2 kj30 t542 t543 t544 x11_4 a0_0 a0_1 a0_2 a0_3 a0_4 a0_5) else (some false))) else (some false)) = some r := by rw [if_pos rfl] at H; exact H
       clear H
       have H := H1
       clear H1
       by_cases c38 : t539 = 0
       ·rw [if_pos c38] at H
        have c38b0 : (t539 == 0) = true := beq_iff_eq.mpr c38
        have c38b1 : (t539 != 0) = false := bne_eq_false_iff_eq.mpr c38
        clear c38
        by_cases c39 : t540 = true
        ·subst c39
         have H1 : (some false) = some r := by rw [if_pos rfl] at H; exact H
         clear H
         have H := H1
         clear H1
         exact absurd ((Option.some.inj H).trans hr) (by decide)
        ·replace c39 := Bool.eq_false_iff.mpr c39
         subst c39
         have H1 : (if t541 = 3 then (biremelaw14_AffineAheads.j2 kj30 t542 t543 t544 x11_4 a0_0 a0_1 a0_2 a0_3 a0_4 a0_5) else (some false)) = some r := by rw [if_neg (show ¬ (false = true) by decide)] at H; exact H
         clear H
         have H := H1
         clear H1
         by_cases c40 : t541 = 3
         ·rw [if_pos c40] at H
          have c40b0 : (t541 == 3) = true := beq_iff_eq.mpr c40
          have c40b1 : (t541 != 3) = false := bne_eq_false_iff_eq.mpr c40
          clear c40
          have H' := Aside0.mk H
          clear H
          go_wp2
          go_meet
          case rel => exact ⟨_, H', ⟨by have := HJ4.out; have := HJ30.out; first | omega | exact Nat.le_refl _⟩, ⟨by (with_reducible repeat (first | refine blk_drewN ?_ _ | refine blk_drew ?_ | refine blk_alloc ?_ _)); exact BK538.out⟩, ⟨by repeat (first | (with_reducible first | exact HB.out | apply below_alloc | apply pw_below_drewN | apply below_drew1 | refine below_set ?_ GE538.out) | exact HB.out)⟩⟩
         ·rw [if_neg c40] at H
          have c40b0 : (t541 == 3) = false := beq_eq_false_iff_ne.mpr c40
          have c40b1 : (t541 != 3) = true := bne_iff_ne.mpr c40
          exact absurd ((Option.some.inj H).trans hr) (by decide)
       ·rw [if_neg c38] at H
        have c38b0 : (t539 == 0) = false := beq_eq_false_iff_ne.mpr c38
        have c38b1 : (t539 != 0) = true := bne_iff_ne.mpr c38
        exact absurd ((Option.some.inj H).trans hr) (by decide)
      ·replace c37 := Bool.eq_false_iff.mpr c37
       subst c37
       have H1 : (if a0_4 < 0 then (if t539 = 0 then (if t540 = true then (some false) else (if t541 = 2 then (biremelaw14_AffineAheads.j2 kj30 t542 t543 t544 x11_4 a0_0 a0_1 a0_2 a0_3 a0_4 a0_5) else (some false))) else (some false)) else ((biremeref14_Ahead.f kj30 a0_0 a0_1 a0_2 a0_3 a0_4 a1).bind fun bt555 => (if t539 = bt555.1 then (if (t540 != bt555.2) = true then (some false) else (if t541 = 0 then (biremelaw14_AffineAheads.j2 kj30 t542 t543 t544 x11_4 a0_0 a0_1 a0_2 a0_3 a0_4 a0_5) else (some false))) else (some false)))) = some r := by rw [if_neg (show ¬ (false = true) by decide)] at H; exact H
       clear H
       have H := H1
       clear H1
       by_cases c41 : a0_4 < 0
       ·rw [if_pos c41] at H
        have c41b0 : decide (a0_4 < 0) = true := decide_eq_true c41
        clear c41
        by_cases c42 : t539 = 0
        ·rw [if_pos c42] at H
         have c42b0 : (t539 == 0) = true := beq_iff_eq.mpr c42
         have c42b1 : (t539 != 0) = false := bne_eq_false_iff_eq.mpr c42
         clear c42
         by_cases c43 : t540 = true
         ·subst c43
          have H1 : (some false) = some r := by rw [if_pos rfl] at H; exact H
          clear H
          have H := H1
          clear H1
          exact absurd ((Option.some.inj H).trans hr) (by decide)
         ·replace c43 := Bool.eq_false_iff.mpr c43
          subst c43
          have H1 : (if t541 = 2 then (biremelaw14_AffineAheads.j2 kj30 t542 t543 t544 x11_4 a0_0 a0_1 a0_2 a0_3 a0_4 a0_5) else (some false)) = some r := by rw [if_neg (show ¬ (false = true) by decide)] at H; exact H
          clear H
          have H := H1
          clear H1
          by_cases c45 : t541 = 2
          ·rw [if_pos c45] at H
           have c45b0 : (t541 == 2) = true := beq_iff_eq.mpr c45
           have c45b1 : (t541 != 2) = false := bne_eq_false_iff_eq.mpr c45
           clear c45
           have H' := Aside0.mk H
           clear H
           have hcz46_0 : wc.cell? ⟨gb538, 0, none⟩ = some (.int .i64 a0_0) := (blk_cell BK538.out 0).trans rfl
           have hcz46_1 : wc.cell? ⟨gb538, 1, none⟩ = some (.int .i64 a0_1) := (blk_cell BK538.out 1).trans rfl
           have hcz46_2 : wc.cell? ⟨gb538, 2, none⟩ = some (.int .i64 a0_2) := (blk_cell BK538.out 2).trans rfl
           have hcz46_3 : wc.cell? ⟨gb538, 3, none⟩ = some (.int .i64 a0_3) := (blk_cell BK538.out 3).trans rfl
           have hcz46_4 : wc.cell? ⟨gb538, 4, none⟩ = some (.int .i64 a0_4) := (blk_cell BK538.out 4).trans rfl
           have hcz46_5 : wc.cell? ⟨gb538, 5, none⟩ = some (.int .i64 a0_5) := (blk_cell BK538.out 5).trans rfl
           have hfz46_0 := blk_frozen BK538.out 0
           have hfz46_1 := blk_frozen BK538.out 1
           have hfz46_2 := blk_frozen BK538.out 2
           have hfz46_3 := blk_frozen BK538.out 3
           have hfz46_4 := blk_frozen BK538.out 4
           have hfz46_5 := blk_frozen BK538.out 5
           go_wp2
           go_meet
           case rel => exact ⟨_, H', ⟨by have := HJ4.out; have := HJ30.out; first | omega | exact Nat.le_refl _⟩, ⟨by (with_reducible repeat (first | refine blk_drewN ?_ _ | refine blk_drew ?_ | refine blk_alloc ?_ _)); exact BK538.out⟩, ⟨by repeat (first | (with_reducible first | exact HB.out | apply below_alloc | apply pw_below_drewN | apply below_drew1 | refine below_set ?_ GE538.out) | exact HB.out)⟩⟩
          ·rw [if_neg c45] at H
           have c45b0 : (t541 == 2) = false := beq_eq_false_iff_ne.mpr c45
           have c45b1 : (t541 != 2) = true := bne_iff_ne.mpr c45
           exact absurd ((Option.some.inj H).trans hr) (by decide)
        ·rw [if_neg c42] at H
         have c42b0 : (t539 == 0) = false := beq_eq_false_iff_ne.mpr c42
         have c42b1 : (t539 != 0) = true := bne_iff_ne.mpr c42
         exact absurd ((Option.some.inj H).trans hr) (by decide)
       ·rw [if_neg c41] at H
        have c41b0 : decide (a0_4 < 0) = false := decide_eq_false c41
        clear c41
        replace H := Option.bind_eq_some_iff.mp H
        obtain ⟨⟨t555, t556⟩, A490, H⟩ := H
        replace H : (if t539 = t555 then (if (t540 != t556) = true then (some false) else (if t541 = 0 then (biremelaw14_AffineAheads.j2 kj30 t542 t543 t544 x11_4 a0_0 a0_1 a0_2 a0_3 a0_4 a0_5) else (some false))) else (some false)) = some r := H
        have A49 := Aside0.mk A490
        clear A490
        by_cases c50 : t539 = t555
        ·rw [if_pos c50] at H
         have c50b0 : (t539 == t555) = true := beq_iff_eq.mpr c50
         have c50b1 : (t539 != t555) = false := bne_eq_false_iff_eq.mpr c50
         clear c50
         by_cases c51 : (t540 != t556) = true
         ·rw [if_pos c51] at H
          have c51b0 : (t540 != t556) = true := c51
          (try (have c51b1 : decide (t540 = t556) = false := by simpa using c51))
          (try (have c51b2 : (t540 == t556) = false := by simpa using c51))
          (try (have c51b3 : ¬ (t540 = t556) := by simpa using c51))
          clear c51
          exact absurd ((Option.some.inj H).trans hr) (by decide)
         ·rw [if_neg c51] at H
          have c51b0 : (t540 != t556) = false := by simpa using c51
          (try (have c51b1 : decide (t540 = t556) = true := by simpa using c51))
          (try (have c51b2 : (t540 == t556) = true := by simpa using c51))
          clear c51
          by_cases c54 : t541 = 0
          ·rw [if_pos c54] at H
           have c54b0 : (t541 == 0) = true := beq_iff_eq.mpr c54
           have c54b1 : (t541 != 0) = false := bne_eq_false_iff_eq.mpr c54
           clear c54
           have H' := Aside0.mk H
           clear H
           have hcz55_0 : wc.cell? ⟨gb538, 0, none⟩ = some (.int .i64 a0_0) := (blk_cell BK538.out 0).trans rfl
           have hcz55_1 : wc.cell? ⟨gb538, 1, none⟩ = some (.int .i64 a0_1) := (blk_cell BK538.out 1).trans rfl
           have hcz55_2 : wc.cell? ⟨gb538, 2, none⟩ = some (.int .i64 a0_2) := (blk_cell BK538.out 2).trans rfl
           have hcz55_3 : wc.cell? ⟨gb538, 3, none⟩ = some (.int .i64 a0_3) := (blk_cell BK538.out 3).trans rfl
           have hcz55_4 : wc.cell? ⟨gb538, 4, none⟩ = some (.int .i64 a0_4) := (blk_cell BK538.out 4).trans rfl
           have hcz55_5 : wc.cell? ⟨gb538, 5, none⟩ = some (.int .i64 a0_5) := (blk_cell BK538.out 5).trans rfl
           have hfz55_0 := blk_frozen BK538.out 0
           have hfz55_1 := blk_frozen BK538.out 1
           have hfz55_2 := blk_frozen BK538.out 2
           have hfz55_3 := blk_frozen BK538.out 3
           have hfz55_4 := blk_frozen BK538.out 4
           have hfz55_5 := blk_frozen BK538.out 5
           go_wp2_with (first | ((with_reducible refine gate_callee (f := 21) rfl ?_); refine goesL_ (some 61) rfl rfl Try.func21 (by kernel_rfl) rfl #[.agg #[.int .i64 a0_0, .int .i64 a0_1], .agg #[.int .i64 a0_2, .int .i64 a0_3], .int .i64 a0_4, .int .i64 a1] rfl (by (try simp only [List.map_toArray, List.map_cons, List.map_nil]); first | done | rfl | (simp only [List.length_drop, List.length_take]; rfl)) ?_; (with_reducible refine (biremeref14_Ahead.calls kj30 a0_0 a0_1 a0_2 a0_3 a0_4 a1 t555 t556 _ A49.out).mono ?_); rintro e w56 ⟨rfl, hb⟩; refine ⟨_, rfl, ?_⟩; have n0_ := Aside0.mk (blk_below (g := gb538) (o := .cells #[.int .i64 a0_0, .int .i64 a0_1, .int .i64 a0_2, .int .i64 a0_3, .int .i64 a0_4, .int .i64 a0_5] 35 (0, 0)) (by (with_reducible repeat (first | refine blk_drewN ?_ _ | refine blk_drew ?_ | refine blk_alloc ?_ _)); exact BK538.out) hb); have n1_ := Aside0.mk (below_step (by repeat (first | (with_reducible first | exact HB.out | apply below_alloc | apply pw_below_drewN | apply below_drew1 | refine below_set ?_ GE538.out) | exact HB.out)) hb); clear BK538; clear HB; have BK538 := n0_; have HB := n1_; clear n0_ n1_; (try clear hb); (try clear hb2); (try clear hk); (try clear hi)))
           go_meet
           case rel => exact ⟨_, H', ⟨by have := HJ4.out; have := HJ30.out; first | omega | exact Nat.le_refl _⟩, ⟨by (with_reducible repeat (first | refine blk_drewN ?_ _ | refine blk_drew ?_ | refine blk_alloc ?_ _)); exact BK538.out⟩, ⟨by repeat (first | (with_reducible first | exact HB.out | apply below_alloc | apply pw_below_drewN | apply below_drew1 | refine below_set ?_ GE538.out) | exact HB.out)⟩⟩
          ·rw [if_neg c54] at H
           have c54b0 : (t541 == 0) = false := beq_eq_false_iff_ne.mpr c54
           have c54b1 : (t541 != 0) = true := bne_iff_ne.mpr c54
           exact absurd ((Option.some.inj H).trans hr) (by decide)
        ·rw [if_neg c50] at H
         have c50b0 : (t539 == t555) = false := beq_eq_false_iff_ne.mpr c50
         have c50b1 : (t539 != t555) = true := bne_iff_ne.mpr c50
         exact absurd ((Option.some.inj H).trans hr) (by decide)
   case rest =>
    clear HC30
    try clear c1
    try clear c2
    try clear p2
    try clear c3
    try clear c4
    try clear c5
    try clear c12
    try clear c14
    try clear c18
    try clear c19
    try clear c20
    try clear c21
    try clear c32
    try clear c37
    try clear c38
    try clear c38b0
    try clear c38b1
    try clear c39
    try clear c40
    try clear c40b0
    try clear c40b1
    try clear c41
    try clear c41b0
    try clear c42
    try clear c42b0
    try clear c42b1
    try clear c43
    try clear c45
    try clear c45b0
    try clear c45b1
    try clear c50
    try clear c50b0
    try clear c50b1
    try clear c51
    try clear c51b0
    try clear c51b1
    try clear c51b2
    try clear c54
    try clear c54b0
    try clear c54b1
    try clear hcz16_0
    try clear hcz16_1
    try clear hcz16_2
    try clear hcz16_3
    try clear hcz16_4
    try clear hcz16_5
    try clear hcz18_0
    try clear hcz18_1
    try clear hcz18_2
    try clear hcz18_3
    try clear hcz18_4
    try clear hcz18_5
    try clear hcz20_0
    try clear hcz20_1
    try clear hcz20_2
    try clear hcz20_3
    try clear hcz20_4
    try clear hcz20_5
    try clear hcz24_0
    try clear hcz24_1
    try clear hcz24_2
    try clear hcz24_3
    try clear hcz24_4
    try clear hcz24_5
    try clear hcz26_0
    try clear hcz26_1
    try clear hcz26_2
    try clear hcz26_3
    try clear hcz26_4
    try clear hcz26_5
    try clear hcz28_0
    try clear hcz28_1
    try clear hcz28_2
    try clear hcz28_3
    try clear hcz28_4
    try clear hcz28_5
    try clear hcz44_0
    try clear hcz44_1
    try clear hcz44_2
    try clear hcz44_3
    try clear hcz44_4
    try clear hcz44_5
    try clear hcz46_0
    try clear hcz46_1
    try clear hcz46_2
    try clear hcz46_3
    try clear hcz46_4
    try clear hcz46_5
    try clear hcz47_0
    try clear hcz47_1
    try clear hcz47_2
    try clear hcz47_3
    try clear hcz47_4
    try clear hcz47_5
    try clear hcz48_0
    try clear hcz48_1
    try clear hcz48_2
    try clear hcz48_3
    try clear hcz48_4
    try clear hcz48_5
    try clear hcz52_0
    try clear hcz52_1
    try clear hcz52_2
    try clear hcz52_3
    try clear hcz52_4
    try clear hcz52_5
    try clear hcz55_0
    try clear hcz55_1
    try clear hcz55_2
    try clear hcz55_3
    try clear hcz55_4
    try clear hcz55_5
    try clear hcz57_0
    try clear hcz57_1
    try clear hcz57_2
    try clear hcz57_3
    try clear hcz57_4
    try clear hcz57_5
    try clear hcz59_0
    try clear hcz59_1
    try clear hcz59_2
    try clear hcz59_3
    try clear hcz59_4
    try clear hcz59_5
    try clear hcz7_0
    try clear hcz7_1
    try clear hcz7_2
    try clear hcz7_3
    try clear hcz7_4
    try clear hcz7_5
    try clear hcz9_0
    try clear hcz9_1
    try clear hcz9_2
    try clear hcz9_3
    try clear hcz9_4
    try clear hcz9_5
    try clear hfz16_0
    try clear hfz16_1
    try clear hfz16_2
    try clear hfz16_3
    try clear hfz16_4
    try clear hfz16_5
    try clear hfz18_0
    try clear hfz18_1
    try clear hfz18_2
    try clear hfz18_3
    try clear hfz18_4
    try clear hfz18_5
    try clear hfz20_0
    try clear hfz20_1
    try clear hfz20_2
    try clear hfz20_3
    try clear hfz20_4
    try clear hfz20_5
    try clear hfz24_0
    try clear hfz24_1
    try clear hfz24_2
    try clear hfz24_3
    try clear hfz24_4
    try clear hfz24_5
    try clear hfz26_0
    try clear hfz26_1
    try clear hfz26_2
    try clear hfz26_3
    try clear hfz26_4
    try clear hfz26_5
    try clear hfz28_0
    try clear hfz28_1
    try clear hfz28_2
    try clear hfz28_3
    try clear hfz28_4
    try clear hfz28_5
    try clear hfz44_0
    try clear hfz44_1
    try clear hfz44_2
    try clear hfz44_3
    try clear hfz44_4
    try clear hfz44_5
    try clear hfz46_0
    try clear hfz46_1
    try clear hfz46_2
    try clear hfz46_3
    try clear hfz46_4
    try clear hfz46_5
    try clear hfz47_0
    try clear hfz47_1
    try clear hfz47_2
    try clear hfz47_3
    try clear hfz47_4
    try clear hfz47_5
    try clear hfz48_0
    try clear hfz48_1
    try clear hfz48_2
    try clear hfz48_3
    try clear hfz48_4
    try clear hfz48_5
    try clear hfz52_0
    try clear hfz52_1
    try clear hfz52_2
    try clear hfz52_3
    try clear hfz52_4
    try clear hfz52_5
    try clear hfz55_0
    try clear hfz55_1
    try clear hfz55_2
    try clear hfz55_3
    try clear hfz55_4
    try clear hfz55_5
    try clear hfz57_0
    try clear hfz57_1
    try clear hfz57_2
    try clear hfz57_3
    try clear hfz57_4
    try clear hfz57_5
    try clear hfz59_0
    try clear hfz59_1
    try clear hfz59_2
    try clear hfz59_3
    try clear hfz59_4
    try clear hfz59_5
    try clear hfz7_0
    try clear hfz7_1
    try clear hfz7_2
    try clear hfz7_3
    try clear hfz7_4
    try clear hfz7_5
    try clear hfz9_0
    try clear hfz9_1
    try clear hfz9_2
    try clear hfz9_3
    try clear hfz9_4
    try clear hfz9_5
    try clear p2
    obtain ⟨kq, HA, HJ29, BK538, HB⟩ := hcut
    cases kq with
    | zero => exact absurd HA.out (by simp [biremelaw14_AffineAheads.j2])
    | succ kj29 =>
     have H := HA.out
     clear HA
     simp only [biremelaw14_AffineAheads.j2] at H
     by_cases c61 : x11_4 = true
     ·subst c61
      have H1 : (if a0_4 < 0 then (if t542 = 0 then (if t543 = true then (some false) else (if t544 = 2 then ((biremelaw14_alive.f kj29).bind fun t557 => (some t557)) else (some false))) else (some false)) else ((biremeref14_Behind.f kj29 a0_0 a0_1 a0_2 a0_3 a0_4).bind fun bt558 => (if t542 = bt558.1 then (if (t543 == bt558.2) = true then (if t544 = 0 then ((biremelaw14_alive.f kj29).bind fun t560 => (some t560)) else (some false)) else (some false)) else (some false)))) = some r := by rw [if_pos rfl] at H; exact H
      clear H
      have H := H1
      clear H1
      by_cases c62 : a0_4 < 0
      ·rw [if_pos c62] at H
       have c62b0 : decide (a0_4 < 0) = true := decide_eq_true c62
       clear c62
       by_cases c63 : t542 = 0
       ·rw [if_pos c63] at H
        have c63b0 : (t542 == 0) = true := beq_iff_eq.mpr c63
        have c63b1 : (t542 != 0) = false := bne_eq_false_iff_eq.mpr c63
        clear c63
        by_cases c64 : t543 = true
        ·subst c64
         have H1 : (some false) = some r := by rw [if_pos rfl] at H; exact H
         clear H
         have H := H1
         clear H1
         exact absurd ((Option.some.inj H).trans hr) (by decide)
        ·replace c64 := Bool.eq_false_iff.mpr c64
         subst c64
         have H1 : (if t544 = 2 then ((biremelaw14_alive.f kj29).bind fun t557 => (some t557)) else (some false)) = some r := by rw [if_neg (show ¬ (false = true) by decide)] at H; exact H
         clear H
         have H := H1
         clear H1
         by_cases c66 : t544 = 2
         ·rw [if_pos c66] at H
          have c66b0 : (t544 == 2) = true := beq_iff_eq.mpr c66
          have c66b1 : (t544 != 2) = false := bne_eq_false_iff_eq.mpr c66
          clear c66
          replace H := Option.bind_eq_some_iff.mp H
          obtain ⟨t557, A670, H⟩ := H
          replace H : (some t557) = some r := H
          have A67 := Aside0.mk A670
          clear A670
          obtain rfl := Option.some.inj H
          have hcz68_0 : wc.cell? ⟨gb538, 0, none⟩ = some (.int .i64 a0_0) := (blk_cell BK538.out 0).trans rfl
          have hcz68_1 : wc.cell? ⟨gb538, 1, none⟩ = some (.int .i64 a0_1) := (blk_cell BK538.out 1).trans rfl
          have hcz68_2 : wc.cell? ⟨gb538, 2, none⟩ = some (.int .i64 a0_2) := (blk_cell BK538.out 2).trans rfl
          have hcz68_3 : wc.cell? ⟨gb538, 3, none⟩ = some (.int .i64 a0_3) := (blk_cell BK538.out 3).trans rfl
          have hcz68_4 : wc.cell? ⟨gb538, 4, none⟩ = some (.int .i64 a0_4) := (blk_cell BK538.out 4).trans rfl
          have hcz68_5 : wc.cell? ⟨gb538, 5, none⟩ = some (.int .i64 a0_5) := (blk_cell BK538.out 5).trans rfl
          have hfz68_0 := blk_frozen BK538.out 0
          have hfz68_1 := blk_frozen BK538.out 1
          have hfz68_2 := blk_frozen BK538.out 2
          have hfz68_3 := blk_frozen BK538.out 3
          have hfz68_4 := blk_frozen BK538.out 4
          have hfz68_5 := blk_frozen BK538.out 5
          go_wp2_with (first | (go_at_call 16; (with_reducible refine (biremelaw14_alive.calls kj29  t557 _ A67.out).mono ?_); rintro e w69 ⟨rfl, hb⟩; have n0_ := Aside0.mk (blk_below (g := gb538) (o := .cells #[.int .i64 a0_0, .int .i64 a0_1, .int .i64 a0_2, .int .i64 a0_3, .int .i64 a0_4, .int .i64 a0_5] 35 (0, 0)) (by (with_reducible repeat (first | refine blk_drewN ?_ _ | refine blk_drew ?_ | refine blk_alloc ?_ _)); exact BK538.out) hb); have n1_ := Aside0.mk (below_step (by repeat (first | (with_reducible first | exact HB.out | apply below_alloc | apply pw_below_drewN | apply below_drew1 | refine below_set ?_ GE538.out) | exact HB.out)) hb); clear BK538; clear HB; have BK538 := n0_; have HB := n1_; clear n0_ n1_; (try clear hb); (try clear hb2); (try clear hk); (try clear hi)))
          go_ret
          exact ⟨by first | rfl | (simp [errW_none, errW_some] <;> rfl) | (simp [*, errW_none, errW_some] <;> rfl), by repeat (first | (with_reducible first | exact HB.out | apply below_alloc | apply pw_below_drewN | apply below_drew1 | refine below_set ?_ GE538.out) | exact HB.out)⟩
         ·rw [if_neg c66] at H
          have c66b0 : (t544 == 2) = false := beq_eq_false_iff_ne.mpr c66
          have c66b1 : (t544 != 2) = true := bne_iff_ne.mpr c66
          exact absurd ((Option.some.inj H).trans hr) (by decide)
       ·rw [if_neg c63] at H
        have c63b0 : (t542 == 0) = false := beq_eq_false_iff_ne.mpr c63
        have c63b1 : (t542 != 0) = true := bne_iff_ne.mpr c63
        exact absurd ((Option.some.inj H).trans hr) (by decide)
      ·rw [if_neg c62] at H
       have c62b0 : decide (a0_4 < 0) = false := decide_eq_false c62
       clear c62
       replace H := Option.bind_eq_some_iff.mp H
       obtain ⟨⟨t558, t559⟩, A720, H⟩ := H
       replace H : (if t542 = t558 then (if (t543 == t559) = true then (if t544 = 0 then ((biremelaw14_alive.f kj29).bind fun t560 => (some t560)) else (some false)) else (some false)) else (some false)) = some r := H
       have A72 := Aside0.mk A720
       clear A720
       by_cases c73 : t542 = t558
       ·rw [if_pos c73] at H
        have c73b0 : (t542 == t558) = true := beq_iff_eq.mpr c73
        have c73b1 : (t542 != t558) = false := bne_eq_false_iff_eq.mpr c73
        clear c73
        by_cases c74 : (t543 == t559) = true
        ·rw [if_pos c74] at H
         have c74b0 : (t543 == t559) = true := c74
         (try (have c74b1 : decide (t543 = t559) = true := by simpa using c74))
         (try (have c74b2 : (t543 == t559) = true := by simpa using c74))
         clear c74
         by_cases c75 : t544 = 0
         ·rw [if_pos c75] at H
          have c75b0 : (t544 == 0) = true := beq_iff_eq.mpr c75
          have c75b1 : (t544 != 0) = false := bne_eq_false_iff_eq.mpr c75
          clear c75
          replace H := Option.bind_eq_some_iff.mp H
          obtain ⟨t560, A760, H⟩ := H
          replace H : (some t560) = some r := H
          have A76 := Aside0.mk A760
          clear A760
          obtain rfl := Option.some.inj H
          have hcz77_0 : wc.cell? ⟨gb538, 0, none⟩ = some (.int .i64 a0_0) := (blk_cell BK538.out 0).trans rfl
          have hcz77_1 : wc.cell? ⟨gb538, 1, none⟩ = some (.int .i64 a0_1) := (blk_cell BK538.out 1).trans rfl
          have hcz77_2 : wc.cell? ⟨gb538, 2, none⟩ = some (.int .i64 a0_2) := (blk_cell BK538.out 2).trans rfl
          have hcz77_3 : wc.cell? ⟨gb538, 3, none⟩ = some (.int .i64 a0_3) := (blk_cell BK538.out 3).trans rfl
          have hcz77_4 : wc.cell? ⟨gb538, 4, none⟩ = some (.int .i64 a0_4) := (blk_cell BK538.out 4).trans rfl
          have hcz77_5 : wc.cell? ⟨gb538, 5, none⟩ = some (.int .i64 a0_5) := (blk_cell BK538.out 5).trans rfl
          have hfz77_0 := blk_frozen BK538.out 0
          have hfz77_1 := blk_frozen BK538.out 1
          have hfz77_2 := blk_frozen BK538.out 2
          have hfz77_3 := blk_frozen BK538.out 3
          have hfz77_4 := blk_frozen BK538.out 4
          have hfz77_5 := blk_frozen BK538.out 5
          go_wp2_with (first | ((with_reducible refine gate_callee (f := 22) rfl ?_); refine goesL_ (some 147) rfl rfl Try.func22 (by kernel_rfl) rfl #[.agg #[.int .i64 a0_0, .int .i64 a0_1], .agg #[.int .i64 a0_2, .int .i64 a0_3], .int .i64 a0_4] rfl (by (try simp only [List.map_toArray, List.map_cons, List.map_nil]); first | done | rfl | (simp only [List.length_drop, List.length_take]; rfl)) ?_; (with_reducible refine (biremeref14_Behind.calls kj29 a0_0 a0_1 a0_2 a0_3 a0_4 t558 t559 _ A72.out).mono ?_); rintro e w78 ⟨rfl, hb⟩; refine ⟨_, rfl, ?_⟩; have n0_ := Aside0.mk (blk_below (g := gb538) (o := .cells #[.int .i64 a0_0, .int .i64 a0_1, .int .i64 a0_2, .int .i64 a0_3, .int .i64 a0_4, .int .i64 a0_5] 35 (0, 0)) (by (with_reducible repeat (first | refine blk_drewN ?_ _ | refine blk_drew ?_ | refine blk_alloc ?_ _)); exact BK538.out) hb); have n1_ := Aside0.mk (below_step (by repeat (first | (with_reducible first | exact HB.out | apply below_alloc | apply pw_below_drewN | apply below_drew1 | refine below_set ?_ GE538.out) | exact HB.out)) hb); clear BK538; clear HB; have BK538 := n0_; have HB := n1_; clear n0_ n1_; (try clear hb); (try clear hb2); (try clear hk); (try clear hi)) | (go_at_call 16; (with_reducible refine (biremelaw14_alive.calls kj29  t560 _ A76.out).mono ?_); rintro e w79 ⟨rfl, hb⟩; have n0_ := Aside0.mk (blk_below (g := gb538) (o := .cells #[.int .i64 a0_0, .int .i64 a0_1, .int .i64 a0_2, .int .i64 a0_3, .int .i64 a0_4, .int .i64 a0_5] 35 (0, 0)) (by (with_reducible repeat (first | refine blk_drewN ?_ _ | refine blk_drew ?_ | refine blk_alloc ?_ _)); exact BK538.out) hb); have n1_ := Aside0.mk (below_step (by repeat (first | (with_reducible first | exact HB.out | apply below_alloc | apply pw_below_drewN | apply below_drew1 | refine below_set ?_ GE538.out) | exact HB.out)) hb); clear BK538; clear HB; have BK538 := n0_; have HB := n1_; clear n0_ n1_; (try clear hb); (try clear hb2); (try clear hk); (try clear hi)))
          go_ret
          exact ⟨by first | rfl | (simp [errW_none, errW_some] <;> rfl) | (simp [*, errW_none, errW_some] <;> rfl), by repeat (first | (with_reducible first | exact HB.out | apply below_alloc | apply pw_below_drewN | apply below_drew1 | refine below_set ?_ GE538.out) | exact HB.out)⟩
         ·rw [if_neg c75] at H
          have c75b0 : (t544 == 0) = false := beq_eq_false_iff_ne.mpr c75
          have c75b1 : (t544 != 0) = true := bne_iff_ne.mpr c75
          exact absurd ((Option.some.inj H).trans hr) (by decide)
        ·rw [if_neg c74] at H
         have c74b0 : (t543 == t559) = false := by simpa using c74
         (try (have c74b1 : decide (t543 = t559) = false := by simpa using c74))
         (try (have c74b2 : (t543 == t559) = false := by simpa using c74))
         (try (have c74b3 : ¬ (t543 = t559) := by simpa using c74))
         clear c74
         exact absurd ((Option.some.inj H).trans hr) (by decide)
       ·rw [if_neg c73] at H
        have c73b0 : (t542 == t558) = false := beq_eq_false_iff_ne.mpr c73
        have c73b1 : (t542 != t558) = true := bne_iff_ne.mpr c73
        exact absurd ((Option.some.inj H).trans hr) (by decide)
     ·replace c61 := Bool.eq_false_iff.mpr c61
      subst c61
      have H1 : (if t542 = 0 then (if t543 = true then (some false) else (if t544 = 3 then ((biremelaw14_alive.f kj29).bind fun t561 => (some t561)) else (some false))) else (some false)) = some r := by rw [if_neg (show ¬ (false = true) by decide)] at H; exact H
      clear H
      have H := H1
      clear H1
      by_cases c86 : t542 = 0
      ·rw [if_pos c86] at H
       have c86b0 : (t542 == 0) = true := beq_iff_eq.mpr c86
       have c86b1 : (t542 != 0) = false := bne_eq_false_iff_eq.mpr c86
       clear c86
       by_cases c87 : t543 = true
       ·subst c87
        have H1 : (some false) = some r := by rw [if_pos rfl] at H; exact H
        clear H
        have H := H1
        clear H1
        exact absurd ((Option.some.inj H).trans hr) (by decide)
       ·replace c87 := Bool.eq_false_iff.mpr c87
        subst c87
        have H1 : (if t544 = 3 then ((biremelaw14_alive.f kj29).bind fun t561 => (some t561)) else (some false)) = some r := by rw [if_neg (show ¬ (false = true) by decide)] at H; exact H
        clear H
        have H := H1
        clear H1
        by_cases c88 : t544 = 3
        ·rw [if_pos c88] at H
         have c88b0 : (t544 == 3) = true := beq_iff_eq.mpr c88
         have c88b1 : (t544 != 3) = false := bne_eq_false_iff_eq.mpr c88
         clear c88
         replace H := Option.bind_eq_some_iff.mp H
         obtain ⟨t561, A890, H⟩ := H
         replace H : (some t561) = some r := H
         have A89 := Aside0.mk A890
         clear A890
         obtain rfl := Option.some.inj H
         go_wp2_with (first | (go_at_call 16; (with_reducible refine (biremelaw14_alive.calls kj29  t561 _ A89.out).mono ?_); rintro e w90 ⟨rfl, hb⟩; have n0_ := Aside0.mk (blk_below (g := gb538) (o := .cells #[.int .i64 a0_0, .int .i64 a0_1, .int .i64 a0_2, .int .i64 a0_3, .int .i64 a0_4, .int .i64 a0_5] 35 (0, 0)) (by (with_reducible repeat (first | refine blk_drewN ?_ _ | refine blk_drew ?_ | refine blk_alloc ?_ _)); exact BK538.out) hb); have n1_ := Aside0.mk (below_step (by repeat (first | (with_reducible first | exact HB.out | apply below_alloc | apply pw_below_drewN | apply below_drew1 | refine below_set ?_ GE538.out) | exact HB.out)) hb); clear BK538; clear HB; have BK538 := n0_; have HB := n1_; clear n0_ n1_; (try clear hb); (try clear hb2); (try clear hk); (try clear hi)))
         go_ret
         exact ⟨by first | rfl | (simp [errW_none, errW_some] <;> rfl) | (simp [*, errW_none, errW_some] <;> rfl), by repeat (first | (with_reducible first | exact HB.out | apply below_alloc | apply pw_below_drewN | apply below_drew1 | refine below_set ?_ GE538.out) | exact HB.out)⟩
        ·rw [if_neg c88] at H
         have c88b0 : (t544 == 3) = false := beq_eq_false_iff_ne.mpr c88
         have c88b1 : (t544 != 3) = true := bne_iff_ne.mpr c88
         exact absurd ((Option.some.inj H).trans hr) (by decide)
      ·rw [if_neg c86] at H
       have c86b0 : (t542 == 0) = false := beq_eq_false_iff_ne.mpr c86
       have c86b1 : (t542 != 0) = true := bne_iff_ne.mpr c86
       exact absurd ((Option.some.inj H).trans hr) (by decide)
end Go.Proofs.Ytiedehjmhlgicaa.PAll
