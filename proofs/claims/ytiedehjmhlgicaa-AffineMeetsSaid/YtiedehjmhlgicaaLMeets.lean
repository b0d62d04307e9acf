/- The walk of the law AffineMeets: a call of it returns what its plain definition tells, and changes no block that was there before. -/
import Derived.Test.YtiedehjmhlgicaaN6
import Derived.Test.YtiedehjmhlgicaaN7
import Derived.Test.YtiedehjmhlgicaaN9b
import Derived.Test.YtiedehjmhlgicaaN9c
namespace Go.Proofs.Ytiedehjmhlgicaa.PAll
open Go.RowKit Go.Proofs.YtiedehjmhlgicaaW.PrintWords Go.Proofs.YtiedehjmhlgicaaW.PrintLast Go.Proofs.YtiedehjmhlgicaaW.PrintMore
attribute [local go_sem] max2_int min2_int max_two min_two max_three min_three max_four min_four   -- for this text's walks alone
attribute [local go_sem high] eqA23
set_option linter.unusedVariables false
set_option linter.unusedSimpArgs false

set_option maxHeartbeats 8000000 in
set_option maxRecDepth 100000 in
theorem biremelaw14_AffineMeets.calls (k : Nat) (a0_0 : Int) (a0_1 : Int) (a0_2 : Int) (a0_3 : Int) (a0_4 : Int) (a0_5 : Int) (r : Bool) (hr : r = true) (w : World) (h : biremelaw14_AffineMeets.f k a0_0 a0_1 a0_2 a0_3 a0_4 a0_5 = some r) :
  Calls Try.prog 9 #[.agg #[.int .i64 a0_0, .int .i64 a0_1, .int .i64 a0_2, .int .i64 a0_3, .int .i64 a0_4, .int .i64 a0_5]] w fun e w' => e = .returned (.bool r) ∧ Below w.heap.size w w' := by
 have hu35 := Try.underlying35
 have hu33 := Try.underlying33
 have HB := Aside0.mk (Below.refl w.heap.size w)
 have H : ((affine_Meet.f k a0_0 a0_1 a0_2 a0_3 a0_4 a0_5).bind fun bt490 => ((affine_Count.f k a0_0 a0_1 a0_2 a0_3 a0_4 a0_5).bind fun bt494 => ((biremeref14_Line.f k a0_0 a0_1).bind fun t496 => (if t496 = true then ((biremeref14_Line.f k a0_2 a0_3).bind fun t497 => (if t497 = true then ((biremeref14_Within.f k (([a0_4, a0_5] : List Int))).bind fun t501 => (biremelaw14_AffineMeets.j0 k bt490.1 bt490.2.1 bt490.2.2.1 bt490.2.2.2 bt494.1 bt494.2 0 (!t501) a0_0 a0_1 a0_2 a0_3 a0_4 a0_5)) else (biremelaw14_AffineMeets.j0 k bt490.1 bt490.2.1 bt490.2.2.1 bt490.2.2.2 bt494.1 bt494.2 0 true a0_0 a0_1 a0_2 a0_3 a0_4 a0_5))) else (biremelaw14_AffineMeets.j0 k bt490.1 bt490.2.1 bt490.2.2.1 bt490.2.2.2 bt494.1 bt494.2 0 true a0_0 a0_1 a0_2 a0_3 a0_4 a0_5))))) = some r := h
 clear h
 replace H := Option.bind_eq_some_iff.mp H
 obtain ⟨⟨t490, t491, t492, t493⟩, A20, H⟩ := H
 replace H : ((affine_Count.f k a0_0 a0_1 a0_2 a0_3 a0_4 a0_5).bind fun bt494 => ((biremeref14_Line.f k a0_0 a0_1).bind fun t496 => (if t496 = true then ((biremeref14_Line.f k a0_2 a0_3).bind fun t497 => (if t497 = true then ((biremeref14_Within.f k (([a0_4, a0_5] : List Int))).bind fun t501 => (biremelaw14_AffineMeets.j0 k t490 t491 t492 t493 bt494.1 bt494.2 0 (!t501) a0_0 a0_1 a0_2 a0_3 a0_4 a0_5)) else (biremelaw14_AffineMeets.j0 k t490 t491 t492 t493 bt494.1 bt494.2 0 true a0_0 a0_1 a0_2 a0_3 a0_4 a0_5))) else (biremelaw14_AffineMeets.j0 k t490 t491 t492 t493 bt494.1 bt494.2 0 true a0_0 a0_1 a0_2 a0_3 a0_4 a0_5)))) = some r := H
 have A2 := Aside0.mk A20
 clear A20
 replace H := Option.bind_eq_some_iff.mp H
 obtain ⟨⟨t494, t495⟩, A30, H⟩ := H
 replace H : ((biremeref14_Line.f k a0_0 a0_1).bind fun t496 => (if t496 = true then ((biremeref14_Line.f k a0_2 a0_3).bind fun t497 => (if t497 = true then ((biremeref14_Within.f k (([a0_4, a0_5] : List Int))).bind fun t501 => (biremelaw14_AffineMeets.j0 k t490 t491 t492 t493 t494 t495 0 (!t501) a0_0 a0_1 a0_2 a0_3 a0_4 a0_5)) else (biremelaw14_AffineMeets.j0 k t490 t491 t492 t493 t494 t495 0 true a0_0 a0_1 a0_2 a0_3 a0_4 a0_5))) else (biremelaw14_AffineMeets.j0 k t490 t491 t492 t493 t494 t495 0 true a0_0 a0_1 a0_2 a0_3 a0_4 a0_5))) = some r := H
 have A3 := Aside0.mk A30
 clear A30
 have HC4 := Aside0.mk H
 clear H
 go_enter Try.func9, Try.ntmps9
 go_upto_block 0 with (first | ((with_reducible refine gate_dst (N := 1) rfl ?_); (try (refine gate_guard (by rfl) ?_; dsimp only)); refine box_event ?hg (N := 1) ?hd (cs := #[.int .i64 a0_0, .int .i64 a0_1, .int .i64 a0_2, .int .i64 a0_3, .int .i64 a0_4, .int .i64 a0_5]) (t := 35) ?hr ?_; (case hd => rfl); (case hg => rfl); (case hr => first | (go_simp; done) | (go_simp; rfl)); intro gb489 hg w5 hbox hb; have n0_ := Aside0.mk (below_step (by repeat (first | (with_reducible first | exact HB.out | apply below_alloc | apply pw_below_drewN | apply below_drew1) | exact HB.out)) hb); have n1_ := Aside0.mk (hbox); have n2_ := Aside0.mk ((by rw [hg]; exact (below_size (by repeat (first | (with_reducible first | exact HB.out | apply below_alloc | apply pw_below_drewN | apply below_drew1) | exact HB.out))) : w.heap.size ≤ gb489)); have n3_ := Aside0.mk ((by rw [hg]; exact (below_size (by repeat (first | (with_reducible first | exact HB.out | apply below_alloc | apply pw_below_drewN | apply below_drew1) | exact HB.out))) : w.heap.size ≤ gb489)); clear HB; have HB := n0_; have BK489 := n1_; have GW489 := n2_; have GE489 := n3_; clear n0_ n1_ n2_ n3_; clear hb hbox hg; have hcz6_0 : w5.cell? ⟨gb489, 0, none⟩ = some (.int .i64 a0_0) := (blk_cell BK489.out 0).trans rfl; have hcz6_1 : w5.cell? ⟨gb489, 1, none⟩ = some (.int .i64 a0_1) := (blk_cell BK489.out 1).trans rfl; have hcz6_2 : w5.cell? ⟨gb489, 2, none⟩ = some (.int .i64 a0_2) := (blk_cell BK489.out 2).trans rfl; have hcz6_3 : w5.cell? ⟨gb489, 3, none⟩ = some (.int .i64 a0_3) := (blk_cell BK489.out 3).trans rfl; have hcz6_4 : w5.cell? ⟨gb489, 4, none⟩ = some (.int .i64 a0_4) := (blk_cell BK489.out 4).trans rfl; have hcz6_5 : w5.cell? ⟨gb489, 5, none⟩ = some (.int .i64 a0_5) := (blk_cell BK489.out 5).trans rfl; have hfz6_0 := blk_frozen BK489.out 0; have hfz6_1 := blk_frozen BK489.out 1; have hfz6_2 := blk_frozen BK489.out 2; have hfz6_3 := blk_frozen BK489.out 3; have hfz6_4 := blk_frozen BK489.out 4; have hfz6_5 := blk_frozen BK489.out 5) | ((with_reducible refine gate_callee (f := 27) rfl ?_); refine goesL_ (some 22) rfl rfl Try.func27 (by kernel_rfl) rfl #[.agg #[.int .i64 a0_0, .int .i64 a0_1], .agg #[.int .i64 a0_2, .int .i64 a0_3], .int .i64 a0_4, .int .i64 a0_5] rfl (by (try simp only [List.map_toArray, List.map_cons, List.map_nil]); first | done | rfl | (simp only [List.length_drop, List.length_take]; rfl)) ?_; (with_reducible refine (affine_Meet.calls k a0_0 a0_1 a0_2 a0_3 a0_4 a0_5 t490 t491 t492 t493 _ A2.out).mono ?_); rintro e w7 ⟨rfl, hb⟩; refine ⟨_, rfl, ?_⟩; have n0_ := Aside0.mk (blk_below (g := gb489) (o := .cells #[.int .i64 a0_0, .int .i64 a0_1, .int .i64 a0_2, .int .i64 a0_3, .int .i64 a0_4, .int .i64 a0_5] 35 (0, 0)) (by (with_reducible repeat (first | refine blk_drewN ?_ _ | refine blk_drew ?_ | refine blk_alloc ?_ _)); exact BK489.out) hb); have n1_ := Aside0.mk (below_step (by repeat (first | (with_reducible first | exact HB.out | apply below_alloc | apply pw_below_drewN | apply below_drew1 | refine below_set ?_ GE489.out) | exact HB.out)) hb); clear BK489; clear HB; have BK489 := n0_; have HB := n1_; clear n0_ n1_; (try clear hb); (try clear hb2); (try clear hk); (try clear hi); have hcz8_0 : w7.cell? ⟨gb489, 0, none⟩ = some (.int .i64 a0_0) := (blk_cell BK489.out 0).trans rfl; have hcz8_1 : w7.cell? ⟨gb489, 1, none⟩ = some (.int .i64 a0_1) := (blk_cell BK489.out 1).trans rfl; have hcz8_2 : w7.cell? ⟨gb489, 2, none⟩ = some (.int .i64 a0_2) := (blk_cell BK489.out 2).trans rfl; have hcz8_3 : w7.cell? ⟨gb489, 3, none⟩ = some (.int .i64 a0_3) := (blk_cell BK489.out 3).trans rfl; have hcz8_4 : w7.cell? ⟨gb489, 4, none⟩ = some (.int .i64 a0_4) := (blk_cell BK489.out 4).trans rfl; have hcz8_5 : w7.cell? ⟨gb489, 5, none⟩ = some (.int .i64 a0_5) := (blk_cell BK489.out 5).trans rfl; have hfz8_0 := blk_frozen BK489.out 0; have hfz8_1 := blk_frozen BK489.out 1; have hfz8_2 := blk_frozen BK489.out 2; have hfz8_3 := blk_frozen BK489.out 3; have hfz8_4 := blk_frozen BK489.out 4; have hfz8_5 := blk_frozen BK489.out 5) | ((with_reducible refine gate_callee (f := 28) rfl ?_); refine goesL_ (some 36) rfl rfl Try.func28 (by kernel_rfl) rfl #[.agg #[.int .i64 a0_0, .int .i64 a0_1], .agg #[.int .i64 a0_2, .int .i64 a0_3], .int .i64 a0_4, .int .i64 a0_5] rfl (by (try simp only [List.map_toArray, List.map_cons, List.map_nil]); first | done | rfl | (simp only [List.length_drop, List.length_take]; rfl)) ?_; (with_reducible refine (affine_Count.calls k a0_0 a0_1 a0_2 a0_3 a0_4 a0_5 t494 t495 _ A3.out).mono ?_); rintro e w9 ⟨rfl, hb⟩; refine ⟨_, rfl, ?_⟩; have n0_ := Aside0.mk (blk_below (g := gb489) (o := .cells #[.int .i64 a0_0, .int .i64 a0_1, .int .i64 a0_2, .int .i64 a0_3, .int .i64 a0_4, .int .i64 a0_5] 35 (0, 0)) (by (with_reducible repeat (first | refine blk_drewN ?_ _ | refine blk_drew ?_ | refine blk_alloc ?_ _)); exact BK489.out) hb); have n1_ := Aside0.mk (below_step (by repeat (first | (with_reducible first | exact HB.out | apply below_alloc | apply pw_below_drewN | apply below_drew1 | refine below_set ?_ GE489.out) | exact HB.out)) hb); clear BK489; clear HB; have BK489 := n0_; have HB := n1_; clear n0_ n1_; (try clear hb); (try clear hb2); (try clear hk); (try clear hi)))
 (try simp only [Act.put, List.setIfInBounds_toArray, List.set_cons_zero, List.set_cons_succ])
 go_cut [9] (fun v9 wc => ∃ (kq : Nat) (x9_3 : Int), v9 = .int .i64 x9_3 ∧ Aside0 (biremelaw14_AffineMeets.j1 kq t490 t491 t492 t493 t494 t495 x9_3 a0_0 a0_1 a0_2 a0_3 a0_4 a0_5 = some r) ∧ Aside0 (kq ≤ k) ∧ Aside0 (wc.heap[gb489]? = some (.cells #[.int .i64 a0_0, .int .i64 a0_1, .int .i64 a0_2, .int .i64 a0_3, .int .i64 a0_4, .int .i64 a0_5] 35 (0, 0))) ∧ Aside0 (Below w.heap.size w wc))
 case first =>
  have H := HC4.out
  clear HC4
  have HC10 := Aside0.mk H
  clear H
  go_upto_region 4 with (fail)
  go_cut [39] (fun v39 wc => ∃ (kq : Nat) (x39_9 : Bool), v39 = .bool x39_9 ∧ Aside0 (biremelaw14_AffineMeets.j0 kq t490 t491 t492 t493 t494 t495 0 x39_9 a0_0 a0_1 a0_2 a0_3 a0_4 a0_5 = some r) ∧ Aside0 (kq ≤ k) ∧ Aside0 (wc.heap[gb489]? = some (.cells #[.int .i64 a0_0, .int .i64 a0_1, .int .i64 a0_2, .int .i64 a0_3, .int .i64 a0_4, .int .i64 a0_5] 35 (0, 0))) ∧ Aside0 (Below w.heap.size w wc))
  case first =>
   have H := HC10.out
   clear HC10
   replace H := Option.bind_eq_some_iff.mp H
   obtain ⟨t496, A110, H⟩ := H
   replace H : (if t496 = true then ((biremeref14_Line.f k a0_2 a0_3).bind fun t497 => (if t497 = true then ((biremeref14_Within.f k (([a0_4, a0_5] : List Int))).bind fun t501 => (biremelaw14_AffineMeets.j0 k t490 t491 t492 t493 t494 t495 0 (!t501) a0_0 a0_1 a0_2 a0_3 a0_4 a0_5)) else (biremelaw14_AffineMeets.j0 k t490 t491 t492 t493 t494 t495 0 true a0_0 a0_1 a0_2 a0_3 a0_4 a0_5))) else (biremelaw14_AffineMeets.j0 k t490 t491 t492 t493 t494 t495 0 true a0_0 a0_1 a0_2 a0_3 a0_4 a0_5)) = some r := H
   have A11 := Aside0.mk A110
   clear A110
   by_cases c12 : t496 = true
   ·subst c12
    have H1 : ((biremeref14_Line.f k a0_2 a0_3).bind fun t497 => (if t497 = true then ((biremeref14_Within.f k (([a0_4, a0_5] : List Int))).bind fun t501 => (biremelaw14_AffineMeets.j0 k t490 t491 t492 t493 t494 t495 0 (!t501) a0_0 a0_1 a0_2 a0_3 a0_4 a0_5)) else (biremelaw14_AffineMeets.j0 k t490 t491 t492 t493 t494 t495 0 true a0_0 a0_1 a0_2 a0_3 a0_4 a0_5))) = some r := by rw [if_pos rfl] at H; exact H
    clear H
    have H := H1
    clear H1
    replace H := Option.bind_eq_some_iff.mp H
    obtain ⟨t497, A130, H⟩ := H
    replace H : (if t497 = true then ((biremeref14_Within.f k (([a0_4, a0_5] : List Int))).bind fun t501 => (biremelaw14_AffineMeets.j0 k t490 t491 t492 t493 t494 t495 0 (!t501) a0_0 a0_1 a0_2 a0_3 a0_4 a0_5)) else (biremelaw14_AffineMeets.j0 k t490 t491 t492 t493 t494 t495 0 true a0_0 a0_1 a0_2 a0_3 a0_4 a0_5)) = some r := H
    have A13 := Aside0.mk A130
    clear A130
    by_cases c14 : t497 = true
    ·subst c14
     have H1 : ((biremeref14_Within.f k (([a0_4, a0_5] : List Int))).bind fun t501 => (biremelaw14_AffineMeets.j0 k t490 t491 t492 t493 t494 t495 0 (!t501) a0_0 a0_1 a0_2 a0_3 a0_4 a0_5)) = some r := by rw [if_pos rfl] at H; exact H
     clear H
     have H := H1
     clear H1
     obtain ⟨y498, hy498⟩ : ∃ y_ : List Int, y_ = (([a0_4, a0_5] : List Int)) := ⟨_, rfl⟩
     replace H : ((biremeref14_Within.f k y498).bind fun t501 => (biremelaw14_AffineMeets.j0 k t490 t491 t492 t493 t494 t495 0 (!t501) a0_0 a0_1 a0_2 a0_3 a0_4 a0_5)) = some r := by first | (rw [hy498]; with_reducible exact H) | (have H2_ := (Option.bind_some _ _).symm.trans H; rw [hy498]; with_reducible exact H2_) | (have H2_ := (Option.bind_some _ _).symm.trans H; with_reducible exact H2_) | with_reducible exact H | (rw [hy498]; exact H) | exact H
     have Ny498 := Aside0.mk hy498
     clear hy498
     replace H := Option.bind_eq_some_iff.mp H
     obtain ⟨t501, A150, H⟩ := H
     replace H : (biremelaw14_AffineMeets.j0 k t490 t491 t492 t493 t494 t495 0 (!t501) a0_0 a0_1 a0_2 a0_3 a0_4 a0_5) = some r := H
     have A15 := Aside0.mk A150
     clear A150
     have H' := Aside0.mk H
     clear H
     have hcz16_0 : w9.cell? ⟨gb489, 0, none⟩ = some (.int .i64 a0_0) := (blk_cell BK489.out 0).trans rfl
     have hcz16_1 : w9.cell? ⟨gb489, 1, none⟩ = some (.int .i64 a0_1) := (blk_cell BK489.out 1).trans rfl
     have hcz16_2 : w9.cell? ⟨gb489, 2, none⟩ = some (.int .i64 a0_2) := (blk_cell BK489.out 2).trans rfl
     have hcz16_3 : w9.cell? ⟨gb489, 3, none⟩ = some (.int .i64 a0_3) := (blk_cell BK489.out 3).trans rfl
     have hcz16_4 : w9.cell? ⟨gb489, 4, none⟩ = some (.int .i64 a0_4) := (blk_cell BK489.out 4).trans rfl
     have hcz16_5 : w9.cell? ⟨gb489, 5, none⟩ = some (.int .i64 a0_5) := (blk_cell BK489.out 5).trans rfl
     have hfz16_0 := blk_frozen BK489.out 0
     have hfz16_1 := blk_frozen BK489.out 1
     have hfz16_2 := blk_frozen BK489.out 2
     have hfz16_3 := blk_frozen BK489.out 3
     have hfz16_4 := blk_frozen BK489.out 4
     have hfz16_5 := blk_frozen BK489.out 5
     go_wp2_with (first | ((with_reducible refine gate_callee (f := 20) rfl ?_); refine goesL_ (some 42) rfl rfl Try.func20 (by kernel_rfl) rfl #[.agg #[.int .i64 a0_0, .int .i64 a0_1]] rfl (by (try simp only [List.map_toArray, List.map_cons, List.map_nil]); first | done | rfl | (simp only [List.length_drop, List.length_take]; rfl)) ?_; (with_reducible refine (biremeref14_Line.calls k a0_0 a0_1 true _ A11.out).mono ?_); rintro e w17 ⟨rfl, hb⟩; refine ⟨_, rfl, ?_⟩; have n0_ := Aside0.mk (blk_below (g := gb489) (o := .cells #[.int .i64 a0_0, .int .i64 a0_1, .int .i64 a0_2, .int .i64 a0_3, .int .i64 a0_4, .int .i64 a0_5] 35 (0, 0)) (by (with_reducible repeat (first | refine blk_drewN ?_ _ | refine blk_drew ?_ | refine blk_alloc ?_ _)); exact BK489.out) hb); have n1_ := Aside0.mk (below_step (by repeat (first | (with_reducible first | exact HB.out | apply below_alloc | apply pw_below_drewN | apply below_drew1 | refine below_set ?_ GE489.out) | exact HB.out)) hb); clear BK489; clear HB; have BK489 := n0_; have HB := n1_; clear n0_ n1_; (try clear hb); (try clear hb2); (try clear hk); (try clear hi); have hcz18_0 : w17.cell? ⟨gb489, 0, none⟩ = some (.int .i64 a0_0) := (blk_cell BK489.out 0).trans rfl; have hcz18_1 : w17.cell? ⟨gb489, 1, none⟩ = some (.int .i64 a0_1) := (blk_cell BK489.out 1).trans rfl; have hcz18_2 : w17.cell? ⟨gb489, 2, none⟩ = some (.int .i64 a0_2) := (blk_cell BK489.out 2).trans rfl; have hcz18_3 : w17.cell? ⟨gb489, 3, none⟩ = some (.int .i64 a0_3) := (blk_cell BK489.out 3).trans rfl; have hcz18_4 : w17.cell? ⟨gb489, 4, none⟩ = some (.int .i64 a0_4) := (blk_cell BK489.out 4).trans rfl; have hcz18_5 : w17.cell? ⟨gb489, 5, none⟩ = some (.int .i64 a0_5) := (blk_cell BK489.out 5).trans rfl; have hfz18_0 := blk_frozen BK489.out 0; have hfz18_1 := blk_frozen BK489.out 1; have hfz18_2 := blk_frozen BK489.out 2; have hfz18_3 := blk_frozen BK489.out 3; have hfz18_4 := blk_frozen BK489.out 4; have hfz18_5 := blk_frozen BK489.out 5) | (go_at_call 20; (with_reducible refine (biremeref14_Line.calls k a0_2 a0_3 true _ A13.out).mono ?_); rintro e w19 ⟨rfl, hb⟩; have n0_ := Aside0.mk (blk_below (g := gb489) (o := .cells #[.int .i64 a0_0, .int .i64 a0_1, .int .i64 a0_2, .int .i64 a0_3, .int .i64 a0_4, .int .i64 a0_5] 35 (0, 0)) (by (with_reducible repeat (first | refine blk_drewN ?_ _ | refine blk_drew ?_ | refine blk_alloc ?_ _)); exact BK489.out) hb); have n1_ := Aside0.mk (below_step (by repeat (first | (with_reducible first | exact HB.out | apply below_alloc | apply pw_below_drewN | apply below_drew1 | refine below_set ?_ GE489.out) | exact HB.out)) hb); clear BK489; clear HB; have BK489 := n0_; have HB := n1_; clear n0_ n1_; (try clear hb); (try clear hb2); (try clear hk); (try clear hi); have hcz20_0 : w19.cell? ⟨gb489, 0, none⟩ = some (.int .i64 a0_0) := (blk_cell BK489.out 0).trans rfl; have hcz20_1 : w19.cell? ⟨gb489, 1, none⟩ = some (.int .i64 a0_1) := (blk_cell BK489.out 1).trans rfl; have hcz20_2 : w19.cell? ⟨gb489, 2, none⟩ = some (.int .i64 a0_2) := (blk_cell BK489.out 2).trans rfl; have hcz20_3 : w19.cell? ⟨gb489, 3, none⟩ = some (.int .i64 a0_3) := (blk_cell BK489.out 3).trans rfl; have hcz20_4 : w19.cell? ⟨gb489, 4, none⟩ = some (.int .i64 a0_4) := (blk_cell BK489.out 4).trans rfl; have hcz20_5 : w19.cell? ⟨gb489, 5, none⟩ = some (.int .i64 a0_5) := (blk_cell BK489.out 5).trans rfl; have hfz20_0 := blk_frozen BK489.out 0; have hfz20_1 := blk_frozen BK489.out 1; have hfz20_2 := blk_frozen BK489.out 2; have hfz20_3 := blk_frozen BK489.out 3; have hfz20_4 := blk_frozen BK489.out 4; have hfz20_5 := blk_frozen BK489.out 5) | ((with_reducible refine gate_dst (N := 55) rfl ?_); (try (refine gate_guard (by rfl) ?_; dsimp only)); refine Kd.R_lit (Kd.int .i64) _ 2 ?hg (N := 55) ?hd (xs := ([a0_4, a0_5] : List Int)) (inner := [.int .i64 a0_4, .int .i64 a0_5]) (ok := fun _ => True) (okp := fun _ => True) ?hr ?hp (fun _ hk => hk) trivial (Below.refl _ _) (Nat.le_refl _) (by simp) ?_; (case hd => rfl); (case hg => rfl); (case hr => first | (go_simp; done) | (go_simp; rfl)); (case hp => exact (Reps.one (show Kd.M (Kd.int .i64) _ _ _ a0_4 [.int .i64 a0_4] from rfl) (Reps.one (show Kd.M (Kd.int .i64) _ _ _ a0_5 [.int .i64 a0_5] from rfl) (Reps.none _ _)))); intro v499 w21 ho22 hb hg_ hnew_; clear hg_ hnew_; (first | rw [← Ny498.out] at ho22 | (simp only [Int.reduceToNat] at ho22; rw [← Ny498.out] at ho22)); have n0_ := Aside0.mk (Kd.R_lower ho22 (below_size (by repeat (first | (with_reducible first | exact HB.out | apply below_alloc | apply pw_below_drewN | apply below_drew1 | refine below_set ?_ GE489.out) | exact HB.out)))); have n1_ := Aside0.mk (blk_below (g := gb489) (o := .cells #[.int .i64 a0_0, .int .i64 a0_1, .int .i64 a0_2, .int .i64 a0_3, .int .i64 a0_4, .int .i64 a0_5] 35 (0, 0)) (by (with_reducible repeat (first | refine blk_drewN ?_ _ | refine blk_drew ?_ | refine blk_alloc ?_ _)); exact BK489.out) hb); have n2_ := Aside0.mk (below_step (by repeat (first | (with_reducible first | exact HB.out | apply below_alloc | apply pw_below_drewN | apply below_drew1 | refine below_set ?_ GE489.out) | exact HB.out)) hb); clear BK489; clear HB; have HO500 := n0_; have BK489 := n1_; have HB := n2_; clear n0_ n1_ n2_; clear hb ho22; obtain ⟨Ao23, co23, eo23⟩ := Kd.R_slice HO500.out; subst eo23) | (go_at_call 15; (with_reducible refine (biremeref14_Within.calls k _ _ y498 t501 _ ?side1 ?side2 A15.out).mono ?_); (case side1 => repeat (first | exact (Kd.R_reads' HO500.out).2.2 | (with_reducible refine Kd.C_alloc ?_ _) | (with_reducible refine Kd.C_drewN ?_ _) | (with_reducible refine Kd.C_drew ?_))); (case side2 => exact (Kd.R_reads' HO500.out).2.1); rintro e w' ⟨rfl, ⟨nd, rfl⟩⟩))
     go_meet
     case rel => exact ⟨_, (!t501), (by first | rfl | (simp; done) | (simp [*]; done)), H', ⟨by first | omega | exact Nat.le_refl _⟩, ⟨by (with_reducible repeat (first | refine blk_drewN ?_ _ | refine blk_drew ?_ | refine blk_alloc ?_ _)); exact BK489.out⟩, ⟨by repeat (first | (with_reducible first | exact HB.out | apply below_alloc | apply pw_below_drewN | apply below_drew1 | refine below_set ?_ GE489.out) | exact HB.out)⟩⟩
    ·replace c14 := Bool.eq_false_iff.mpr c14
     subst c14
     have H1 : (biremelaw14_AffineMeets.j0 k t490 t491 t492 t493 t494 t495 0 true a0_0 a0_1 a0_2 a0_3 a0_4 a0_5) = some r := by rw [if_neg (show ¬ (false = true) by decide)] at H; exact H
     clear H
     have H := H1
     clear H1
     have H' := Aside0.mk H
     clear H
     have hcz24_0 : w9.cell? ⟨gb489, 0, none⟩ = some (.int .i64 a0_0) := (blk_cell BK489.out 0).trans rfl
     have hcz24_1 : w9.cell? ⟨gb489, 1, none⟩ = some (.int .i64 a0_1) := (blk_cell BK489.out 1).trans rfl
     have hcz24_2 : w9.cell? ⟨gb489, 2, none⟩ = some (.int .i64 a0_2) := (blk_cell BK489.out 2).trans rfl
     have hcz24_3 : w9.cell? ⟨gb489, 3, none⟩ = some (.int .i64 a0_3) := (blk_cell BK489.out 3).trans rfl
     have hcz24_4 : w9.cell? ⟨gb489, 4, none⟩ = some (.int .i64 a0_4) := (blk_cell BK489.out 4).trans rfl
     have hcz24_5 : w9.cell? ⟨gb489, 5, none⟩ = some (.int .i64 a0_5) := (blk_cell BK489.out 5).trans rfl
     have hfz24_0 := blk_frozen BK489.out 0
     have hfz24_1 := blk_frozen BK489.out 1
     have hfz24_2 := blk_frozen BK489.out 2
     have hfz24_3 := blk_frozen BK489.out 3
     have hfz24_4 := blk_frozen BK489.out 4
     have hfz24_5 := blk_frozen BK489.out 5
     go_wp2_with (first | ((with_reducible refine gate_callee (f := 20) rfl ?_); refine goesL_ (some 42) rfl rfl Try.func20 (by kernel_rfl) rfl #[.agg #[.int .i64 a0_0, .int .i64 a0_1]] rfl (by (try simp only [List.map_toArray, List.map_cons, List.map_nil]); first | done | rfl | (simp only [List.length_drop, List.length_take]; rfl)) ?_; (with_reducible refine (biremeref14_Line.calls k a0_0 a0_1 true _ A11.out).mono ?_); rintro e w25 ⟨rfl, hb⟩; refine ⟨_, rfl, ?_⟩; have n0_ := Aside0.mk (blk_below (g := gb489) (o := .cells #[.int .i64 a0_0, .int .i64 a0_1, .int .i64 a0_2, .int .i64 a0_3, .int .i64 a0_4, .int .i64 a0_5] 35 (0, 0)) (by (with_reducible repeat (first | refine blk_drewN ?_ _ | refine blk_drew ?_ | refine blk_alloc ?_ _)); exact BK489.out) hb); have n1_ := Aside0.mk (below_step (by repeat (first | (with_reducible first | exact HB.out | apply below_alloc | apply pw_below_drewN | apply below_drew1 | refine below_set ?_ GE489.out) | exact HB.out)) hb); clear BK489; clear HB; have BK489 := n0_; have HB := n1_; clear n0_ n1_; (try clear hb); (try clear hb2); (try clear hk); (try clear hi); have hcz26_0 : w25.cell? ⟨gb489, 0, none⟩ = some (.int .i64 a0_0) := (blk_cell BK489.out 0).trans rfl; have hcz26_1 : w25.cell? ⟨gb489, 1, none⟩ = some (.int .i64 a0_1) := (blk_cell BK489.out 1).trans rfl; have hcz26_2 : w25.cell? ⟨gb489, 2, none⟩ = some (.int .i64 a0_2) := (blk_cell BK489.out 2).trans rfl; have hcz26_3 : w25.cell? ⟨gb489, 3, none⟩ = some (.int .i64 a0_3) := (blk_cell BK489.out 3).trans rfl; have hcz26_4 : w25.cell? ⟨gb489, 4, none⟩ = some (.int .i64 a0_4) := (blk_cell BK489.out 4).trans rfl; have hcz26_5 : w25.cell? ⟨gb489, 5, none⟩ = some (.int .i64 a0_5) := (blk_cell BK489.out 5).trans rfl; have hfz26_0 := blk_frozen BK489.out 0; have hfz26_1 := blk_frozen BK489.out 1; have hfz26_2 := blk_frozen BK489.out 2; have hfz26_3 := blk_frozen BK489.out 3; have hfz26_4 := blk_frozen BK489.out 4; have hfz26_5 := blk_frozen BK489.out 5) | (go_at_call 20; (with_reducible refine (biremeref14_Line.calls k a0_2 a0_3 false _ A13.out).mono ?_); rintro e w27 ⟨rfl, hb⟩; have n0_ := Aside0.mk (blk_below (g := gb489) (o := .cells #[.int .i64 a0_0, .int .i64 a0_1, .int .i64 a0_2, .int .i64 a0_3, .int .i64 a0_4, .int .i64 a0_5] 35 (0, 0)) (by (with_reducible repeat (first | refine blk_drewN ?_ _ | refine blk_drew ?_ | refine blk_alloc ?_ _)); exact BK489.out) hb); have n1_ := Aside0.mk (below_step (by repeat (first | (with_reducible first | exact HB.out | apply below_alloc | apply pw_below_drewN | apply below_drew1 | refine below_set ?_ GE489.out) | exact HB.out)) hb); clear BK489; clear HB; have BK489 := n0_; have HB := n1_; clear n0_ n1_; (try clear hb); (try clear hb2); (try clear hk); (try clear hi)))
     go_meet
     case rel => exact ⟨_, (true), (by first | rfl | (simp; done) | (simp [*]; done)), H', ⟨by first | omega | exact Nat.le_refl _⟩, ⟨by (with_reducible repeat (first | refine blk_drewN ?_ _ | refine blk_drew ?_ | refine blk_alloc ?_ _)); exact BK489.out⟩, ⟨by repeat (first | (with_reducible first | exact HB.out | apply below_alloc | apply pw_below_drewN | apply below_drew1 | refine below_set ?_ GE489.out) | exact HB.out)⟩⟩
   ·replace c12 := Bool.eq_false_iff.mpr c12
    subst c12
    have H1 : (biremelaw14_AffineMeets.j0 k t490 t491 t492 t493 t494 t495 0 true a0_0 a0_1 a0_2 a0_3 a0_4 a0_5) = some r := by rw [if_neg (show ¬ (false = true) by decide)] at H; exact H
    clear H
    have H := H1
    clear H1
    have H' := Aside0.mk H
    clear H
    have hcz28_0 : w9.cell? ⟨gb489, 0, none⟩ = some (.int .i64 a0_0) := (blk_cell BK489.out 0).trans rfl
    have hcz28_1 : w9.cell? ⟨gb489, 1, none⟩ = some (.int .i64 a0_1) := (blk_cell BK489.out 1).trans rfl
    have hcz28_2 : w9.cell? ⟨gb489, 2, none⟩ = some (.int .i64 a0_2) := (blk_cell BK489.out 2).trans rfl
    have hcz28_3 : w9.cell? ⟨gb489, 3, none⟩ = some (.int .i64 a0_3) := (blk_cell BK489.out 3).trans rfl
    have hcz28_4 : w9.cell? ⟨gb489, 4, none⟩ = some (.int .i64 a0_4) := (blk_cell BK489.out 4).trans rfl
    have hcz28_5 : w9.cell? ⟨gb489, 5, none⟩ = some (.int .i64 a0_5) := (blk_cell BK489.out 5).trans rfl
    have hfz28_0 := blk_frozen BK489.out 0
    have hfz28_1 := blk_frozen BK489.out 1
    have hfz28_2 := blk_frozen BK489.out 2
    have hfz28_3 := blk_frozen BK489.out 3
    have hfz28_4 := blk_frozen BK489.out 4
    have hfz28_5 := blk_frozen BK489.out 5
    go_wp2_with (first | ((with_reducible refine gate_callee (f := 20) rfl ?_); refine goesL_ (some 42) rfl rfl Try.func20 (by kernel_rfl) rfl #[.agg #[.int .i64 a0_0, .int .i64 a0_1]] rfl (by (try simp only [List.map_toArray, List.map_cons, List.map_nil]); first | done | rfl | (simp only [List.length_drop, List.length_take]; rfl)) ?_; (with_reducible refine (biremeref14_Line.calls k a0_0 a0_1 false _ A11.out).mono ?_); rintro e w29 ⟨rfl, hb⟩; refine ⟨_, rfl, ?_⟩; have n0_ := Aside0.mk (blk_below (g := gb489) (o := .cells #[.int .i64 a0_0, .int .i64 a0_1, .int .i64 a0_2, .int .i64 a0_3, .int .i64 a0_4, .int .i64 a0_5] 35 (0, 0)) (by (with_reducible repeat (first | refine blk_drewN ?_ _ | refine blk_drew ?_ | refine blk_alloc ?_ _)); exact BK489.out) hb); have n1_ := Aside0.mk (below_step (by repeat (first | (with_reducible first | exact HB.out | apply below_alloc | apply pw_below_drewN | apply below_drew1 | refine below_set ?_ GE489.out) | exact HB.out)) hb); clear BK489; clear HB; have BK489 := n0_; have HB := n1_; clear n0_ n1_; (try clear hb); (try clear hb2); (try clear hk); (try clear hi)))
    go_meet
    case rel => exact ⟨_, (true), (by first | rfl | (simp; done) | (simp [*]; done)), H', ⟨by first | omega | exact Nat.le_refl _⟩, ⟨by (with_reducible repeat (first | refine blk_drewN ?_ _ | refine blk_drew ?_ | refine blk_alloc ?_ _)); exact BK489.out⟩, ⟨by repeat (first | (with_reducible first | exact HB.out | apply below_alloc | apply pw_below_drewN | apply below_drew1 | refine below_set ?_ GE489.out) | exact HB.out)⟩⟩
  case rest =>
   clear HC10
   try clear c1
   try clear c2
   try clear p2
   try clear c9
   try clear c12
   try clear c14
   try clear c20
   try clear c27
   try clear c28
   try clear hcz16_0
   try clear hcz16_1
   try clear hcz16_2
   try clear hcz16_3
   try clear hcz16_4
   try clear hcz16_5
   try clear hcz18_0
   try clear hcz18_1
   try clear hcz18_2
   try clear hcz18_3
   try clear hcz18_4
   try clear hcz18_5
   try clear hcz20_0
   try clear hcz20_1
   try clear hcz20_2
   try clear hcz20_3
   try clear hcz20_4
   try clear hcz20_5
   try clear hcz24_0
   try clear hcz24_1
   try clear hcz24_2
   try clear hcz24_3
   try clear hcz24_4
   try clear hcz24_5
   try clear hcz26_0
   try clear hcz26_1
   try clear hcz26_2
   try clear hcz26_3
   try clear hcz26_4
   try clear hcz26_5
   try clear hcz28_0
   try clear hcz28_1
   try clear hcz28_2
   try clear hcz28_3
   try clear hcz28_4
   try clear hcz28_5
   try clear hcz6_0
   try clear hcz6_1
   try clear hcz6_2
   try clear hcz6_3
   try clear hcz6_4
   try clear hcz6_5
   try clear hcz8_0
   try clear hcz8_1
   try clear hcz8_2
   try clear hcz8_3
   try clear hcz8_4
   try clear hcz8_5
   try clear hfz16_0
   try clear hfz16_1
   try clear hfz16_2
   try clear hfz16_3
   try clear hfz16_4
   try clear hfz16_5
   try clear hfz18_0
   try clear hfz18_1
   try clear hfz18_2
   try clear hfz18_3
   try clear hfz18_4
   try clear hfz18_5
   try clear hfz20_0
   try clear hfz20_1
   try clear hfz20_2
   try clear hfz20_3
   try clear hfz20_4
   try clear hfz20_5
   try clear hfz24_0
   try clear hfz24_1
   try clear hfz24_2
   try clear hfz24_3
   try clear hfz24_4
   try clear hfz24_5
   try clear hfz26_0
   try clear hfz26_1
   try clear hfz26_2
   try clear hfz26_3
   try clear hfz26_4
   try clear hfz26_5
   try clear hfz28_0
   try clear hfz28_1
   try clear hfz28_2
   try clear hfz28_3
   try clear hfz28_4
   try clear hfz28_5
   try clear hfz6_0
   try clear hfz6_1
   try clear hfz6_2
   try clear hfz6_3
   try clear hfz6_4
   try clear hfz6_5
   try clear hfz8_0
   try clear hfz8_1
   try clear hfz8_2
   try clear hfz8_3
   try clear hfz8_4
   try clear hfz8_5
   obtain ⟨kq, x39_9, rfl, HA, HJ9, BK489, HB⟩ := hcut
   cases kq with
   | zero => exact absurd HA.out (by simp [biremelaw14_AffineMeets.j0])
   | succ kj9 =>
    have H := HA.out
    clear HA
    simp only [biremelaw14_AffineMeets.j0] at H
    by_cases c30 : x39_9 = true
    ·subst c30
     have H1 : (biremelaw14_AffineMeets.j1 kj9 t490 t491 t492 t493 t494 t495 3 a0_0 a0_1 a0_2 a0_3 a0_4 a0_5) = some r := by rw [if_pos rfl] at H; exact H
     clear H
     have H := H1
     clear H1
     have H' := Aside0.mk H
     clear H
     go_wp2
     go_meet
     case rel => exact ⟨_, (3), (by first | rfl | (simp; done) | (simp [*]; done)), H', ⟨by have := HJ9.out; first | omega | exact Nat.le_refl _⟩, ⟨by (with_reducible repeat (first | refine blk_drewN ?_ _ | refine blk_drew ?_ | refine blk_alloc ?_ _)); exact BK489.out⟩, ⟨by repeat (first | (with_reducible first | exact HB.out | apply below_alloc | apply pw_below_drewN | apply below_drew1 | refine below_set ?_ GE489.out) | exact HB.out)⟩⟩
    ·replace c30 := Bool.eq_false_iff.mpr c30
     subst c30
     have H1 : (if a0_4 < 0 then (biremelaw14_AffineMeets.j1 kj9 t490 t491 t492 t493 t494 t495 2 a0_0 a0_1 a0_2 a0_3 a0_4 a0_5) else (if a0_5 < 0 then (biremelaw14_AffineMeets.j1 kj9 t490 t491 t492 t493 t494 t495 2 a0_0 a0_1 a0_2 a0_3 a0_4 a0_5) else (biremelaw14_AffineMeets.j1 kj9 t490 t491 t492 t493 t494 t495 0 a0_0 a0_1 a0_2 a0_3 a0_4 a0_5))) = some r := by rw [if_neg (show ¬ (false = true) by decide)] at H; exact H
     clear H
     have H := H1
     clear H1
     by_cases c31 : a0_4 < 0
     ·rw [if_pos c31] at H
      have c31b0 : decide (a0_4 < 0) = true := decide_eq_true c31
      clear c31
      have H' := Aside0.mk H
      clear H
      have hcz32_0 : wc.cell? ⟨gb489, 0, none⟩ = some (.int .i64 a0_0) := (blk_cell BK489.out 0).trans rfl
      have hcz32_1 : wc.cell? ⟨gb489, 1, none⟩ = some (.int .i64 a0_1) := (blk_cell BK489.out 1).trans rfl
      have hcz32_2 : wc.cell? ⟨gb489, 2, none⟩ = some (.int .i64 a0_2) := (blk_cell BK489.out 2).trans rfl
      have hcz32_3 : wc.cell? ⟨gb489, 3, none⟩ = some (.int .i64 a0_3) := (blk_cell BK489.out 3).trans rfl
      have hcz32_4 : wc.cell? ⟨gb489, 4, none⟩ = some (.int .i64 a0_4) := (blk_cell BK489.out 4).trans rfl
      have hcz32_5 : wc.cell? ⟨gb489, 5, none⟩ = some (.int .i64 a0_5) := (blk_cell BK489.out 5).trans rfl
      have hfz32_0 := blk_frozen BK489.out 0
      have hfz32_1 := blk_frozen BK489.out 1
      have hfz32_2 := blk_frozen BK489.out 2
      have hfz32_3 := blk_frozen BK489.out 3
      have hfz32_4 := blk_frozen BK489.out 4
      have hfz32_5 := blk_frozen BK489.out 5
      go_wp2
      go_meet
      case rel => exact ⟨_, (2), (by first | rfl | (simp; done) | (simp [*]; done)), H', ⟨by have := HJ9.out; first | omega | exact Nat.le_refl _⟩, ⟨by (with_reducible repeat (first | refine blk_drewN ?_ _ | refine blk_drew ?_ | refine blk_alloc ?_ _)); exact BK489.out⟩, ⟨by repeat (first | (with_reducible first | exact HB.out | apply below_alloc | apply pw_below_drewN | apply below_drew1 | refine below_set ?_ GE489.out) | exact HB.out)⟩⟩
     ·rw [if_neg c31] at H
      have c31b0 : decide (a0_4 < 0) = false := decide_eq_false c31
      clear c31
      by_cases c33 : a0_5 < 0
      ·rw [if_pos c33] at H
       have c33b0 : decide (a0_5 < 0) = true := decide_eq_true c33
       clear c33
       have H' := Aside0.mk H
       clear H
       have hcz34_0 : wc.cell? ⟨gb489, 0, none⟩ = some (.int .i64 a0_0) := (blk_cell BK489.out 0).trans rfl
       have hcz34_1 : wc.cell? ⟨gb489, 1, none⟩ = some (.int .i64 a0_1) := (blk_cell BK489.out 1).trans rfl
       have hcz34_2 : wc.cell? ⟨gb489, 2, none⟩ = some (.int .i64 a0_2) := (blk_cell BK489.out 2).trans rfl
       have hcz34_3 : wc.cell? ⟨gb489, 3, none⟩ = some (.int .i64 a0_3) := (blk_cell BK489.out 3).trans rfl
       have hcz34_4 : wc.cell? ⟨gb489, 4, none⟩ = some (.int .i64 a0_4) := (blk_cell BK489.out 4).trans rfl
       have hcz34_5 : wc.cell? ⟨gb489, 5, none⟩ = some (.int .i64 a0_5) := (blk_cell BK489.out 5).trans rfl
       have hfz34_0 := blk_frozen BK489.out 0
       have hfz34_1 := blk_frozen BK489.out 1
       have hfz34_2 := blk_frozen BK489.out 2
       have hfz34_3 := blk_frozen BK489.out 3
       have hfz34_4 := blk_frozen BK489.out 4
       have hfz34_5 := blk_frozen BK489.out 5
       go_wp2
       go_meet
       case rel => exact ⟨_, (2), (by first | rfl | (simp; done) | (simp [*]; done)), H', ⟨by have := HJ9.out; first | omega | exact Nat.le_refl _⟩, ⟨by (with_reducible repeat (first | refine blk_drewN ?_ _ | refine blk_drew ?_ | refine blk_alloc ?_ _)); exact BK489.out⟩, ⟨by repeat (first | (with_reducible first | exact HB.out | apply below_alloc | apply pw_below_drewN | apply below_drew1 | refine below_set ?_ GE489.out) | exact HB.out)⟩⟩
      ·rw [if_neg c33] at H
       have c33b0 : decide (a0_5 < 0) = false := decide_eq_false c33
       clear c33
       have H' := Aside0.mk H
       clear H
       have hcz35_0 : wc.cell? ⟨gb489, 0, none⟩ = some (.int .i64 a0_0) := (blk_cell BK489.out 0).trans rfl
       have hcz35_1 : wc.cell? ⟨gb489, 1, none⟩ = some (.int .i64 a0_1) := (blk_cell BK489.out 1).trans rfl
       have hcz35_2 : wc.cell? ⟨gb489, 2, none⟩ = some (.int .i64 a0_2) := (blk_cell BK489.out 2).trans rfl
       have hcz35_3 : wc.cell? ⟨gb489, 3, none⟩ = some (.int .i64 a0_3) := (blk_cell BK489.out 3).trans rfl
       have hcz35_4 : wc.cell? ⟨gb489, 4, none⟩ = some (.int .i64 a0_4) := (blk_cell BK489.out 4).trans rfl
       have hcz35_5 : wc.cell? ⟨gb489, 5, none⟩ = some (.int .i64 a0_5) := (blk_cell BK489.out 5).trans rfl
       have hfz35_0 := blk_frozen BK489.out 0
       have hfz35_1 := blk_frozen BK489.out 1
       have hfz35_2 := blk_frozen BK489.out 2
       have hfz35_3 := blk_frozen BK489.out 3
       have hfz35_4 := blk_frozen BK489.out 4
       have hfz35_5 := blk_frozen BK489.out 5
       go_wp2
       go_meet
       case rel => exact ⟨_, (0), (by first | rfl | (simp; done) | (simp [*]; done)), H', ⟨by have := HJ9.out; first | omega | exact Nat.le_refl _⟩, ⟨by (with_reducible repeat (first | refine blk_drewN ?_ _ | refine blk_drew ?_ | refine blk_alloc ?_ _)); exact BK489.out⟩, ⟨by repeat (first | (with_reducible first | exact HB.out | apply below_alloc | apply pw_below_drewN | apply below_drew1 | refine below_set ?_ GE489.out) | exact HB.out)⟩⟩
 case rest =>
  clear HC4
  try clear c1
  try clear c2
  try clear p2
  try clear c3
  try clear c9
  try clear c12
  try clear c14
  try clear c20
  try clear c27
  try clear c28
  try clear c30
  try clear c31
  try clear c31b0
  try clear c33
  try clear c33b0
  try clear hcz16_0
  try clear hcz16_1
  try clear hcz16_2
  try clear hcz16_3
  try clear hcz16_4
  try clear hcz16_5
  try clear hcz18_0
  try clear hcz18_1
  try clear hcz18_2
  try clear hcz18_3
  try clear hcz18_4
  try clear hcz18_5
  try clear hcz20_0
  try clear hcz20_1
  try clear hcz20_2
  try clear hcz20_3
  try clear hcz20_4
  try clear hcz20_5
  try clear hcz24_0
  try clear hcz24_1
  try clear hcz24_2
  try clear hcz24_3
  try clear hcz24_4
  try clear hcz24_5
  try clear hcz26_0
  try clear hcz26_1
  try clear hcz26_2
  try clear hcz26_3
  try clear hcz26_4
  try clear hcz26_5
  try clear hcz28_0
  try clear hcz28_1
  try clear hcz28_2
  try clear hcz28_3
  try clear hcz28_4
  try clear hcz28_5
  try clear hcz32_0
  try clear hcz32_1
  try clear hcz32_2
  try clear hcz32_3
  try clear hcz32_4
  try clear hcz32_5
  try clear hcz34_0
  try clear hcz34_1
  try clear hcz34_2
  try clear hcz34_3
  try clear hcz34_4
  try clear hcz34_5
  try clear hcz35_0
  try clear hcz35_1
  try clear hcz35_2
  try clear hcz35_3
  try clear hcz35_4
  try clear hcz35_5
  try clear hcz6_0
  try clear hcz6_1
  try clear hcz6_2
  try clear hcz6_3
  try clear hcz6_4
  try clear hcz6_5
  try clear hcz8_0
  try clear hcz8_1
  try clear hcz8_2
  try clear hcz8_3
  try clear hcz8_4
  try clear hcz8_5
  try clear hfz16_0
  try clear hfz16_1
  try clear hfz16_2
  try clear hfz16_3
  try clear hfz16_4
  try clear hfz16_5
  try clear hfz18_0
  try clear hfz18_1
  try clear hfz18_2
  try clear hfz18_3
  try clear hfz18_4
  try clear hfz18_5
  try clear hfz20_0
  try clear hfz20_1
  try clear hfz20_2
  try clear hfz20_3
  try clear hfz20_4
  try clear hfz20_5
  try clear hfz24_0
  try clear hfz24_1
  try clear hfz24_2
  try clear hfz24_3
  try clear hfz24_4
  try clear hfz24_5
  try clear hfz26_0
  try clear hfz26_1
  try clear hfz26_2
  try clear hfz26_3
  try clear hfz26_4
  try clear hfz26_5
  try clear hfz28_0
  try clear hfz28_1
  try clear hfz28_2
  try clear hfz28_3
  try clear hfz28_4
  try clear hfz28_5
  try clear hfz32_0
  try clear hfz32_1
  try clear hfz32_2
  try clear hfz32_3
  try clear hfz32_4
  try clear hfz32_5
  try clear hfz34_0
  try clear hfz34_1
  try clear hfz34_2
  try clear hfz34_3
  try clear hfz34_4
  try clear hfz34_5
  try clear hfz35_0
  try clear hfz35_1
  try clear hfz35_2
  try clear hfz35_3
  try clear hfz35_4
  try clear hfz35_5
  try clear hfz6_0
  try clear hfz6_1
  try clear hfz6_2
  try clear hfz6_3
  try clear hfz6_4
  try clear hfz6_5
  try clear hfz8_0
  try clear hfz8_1
  try clear hfz8_2
  try clear hfz8_3
  try clear hfz8_4
  try clear hfz8_5
  try clear p2
  obtain ⟨kq, x9_3, rfl, HA, HJ3, BK489, HB⟩ := hcut
  cases kq with
  | zero => exact absurd HA.out (by simp [biremelaw14_AffineMeets.j1])
  | succ kj3 =>
   have H := HA.out
   clear HA
   simp only [biremelaw14_AffineMeets.j1] at H
   by_cases c36 : x9_3 = 0
   ·rw [if_pos c36] at H
    have c36b0 : (x9_3 == 0) = true := beq_iff_eq.mpr c36
    have c36b1 : (x9_3 != 0) = false := bne_eq_false_iff_eq.mpr c36
    clear c36
    replace H := Option.bind_eq_some_iff.mp H
    obtain ⟨⟨t502, t503, t504⟩, A370, H⟩ := H
    replace H : (if t490 = t502 then (if t491 = t503 then (if (t492 == t504) = true then (if t493 = 0 then ((biremeref14_Count.f kj3 a0_0 a0_1 a0_2 a0_3 a0_4 a0_5).bind fun t505 => (if t494 = t505 then (if t495 = 0 then ((biremelaw14_alive.f kj3).bind fun t506 => (some t506)) else (some false)) else (some false))) else (some false)) else (some false)) else (some false)) else (some false)) = some r := H
    have A37 := Aside0.mk A370
    clear A370
    by_cases c38 : t490 = t502
    ·rw [if_pos c38] at H
     have c38b0 : (t490 == t502) = true := beq_iff_eq.mpr c38
     have c38b1 : (t490 != t502) = false := bne_eq_false_iff_eq.mpr c38
     clear c38
     by_cases c39 : t491 = t503
     ·rw [if_pos c39] at H
      have c39b0 : (t491 == t503) = true := beq_iff_eq.mpr c39
      have c39b1 : (t491 != t503) = false := bne_eq_false_iff_eq.mpr c39
      clear c39
      by_cases c40 : (t492 == t504) = true
      ·rw [if_pos c40] at H
       have c40b0 : (t492 == t504) = true := c40
       (try (have c40b1 : decide (t492 = t504) = true := by simpa using c40))
       (try (have c40b2 : (t492 == t504) = true := by simpa using c40))
       clear c40
       by_cases c41 : t493 = 0
       ·rw [if_pos c41] at H
        have c41b0 : (t493 == 0) = true := beq_iff_eq.mpr c41
        have c41b1 : (t493 != 0) = false := bne_eq_false_iff_eq.mpr c41
        clear c41
        replace H := Option.bind_eq_some_iff.mp H
        obtain ⟨t505, A420, H⟩ := H
        replace H : (if t494 = t505 then (if t495 = 0 then ((biremelaw14_alive.f kj3).bind fun t506 => (some t506)) else (some false)) else (some false)) = some r := H
        have A42 := Aside0.mk A420
        clear A420
        by_cases c43 : t494 = t505
        ·rw [if_pos c43] at H
         have c43b0 : (t494 == t505) = true := beq_iff_eq.mpr c43
         have c43b1 : (t494 != t505) = false := bne_eq_false_iff_eq.mpr c43
         clear c43
         by_cases c44 : t495 = 0
         ·rw [if_pos c44] at H
          have c44b0 : (t495 == 0) = true := beq_iff_eq.mpr c44
          have c44b1 : (t495 != 0) = false := bne_eq_false_iff_eq.mpr c44
          clear c44
          replace H := Option.bind_eq_some_iff.mp H
          obtain ⟨t506, A450, H⟩ := H
          replace H : (some t506) = some r := H
          have A45 := Aside0.mk A450
          clear A450
          obtain rfl := Option.some.inj H
          have hcz46_0 : wc.cell? ⟨gb489, 0, none⟩ = some (.int .i64 a0_0) := (blk_cell BK489.out 0).trans rfl
          have hcz46_1 : wc.cell? ⟨gb489, 1, none⟩ = some (.int .i64 a0_1) := (blk_cell BK489.out 1).trans rfl
          have hcz46_2 : wc.cell? ⟨gb489, 2, none⟩ = some (.int .i64 a0_2) := (blk_cell BK489.out 2).trans rfl
          have hcz46_3 : wc.cell? ⟨gb489, 3, none⟩ = some (.int .i64 a0_3) := (blk_cell BK489.out 3).trans rfl
          have hcz46_4 : wc.cell? ⟨gb489, 4, none⟩ = some (.int .i64 a0_4) := (blk_cell BK489.out 4).trans rfl
          have hcz46_5 : wc.cell? ⟨gb489, 5, none⟩ = some (.int .i64 a0_5) := (blk_cell BK489.out 5).trans rfl
          have hfz46_0 := blk_frozen BK489.out 0
          have hfz46_1 := blk_frozen BK489.out 1
          have hfz46_2 := blk_frozen BK489.out 2
          have hfz46_3 := blk_frozen BK489.out 3
          have hfz46_4 := blk_frozen BK489.out 4
          have hfz46_5 := blk_frozen BK489.out 5
          go_wp2_with (first | ((with_reducible refine gate_callee (f := 29) rfl ?_); refine goesL_ (some 106) rfl rfl Try.func29 (by kernel_rfl) rfl #[.agg #[.int .i64 a0_0, .int .i64 a0_1], .agg #[.int .i64 a0_2, .int .i64 a0_3], .int .i64 a0_4, .int .i64 a0_5] rfl (by (try simp only [List.map_toArray, List.map_cons, List.map_nil]); first | done | rfl | (simp only [List.length_drop, List.length_take]; rfl)) ?_; (with_reducible refine (biremeref14_Meet.calls kj3 a0_0 a0_1 a0_2 a0_3 a0_4 a0_5 t502 t503 t504 _ A37.out).mono ?_); rintro e w47 ⟨rfl, hb⟩; refine ⟨_, rfl, ?_⟩; have n0_ := Aside0.mk (blk_below (g := gb489) (o := .cells #[.int .i64 a0_0, .int .i64 a0_1, .int .i64 a0_2, .int .i64 a0_3, .int .i64 a0_4, .int .i64 a0_5] 35 (0, 0)) (by (with_reducible repeat (first | refine blk_drewN ?_ _ | refine blk_drew ?_ | refine blk_alloc ?_ _)); exact BK489.out) hb); have n1_ := Aside0.mk (below_step (by repeat (first | (with_reducible first | exact HB.out | apply below_alloc | apply pw_below_drewN | apply below_drew1 | refine below_set ?_ GE489.out) | exact HB.out)) hb); clear BK489; clear HB; have BK489 := n0_; have HB := n1_; clear n0_ n1_; (try clear hb); (try clear hb2); (try clear hk); (try clear hi); have hcz48_0 : w47.cell? ⟨gb489, 0, none⟩ = some (.int .i64 a0_0) := (blk_cell BK489.out 0).trans rfl; have hcz48_1 : w47.cell? ⟨gb489, 1, none⟩ = some (.int .i64 a0_1) := (blk_cell BK489.out 1).trans rfl; have hcz48_2 : w47.cell? ⟨gb489, 2, none⟩ = some (.int .i64 a0_2) := (blk_cell BK489.out 2).trans rfl; have hcz48_3 : w47.cell? ⟨gb489, 3, none⟩ = some (.int .i64 a0_3) := (blk_cell BK489.out 3).trans rfl; have hcz48_4 : w47.cell? ⟨gb489, 4, none⟩ = some (.int .i64 a0_4) := (blk_cell BK489.out 4).trans rfl; have hcz48_5 : w47.cell? ⟨gb489, 5, none⟩ = some (.int .i64 a0_5) := (blk_cell BK489.out 5).trans rfl; have hfz48_0 := blk_frozen BK489.out 0; have hfz48_1 := blk_frozen BK489.out 1; have hfz48_2 := blk_frozen BK489.out 2; have hfz48_3 := blk_frozen BK489.out 3; have hfz48_4 := blk_frozen BK489.out 4; have hfz48_5 := blk_frozen BK489.out 5) | (go_at_call 30; (with_reducible refine (biremeref14_Count.calls kj3 a0_0 a0_1 a0_2 a0_3 a0_4 a0_5 t505 _ A42.out).mono ?_); rintro e w49 ⟨rfl, hb⟩; have n0_ := Aside0.mk (blk_below (g := gb489) (o := .cells #[.int .i64 a0_0, .int .i64 a0_1, .int .i64 a0_2, .int .i64 a0_3, .int .i64 a0_4, .int .i64 a0_5] 35 (0, 0)) (by (with_reducible repeat (first | refine blk_drewN ?_ _ | refine blk_drew ?_ | refine blk_alloc ?_ _)); exact BK489.out) hb); have n1_ := Aside0.mk (below_step (by repeat (first | (with_reducible first | exact HB.out | apply below_alloc | apply pw_below_drewN | apply below_drew1 | refine below_set ?_ GE489.out) | exact HB.out)) hb); clear BK489; clear HB; have BK489 := n0_; have HB := n1_; clear n0_ n1_; (try clear hb); (try clear hb2); (try clear hk); (try clear hi)) | (go_at_call 16; (with_reducible refine (biremelaw14_alive.calls kj3  t506 _ A45.out).mono ?_); rintro e w50 ⟨rfl, hb⟩; have n0_ := Aside0.mk (blk_below (g := gb489) (o := .cells #[.int .i64 a0_0, .int .i64 a0_1, .int .i64 a0_2, .int .i64 a0_3, .int .i64 a0_4, .int .i64 a0_5] 35 (0, 0)) (by (with_reducible repeat (first | refine blk_drewN ?_ _ | refine blk_drew ?_ | refine blk_alloc ?_ _)); exact BK489.out) hb); have n1_ := Aside0.mk (below_step (by repeat (first | (with_reducible first | exact HB.out | apply below_alloc | apply pw_below_drewN | apply below_drew1 | refine below_set ?_ GE489.out) | exact HB.out)) hb); clear BK489; clear HB; have BK489 := n0_; have HB := n1_; clear n0_ n1_; (try clear hb); (try clear hb2); (try clear hk); (try clear hi)))
          go_ret
          exact ⟨by first | rfl | (simp [errW_none, errW_some] <;> rfl) | (simp [*, errW_none, errW_some] <;> rfl), by repeat (first | (with_reducible first | exact HB.out | apply below_alloc | apply pw_below_drewN | apply below_drew1 | refine below_set ?_ GE489.out) | exact HB.out)⟩
         ·rw [if_neg c44] at H
          have c44b0 : (t495 == 0) = false := beq_eq_false_iff_ne.mpr c44
          have c44b1 : (t495 != 0) = true := bne_iff_ne.mpr c44
          exact absurd ((Option.some.inj H).trans hr) (by decide)
        ·rw [if_neg c43] at H
         have c43b0 : (t494 == t505) = false := beq_eq_false_iff_ne.mpr c43
         have c43b1 : (t494 != t505) = true := bne_iff_ne.mpr c43
         exact absurd ((Option.some.inj H).trans hr) (by decide)
       ·rw [if_neg c41] at H
        have c41b0 : (t493 == 0) = false := beq_eq_false_iff_ne.mpr c41
        have c41b1 : (t493 != 0) = true := bne_iff_ne.mpr c41
        exact absurd ((Option.some.inj H).trans hr) (by decide)
      ·rw [if_neg c40] at H
       have c40b0 : (t492 == t504) = false := by simpa using c40
       (try (have c40b1 : decide (t492 = t504) = false := by simpa using c40))
       (try (have c40b2 : (t492 == t504) = false := by simpa using c40))
       (try (have c40b3 : ¬ (t492 = t504) := by simpa using c40))
       clear c40
       exact absurd ((Option.some.inj H).trans hr) (by decide)
     ·rw [if_neg c39] at H
      have c39b0 : (t491 == t503) = false := beq_eq_false_iff_ne.mpr c39
      have c39b1 : (t491 != t503) = true := bne_iff_ne.mpr c39
      exact absurd ((Option.some.inj H).trans hr) (by decide)
    ·rw [if_neg c38] at H
     have c38b0 : (t490 == t502) = false := beq_eq_false_iff_ne.mpr c38
     have c38b1 : (t490 != t502) = true := bne_iff_ne.mpr c38
     exact absurd ((Option.some.inj H).trans hr) (by decide)
   ·rw [if_neg c36] at H
    have c36b0 : (x9_3 == 0) = false := beq_eq_false_iff_ne.mpr c36
    have c36b1 : (x9_3 != 0) = true := bne_iff_ne.mpr c36
    by_cases c67 : t490 = 0
    ·rw [if_pos c67] at H
     have c67b0 : (t490 == 0) = true := beq_iff_eq.mpr c67
     have c67b1 : (t490 != 0) = false := bne_eq_false_iff_eq.mpr c67
     clear c67
     by_cases c68 : t491 = 0
     ·rw [if_pos c68] at H
      have c68b0 : (t491 == 0) = true := beq_iff_eq.mpr c68
      have c68b1 : (t491 != 0) = false := bne_eq_false_iff_eq.mpr c68
      clear c68
      by_cases c69 : t492 = true
      ·subst c69
       have H1 : (some false) = some r := by rw [if_pos rfl] at H; exact H
       clear H
       have H := H1
       clear H1
       exact absurd ((Option.some.inj H).trans hr) (by decide)
      ·replace c69 := Bool.eq_false_iff.mpr c69
       subst c69
       have H1 : (if t493 = x9_3 then (if t494 = 0 then (if t495 = x9_3 then ((biremelaw14_alive.f kj3).bind fun t507 => (some t507)) else (some false)) else (some false)) else (some false)) = some r := by rw [if_neg (show ¬ (false = true) by decide)] at H; exact H
       clear H
       have H := H1
       clear H1
       by_cases c70 : t493 = x9_3
       ·rw [if_pos c70] at H
        have c70b0 : (t493 == x9_3) = true := beq_iff_eq.mpr c70
        have c70b1 : (t493 != x9_3) = false := bne_eq_false_iff_eq.mpr c70
        clear c70
        by_cases c71 : t494 = 0
        ·rw [if_pos c71] at H
         have c71b0 : (t494 == 0) = true := beq_iff_eq.mpr c71
         have c71b1 : (t494 != 0) = false := bne_eq_false_iff_eq.mpr c71
         clear c71
         by_cases c72 : t495 = x9_3
         ·rw [if_pos c72] at H
          have c72b0 : (t495 == x9_3) = true := beq_iff_eq.mpr c72
          have c72b1 : (t495 != x9_3) = false := bne_eq_false_iff_eq.mpr c72
          clear c72
          replace H := Option.bind_eq_some_iff.mp H
          obtain ⟨t507, A730, H⟩ := H
          replace H : (some t507) = some r := H
          have A73 := Aside0.mk A730
          clear A730
          obtain rfl := Option.some.inj H
          go_wp2_with (first | (go_at_call 16; (with_reducible refine (biremelaw14_alive.calls kj3  t507 _ A73.out).mono ?_); rintro e w74 ⟨rfl, hb⟩; have n0_ := Aside0.mk (blk_below (g := gb489) (o := .cells #[.int .i64 a0_0, .int .i64 a0_1, .int .i64 a0_2, .int .i64 a0_3, .int .i64 a0_4, .int .i64 a0_5] 35 (0, 0)) (by (with_reducible repeat (first | refine blk_drewN ?_ _ | refine blk_drew ?_ | refine blk_alloc ?_ _)); exact BK489.out) hb); have n1_ := Aside0.mk (below_step (by repeat (first | (with_reducible first | exact HB.out | apply below_alloc | apply pw_below_drewN | apply below_drew1 | refine below_set ?_ GE489.out) | exact HB.out)) hb); clear BK489; clear HB; have BK489 := n0_; have HB := n1_; clear n0_ n1_; (try clear hb); (try clear hb2); (try clear hk); (try clear hi)))
          go_ret
          exact ⟨by first | rfl | (simp [errW_none, errW_some] <;> rfl) | (simp [*, errW_none, errW_some] <;> rfl), by repeat (first | (with_reducible first | exact HB.out | apply below_alloc | apply pw_below_drewN | apply below_drew1 | refine below_set ?_ GE489.out) | exact HB.out)⟩
         ·rw [if_neg c72] at H
          have c72b0 : (t495 == x9_3) = false := beq_eq_false_iff_ne.mpr c72
          have c72b1 : (t495 != x9_3) = true := bne_iff_ne.mpr c72
          exact absurd ((Option.some.inj H).trans hr) (by decide)
        ·rw [if_neg c71] at H
         have c71b0 : (t494 == 0) = false := beq_eq_false_iff_ne.mpr c71
         have c71b1 : (t494 != 0) = true := bne_iff_ne.mpr c71
         exact absurd ((Option.some.inj H).trans hr) (by decide)
       ·rw [if_neg c70] at H
        have c70b0 : (t493 == x9_3) = false := beq_eq_false_iff_ne.mpr c70
        have c70b1 : (t493 != x9_3) = true := bne_iff_ne.mpr c70
        exact absurd ((Option.some.inj H).trans hr) (by decide)
     ·rw [if_neg c68] at H
      have c68b0 : (t491 == 0) = false := beq_eq_false_iff_ne.mpr c68
      have c68b1 : (t491 != 0) = true := bne_iff_ne.mpr c68
      exact absurd ((Option.some.inj H).trans hr) (by decide)
    ·rw [if_neg c67] at H
     have c67b0 : (t490 == 0) = false := beq_eq_false_iff_ne.mpr c67
     have c67b1 : (t490 != 0) = true := bne_iff_ne.mpr c67
     exact absurd ((Option.some.inj H).trans hr) (by decide)
end Go.Proofs.Ytiedehjmhlgicaa.PAll
