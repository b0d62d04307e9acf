/- The walk of the law AffineCounts: a call of it that its plain definition tells to answer true does so, and changes no block that was there before. -/
import Derived.Test.YtiedehjmhlgicaaN6
import Derived.Test.YtiedehjmhlgicaaN7
namespace Go.Proofs.Ytiedehjmhlgicaa.PAll
open Go.RowKit Go.Proofs.YtiedehjmhlgicaaW.PrintWords Go.Proofs.YtiedehjmhlgicaaW.PrintLast Go.Proofs.YtiedehjmhlgicaaW.PrintMore
attribute [local go_sem] max2_int min2_int max_two min_two max_three min_three max_four min_four   -- for this text's walks alone
attribute [local go_sem high] eqA23
set_option linter.unusedVariables false
set_option linter.unusedSimpArgs false

theorem Counts_j1_true {k : Nat} {x5 x6 : Int} {x7 : Bool} {x9 : Int} {x10 : Bool} {x12 : Int} {x13 : Bool} {x15 a b c d e f : Int} : ¬ biremelaw14_AffineCounts.j1 k x5 x6 x7 x9 x10 x12 x13 x15 true a b c d e f = some true := by
  cases k with
  | zero => simp [biremelaw14_AffineCounts.j1]
  | succ k => simp [biremelaw14_AffineCounts.j1]
def biremelaw14_AffineCounts.T10 : Bool × List (List Nat × List Nat) := (true, [([], []), ([0], [0]), ([1], [1]), ([2, 1], [1, 2]), ([1], [1]), ([3, 4, 1, 1], [1, 3, 4]), ([1], [1]), ([6, 1], [1, 6]), ([1], [1]), ([7, 8, 5, 1], [1, 7, 8]), ([5, 9, 1], [1, 5, 9]), ([10, 9, 1], [1, 10]), ([11], [11]), ([12, 11], [11, 12]), ([11, 13, 1], [1, 11, 13]), ([14, 11, 1], [1, 14]), ([15], [15]), ([15], [15]), ([17, 15], [15, 17]), ([16, 18, 15], [15, 16, 18]), ([15, 19, 1], [1, 15, 19]), ([20, 15, 1], [1, 20]), ([21], [21]), ([22, 21], [21, 22]), ([21, 23, 1], [1, 21, 23]), ([24, 21, 1], [1, 24]), ([25], [25]), ([25], [25]), ([27, 25], [25, 27]), ([26, 28, 25], [25, 26, 28]), ([25, 29, 1], [1, 25, 29]), ([1, 30], [1, 30])])
def biremelaw14_AffineCounts.B10 : List Nat := [0, 1, 3, 7, 3, 31, 3, 67, 3, 511, 1023, 2047, 4095, 8191, 16383, 32767, 65535, 65535, 196607, 524287, 1048575, 2097151, 4194303, 8388607, 16777215, 33554431, 67108863, 67108863, 201326591, 536870911, 1073741823, 2147483647]
theorem biremelaw14_AffineCounts.tab10 : rtab .any (opsOf Try.f13 10) = biremelaw14_AffineCounts.T10 := by kernel_rfl
theorem biremelaw14_AffineCounts.bits10 : waitsOk biremelaw14_AffineCounts.T10.2 biremelaw14_AffineCounts.B10 = true := by kernel_rfl
set_option maxHeartbeats 8000000 in
set_option maxRecDepth 100000 in
theorem biremelaw14_AffineCounts.calls (k : Nat) (a0_0 : Int) (a0_1 : Int) (a0_2 : Int) (a0_3 : Int) (a0_4 : Int) (a0_5 : Int) (r : Bool) (hr : r = true) (w : World) (h : biremelaw14_AffineCounts.f k a0_0 a0_1 a0_2 a0_3 a0_4 a0_5 = some r) :
    Calls Try.prog 13 #[.agg #[.int .i64 a0_0, .int .i64 a0_1, .int .i64 a0_2, .int .i64 a0_3, .int .i64 a0_4, .int .i64 a0_5]] w fun e w' => e = .returned (.bool r) ∧ Below w.heap.size w w' := by
  have hu35 := Try.underlying35
  have hu33 := Try.underlying33
  have HB := Aside0.mk (Below.refl w.heap.size w)
  have H : ((affine_Count.f k a0_0 a0_1 a0_2 a0_3 a0_4 a0_4).bind fun bt413 => ((affine_Meet.f k a0_0 a0_1 a0_2 a0_3 a0_4 a0_4).bind fun bt415 => (if bt413.2 = 0 then (biremelaw14_AffineCounts.j0 k bt413.1 bt413.2 bt415.1 bt415.2.1 bt415.2.2.1 bt415.2.2.2 (bt415.2.2.2 != 0) a0_0 a0_1 a0_2 a0_3 a0_4 a0_5) else (biremelaw14_AffineCounts.j0 k bt413.1 bt413.2 bt415.1 bt415.2.1 bt415.2.2.1 bt415.2.2.2 true a0_0 a0_1 a0_2 a0_3 a0_4 a0_5)))) = some r := h
  clear h
  replace H := Option.bind_eq_some_iff.mp H
  obtain ⟨⟨t413, t414⟩, A20, H⟩ := H
  replace H : ((affine_Meet.f k a0_0 a0_1 a0_2 a0_3 a0_4 a0_4).bind fun bt415 => (if t414 = 0 then (biremelaw14_AffineCounts.j0 k t413 t414 bt415.1 bt415.2.1 bt415.2.2.1 bt415.2.2.2 (bt415.2.2.2 != 0) a0_0 a0_1 a0_2 a0_3 a0_4 a0_5) else (biremelaw14_AffineCounts.j0 k t413 t414 bt415.1 bt415.2.1 bt415.2.2.1 bt415.2.2.2 true a0_0 a0_1 a0_2 a0_3 a0_4 a0_5))) = some r := H
  have A2 := Aside0.mk A20
  clear A20
  replace H := Option.bind_eq_some_iff.mp H
  obtain ⟨⟨t415, t416, t417, t418⟩, A30, H⟩ := H
  replace H : (if t414 = 0 then (biremelaw14_AffineCounts.j0 k t413 t414 t415 t416 t417 t418 (t418 != 0) a0_0 a0_1 a0_2 a0_3 a0_4 a0_5) else (biremelaw14_AffineCounts.j0 k t413 t414 t415 t416 t417 t418 true a0_0 a0_1 a0_2 a0_3 a0_4 a0_5)) = some r := H
  have A3 := Aside0.mk A30
  clear A30
  have HC4 := Aside0.mk H
  clear H
  go_enter Try.func13, Try.ntmps13
  go_upto_region 3 with (first | ((with_reducible refine gate_dst (N := 1) rfl ?_); refine box_event ?hg (N := 1) ?hd (cs := #[.int .i64 a0_0, .int .i64 a0_1, .int .i64 a0_2, .int .i64 a0_3, .int .i64 a0_4, .int .i64 a0_5]) (t := 35) ?hr ?_; (case hd => rfl); (case hg => rfl); (case hr => first | (go_simp; done) | (go_simp; rfl)); intro gb412 hg w5 hbox hb; have n0_ := Aside0.mk (below_step (by repeat (first | (with_reducible first | exact HB.out | apply below_alloc | apply pw_below_drewN | apply below_drew1) | exact HB.out)) hb); have n1_ := Aside0.mk (hbox); have n2_ := Aside0.mk ((by rw [hg]; exact (below_size (by repeat (first | (with_reducible first | exact HB.out | apply below_alloc | apply pw_below_drewN | apply below_drew1) | exact HB.out))) : w.heap.size ≤ gb412)); have n3_ := Aside0.mk ((by rw [hg]; exact (below_size (by repeat (first | (with_reducible first | exact HB.out | apply below_alloc | apply pw_below_drewN | apply below_drew1) | exact HB.out))) : w.heap.size ≤ gb412)); clear HB; have HB := n0_; have BK412 := n1_; have GW412 := n2_; have GE412 := n3_; clear n0_ n1_ n2_ n3_; clear hb hbox hg; have hcz6_0 : w5.cell? ⟨gb412, 0, none⟩ = some (.int .i64 a0_0) := (blk_cell BK412.out 0).trans rfl; have hcz6_1 : w5.cell? ⟨gb412, 1, none⟩ = some (.int .i64 a0_1) := (blk_cell BK412.out 1).trans rfl; have hcz6_2 : w5.cell? ⟨gb412, 2, none⟩ = some (.int .i64 a0_2) := (blk_cell BK412.out 2).trans rfl; have hcz6_3 : w5.cell? ⟨gb412, 3, none⟩ = some (.int .i64 a0_3) := (blk_cell BK412.out 3).trans rfl; have hcz6_4 : w5.cell? ⟨gb412, 4, none⟩ = some (.int .i64 a0_4) := (blk_cell BK412.out 4).trans rfl; have hcz6_5 : w5.cell? ⟨gb412, 5, none⟩ = some (.int .i64 a0_5) := (blk_cell BK412.out 5).trans rfl; have hfz6_0 := blk_frozen BK412.out 0; have hfz6_1 := blk_frozen BK412.out 1; have hfz6_2 := blk_frozen BK412.out 2; have hfz6_3 := blk_frozen BK412.out 3; have hfz6_4 := blk_frozen BK412.out 4; have hfz6_5 := blk_frozen BK412.out 5) | ((with_reducible refine gate_callee (f := 28) rfl ?_); refine goesL_ (some 27) rfl rfl Try.func28 (by kernel_rfl) rfl #[.agg #[.int .i64 a0_0, .int .i64 a0_1], .agg #[.int .i64 a0_2, .int .i64 a0_3], .int .i64 a0_4, .int .i64 a0_4] rfl (by (try simp only [List.map_toArray, List.map_cons, List.map_nil]); first | done | rfl | (simp only [List.length_drop, List.length_take]; rfl)) ?_; (with_reducible refine (affine_Count.calls k a0_0 a0_1 a0_2 a0_3 a0_4 a0_4 t413 t414 _ A2.out).mono ?_); rintro e w7 ⟨rfl, hb⟩; refine ⟨_, rfl, ?_⟩; have n0_ := Aside0.mk (blk_below (g := gb412) (o := .cells #[.int .i64 a0_0, .int .i64 a0_1, .int .i64 a0_2, .int .i64 a0_3, .int .i64 a0_4, .int .i64 a0_5] 35 (0, 0)) (by (with_reducible repeat (first | refine blk_drewN ?_ _ | refine blk_drew ?_ | refine blk_alloc ?_ _)); exact BK412.out) hb); have n1_ := Aside0.mk (below_step (by repeat (first | (with_reducible first | exact HB.out | apply below_alloc | apply pw_below_drewN | apply below_drew1 | refine below_set ?_ GE412.out) | exact HB.out)) hb); clear BK412; clear HB; have BK412 := n0_; have HB := n1_; clear n0_ n1_; (try clear hb); (try clear hb2); (try clear hk); (try clear hi); have hcz8_0 : w7.cell? ⟨gb412, 0, none⟩ = some (.int .i64 a0_0) := (blk_cell BK412.out 0).trans rfl; have hcz8_1 : w7.cell? ⟨gb412, 1, none⟩ = some (.int .i64 a0_1) := (blk_cell BK412.out 1).trans rfl; have hcz8_2 : w7.cell? ⟨gb412, 2, none⟩ = some (.int .i64 a0_2) := (blk_cell BK412.out 2).trans rfl; have hcz8_3 : w7.cell? ⟨gb412, 3, none⟩ = some (.int .i64 a0_3) := (blk_cell BK412.out 3).trans rfl; have hcz8_4 : w7.cell? ⟨gb412, 4, none⟩ = some (.int .i64 a0_4) := (blk_cell BK412.out 4).trans rfl; have hcz8_5 : w7.cell? ⟨gb412, 5, none⟩ = some (.int .i64 a0_5) := (blk_cell BK412.out 5).trans rfl; have hfz8_0 := blk_frozen BK412.out 0; have hfz8_1 := blk_frozen BK412.out 1; have hfz8_2 := blk_frozen BK412.out 2; have hfz8_3 := blk_frozen BK412.out 3; have hfz8_4 := blk_frozen BK412.out 4; have hfz8_5 := blk_frozen BK412.out 5) | ((with_reducible refine gate_callee (f := 27) rfl ?_); refine goesL_ (some 39) rfl rfl Try.func27 (by kernel_rfl) rfl #[.agg #[.int .i64 a0_0, .int .i64 a0_1], .agg #[.int .i64 a0_2, .int .i64 a0_3], .int .i64 a0_4, .int .i64 a0_4] rfl (by (try simp only [List.map_toArray, List.map_cons, List.map_nil]); first | done | rfl | (simp only [List.length_drop, List.length_take]; rfl)) ?_; (with_reducible refine (affine_Meet.calls k a0_0 a0_1 a0_2 a0_3 a0_4 a0_4 t415 t416 t417 t418 _ A3.out).mono ?_); rintro e w9 ⟨rfl, hb⟩; refine ⟨_, rfl, ?_⟩; have n0_ := Aside0.mk (blk_below (g := gb412) (o := .cells #[.int .i64 a0_0, .int .i64 a0_1, .int .i64 a0_2, .int .i64 a0_3, .int .i64 a0_4, .int .i64 a0_5] 35 (0, 0)) (by (with_reducible repeat (first | refine blk_drewN ?_ _ | refine blk_drew ?_ | refine blk_alloc ?_ _)); exact BK412.out) hb); have n1_ := Aside0.mk (below_step (by repeat (first | (with_reducible first | exact HB.out | apply below_alloc | apply pw_below_drewN | apply below_drew1 | refine below_set ?_ GE412.out) | exact HB.out)) hb); clear BK412; clear HB; have BK412 := n0_; have HB := n1_; clear n0_ n1_; (try clear hb); (try clear hb2); (try clear hk); (try clear hi)))
  (try simp only [Act.put, List.setIfInBounds_toArray, List.set_cons_zero, List.set_cons_succ])
  go_cut [49] (fun v49 wc => ∃ (kq : Nat) (x49_3 : Bool), v49 = .bool x49_3 ∧ Aside0 (biremelaw14_AffineCounts.j0 kq t413 t414 t415 t416 t417 t418 x49_3 a0_0 a0_1 a0_2 a0_3 a0_4 a0_5 = some r) ∧ Aside0 (kq ≤ k) ∧ Aside0 (wc.heap[gb412]? = some (.cells #[.int .i64 a0_0, .int .i64 a0_1, .int .i64 a0_2, .int .i64 a0_3, .int .i64 a0_4, .int .i64 a0_5] 35 (0, 0))) ∧ Aside0 (Below w.heap.size w wc))
  case first =>
    have H := HC4.out
    clear HC4
    by_cases c10 : t414 = 0
    · rw [if_pos c10] at H
      have c10b0 : (t414 == 0) = true := beq_iff_eq.mpr c10
      have c10b1 : (t414 != 0) = false := bne_eq_false_iff_eq.mpr c10
      clear c10
      (first | rw [c10b0] | (simp only [i64_w, i32_w]; rw [c10b0]) | skip)
      have H' := Aside0.mk H
      clear H
      go_wp2
      go_meet
      case rel => exact ⟨_, ((t418 != 0)), (by first | rfl | (simp; done) | (simp [*]; done)), H', ⟨by first | omega | exact Nat.le_refl _⟩, ⟨by (with_reducible repeat (first | refine blk_drewN ?_ _ | refine blk_drew ?_ | refine blk_alloc ?_ _)); exact BK412.out⟩, ⟨by repeat (first | (with_reducible first | exact HB.out | apply below_alloc | apply pw_below_drewN | apply below_drew1 | refine below_set ?_ GE412.out) | exact HB.out)⟩⟩
    · rw [if_neg c10] at H
      have c10b0 : (t414 == 0) = false := beq_eq_false_iff_ne.mpr c10
      have c10b1 : (t414 != 0) = true := bne_iff_ne.mpr c10
      (first | rw [c10b0] | (simp only [i64_w, i32_w]; rw [c10b0]) | skip)
      have H' := Aside0.mk H
      clear H
      go_wp2
      go_meet
      case rel => exact ⟨_, (true), (by first | rfl | (simp; done) | (simp [*]; done)), H', ⟨by first | omega | exact Nat.le_refl _⟩, ⟨by (with_reducible repeat (first | refine blk_drewN ?_ _ | refine blk_drew ?_ | refine blk_alloc ?_ _)); exact BK412.out⟩, ⟨by repeat (first | (with_reducible first | exact HB.out | apply below_alloc | apply pw_below_drewN | apply below_drew1 | refine below_set ?_ GE412.out) | exact HB.out)⟩⟩
  case rest =>
    clear HC4
    try clear c1
    try clear c2
    try clear p2
    try clear c10
    try clear c10b0
    try clear c10b1
    try clear hcz6_0
    try clear hcz6_1
    try clear hcz6_2
    try clear hcz6_3
    try clear hcz6_4
    try clear hcz6_5
    try clear hcz8_0
    try clear hcz8_1
    try clear hcz8_2
    try clear hcz8_3
    try clear hcz8_4
    try clear hcz8_5
    try clear hfz6_0
    try clear hfz6_1
    try clear hfz6_2
    try clear hfz6_3
    try clear hfz6_4
    try clear hfz6_5
    try clear hfz8_0
    try clear hfz8_1
    try clear hfz8_2
    try clear hfz8_3
    try clear hfz8_4
    try clear hfz8_5
    obtain ⟨kq, x49_3, rfl, HA, HJ3, BK412, HB⟩ := hcut
    cases kq with
    | zero => exact absurd HA.out (by simp [biremelaw14_AffineCounts.j0])
    | succ kj3 =>
      have H := HA.out
      clear HA
      simp only [biremelaw14_AffineCounts.j0] at H
      by_cases c11 : x49_3 = true
      · subst c11
        have H1 : (if t414 = t418 then ((biremelaw14_alive.f kj3).bind fun t419 => (some t419)) else (some false)) = some r := by rw [if_pos rfl] at H; exact H
        clear H
        have H := H1
        clear H1
        by_cases c12 : t414 = t418
        · rw [if_pos c12] at H
          have c12b0 : (t414 == t418) = true := beq_iff_eq.mpr c12
          have c12b1 : (t414 != t418) = false := bne_eq_false_iff_eq.mpr c12
          clear c12
          replace H := Option.bind_eq_some_iff.mp H
          obtain ⟨t419, A130, H⟩ := H
          replace H : (some t419) = some r := H
          have A13 := Aside0.mk A130
          clear A130
          obtain rfl := Option.some.inj H
          go_wp2_with (first | (go_at_call 16; (with_reducible refine (biremelaw14_alive.calls kj3  t419 _ A13.out).mono ?_); rintro e w14 ⟨rfl, hb⟩; have n0_ := Aside0.mk (blk_below (g := gb412) (o := .cells #[.int .i64 a0_0, .int .i64 a0_1, .int .i64 a0_2, .int .i64 a0_3, .int .i64 a0_4, .int .i64 a0_5] 35 (0, 0)) (by (with_reducible repeat (first | refine blk_drewN ?_ _ | refine blk_drew ?_ | refine blk_alloc ?_ _)); exact BK412.out) hb); have n1_ := Aside0.mk (below_step (by repeat (first | (with_reducible first | exact HB.out | apply below_alloc | apply pw_below_drewN | apply below_drew1 | refine below_set ?_ GE412.out) | exact HB.out)) hb); clear BK412; clear HB; have BK412 := n0_; have HB := n1_; clear n0_ n1_; (try clear hb); (try clear hb2); (try clear hk); (try clear hi)))
          go_ret
          exact ⟨by first | rfl | (simp [errW_none, errW_some] <;> rfl) | (simp [*, errW_none, errW_some] <;> rfl), by repeat (first | (with_reducible first | exact HB.out | apply below_alloc | apply pw_below_drewN | apply below_drew1 | refine below_set ?_ GE412.out) | exact HB.out)⟩
        · rw [if_neg c12] at H
          have c12b0 : (t414 == t418) = false := beq_eq_false_iff_ne.mpr c12
          have c12b1 : (t414 != t418) = true := bne_iff_ne.mpr c12
          exact absurd ((Option.some.inj H).trans hr) (by decide)
      · replace c11 := Bool.eq_false_iff.mpr c11
        subst c11
        have H1 : ((affine_Ahead.f kj3 a0_0 a0_1 a0_2 a0_3 a0_4 0).bind fun bt420 => ((affine_Ahead.f kj3 a0_2 a0_3 a0_0 a0_1 a0_4 0).bind fun bt423 => ((affine_Behind.f kj3 a0_0 a0_1 a0_2 a0_3 a0_4).bind fun bt426 => (if bt420.2.2 = 0 then (if bt423.2.2 = 0 then (if bt426.2.2 = 0 then (if ((t413 != 0) != t417) = true then (biremelaw14_AffineCounts.j1 kj3 t415 t416 t417 bt420.1 bt420.2.1 bt423.1 bt423.2.1 bt426.1 true a0_0 a0_1 a0_2 a0_3 a0_4 a0_5) else (if bt420.2.1 = true then (if (t417 != true) = true then (biremelaw14_AffineCounts.j1 kj3 t415 t416 t417 bt420.1 bt420.2.1 bt423.1 bt423.2.1 bt426.1 true a0_0 a0_1 a0_2 a0_3 a0_4 a0_5) else (if (bt426.2.1 != t417) = true then (biremelaw14_AffineCounts.j1 kj3 t415 t416 t417 bt420.1 bt420.2.1 bt423.1 bt423.2.1 bt426.1 true a0_0 a0_1 a0_2 a0_3 a0_4 a0_5) else (biremelaw14_AffineCounts.j1 kj3 t415 t416 t417 bt420.1 bt420.2.1 bt423.1 bt423.2.1 bt426.1 (decide (t413 < 0)) a0_0 a0_1 a0_2 a0_3 a0_4 a0_5))) else (if (t417 != bt423.2.1) = true then (biremelaw14_AffineCounts.j1 kj3 t415 t416 t417 bt420.1 bt420.2.1 bt423.1 bt423.2.1 bt426.1 true a0_0 a0_1 a0_2 a0_3 a0_4 a0_5) else (if (bt426.2.1 != t417) = true then (biremelaw14_AffineCounts.j1 kj3 t415 t416 t417 bt420.1 bt420.2.1 bt423.1 bt423.2.1 bt426.1 true a0_0 a0_1 a0_2 a0_3 a0_4 a0_5) else (biremelaw14_AffineCounts.j1 kj3 t415 t416 t417 bt420.1 bt420.2.1 bt423.1 bt423.2.1 bt426.1 (decide (t413 < 0)) a0_0 a0_1 a0_2 a0_3 a0_4 a0_5))))) else (biremelaw14_AffineCounts.j1 kj3 t415 t416 t417 bt420.1 bt420.2.1 bt423.1 bt423.2.1 bt426.1 true a0_0 a0_1 a0_2 a0_3 a0_4 a0_5)) else (biremelaw14_AffineCounts.j1 kj3 t415 t416 t417 bt420.1 bt420.2.1 bt423.1 bt423.2.1 bt426.1 true a0_0 a0_1 a0_2 a0_3 a0_4 a0_5)) else (biremelaw14_AffineCounts.j1 kj3 t415 t416 t417 bt420.1 bt420.2.1 bt423.1 bt423.2.1 bt426.1 true a0_0 a0_1 a0_2 a0_3 a0_4 a0_5))))) = some r := by rw [if_neg (show ¬ (false = true) by decide)] at H; exact H
        clear H
        have H := H1
        clear H1
        replace H := Option.bind_eq_some_iff.mp H
        obtain ⟨⟨t420, t421, t422⟩, A150, H⟩ := H
        replace H : ((affine_Ahead.f kj3 a0_2 a0_3 a0_0 a0_1 a0_4 0).bind fun bt423 => ((affine_Behind.f kj3 a0_0 a0_1 a0_2 a0_3 a0_4).bind fun bt426 => (if t422 = 0 then (if bt423.2.2 = 0 then (if bt426.2.2 = 0 then (if ((t413 != 0) != t417) = true then (biremelaw14_AffineCounts.j1 kj3 t415 t416 t417 t420 t421 bt423.1 bt423.2.1 bt426.1 true a0_0 a0_1 a0_2 a0_3 a0_4 a0_5) else (if t421 = true then (if (t417 != true) = true then (biremelaw14_AffineCounts.j1 kj3 t415 t416 t417 t420 t421 bt423.1 bt423.2.1 bt426.1 true a0_0 a0_1 a0_2 a0_3 a0_4 a0_5) else (if (bt426.2.1 != t417) = true then (biremelaw14_AffineCounts.j1 kj3 t415 t416 t417 t420 t421 bt423.1 bt423.2.1 bt426.1 true a0_0 a0_1 a0_2 a0_3 a0_4 a0_5) else (biremelaw14_AffineCounts.j1 kj3 t415 t416 t417 t420 t421 bt423.1 bt423.2.1 bt426.1 (decide (t413 < 0)) a0_0 a0_1 a0_2 a0_3 a0_4 a0_5))) else (if (t417 != bt423.2.1) = true then (biremelaw14_AffineCounts.j1 kj3 t415 t416 t417 t420 t421 bt423.1 bt423.2.1 bt426.1 true a0_0 a0_1 a0_2 a0_3 a0_4 a0_5) else (if (bt426.2.1 != t417) = true then (biremelaw14_AffineCounts.j1 kj3 t415 t416 t417 t420 t421 bt423.1 bt423.2.1 bt426.1 true a0_0 a0_1 a0_2 a0_3 a0_4 a0_5) else (biremelaw14_AffineCounts.j1 kj3 t415 t416 t417 t420 t421 bt423.1 bt423.2.1 bt426.1 (decide (t413 < 0)) a0_0 a0_1 a0_2 a0_3 a0_4 a0_5))))) else (biremelaw14_AffineCounts.j1 kj3 t415 t416 t417 t420 t421 bt423.1 bt423.2.1 bt426.1 true a0_0 a0_1 a0_2 a0_3 a0_4 a0_5)) else (biremelaw14_AffineCounts.j1 kj3 t415 t416 t417 t420 t421 bt423.1 bt423.2.1 bt426.1 true a0_0 a0_1 a0_2 a0_3 a0_4 a0_5)) else (biremelaw14_AffineCounts.j1 kj3 t415 t416 t417 t420 t421 bt423.1 bt423.2.1 bt426.1 true a0_0 a0_1 a0_2 a0_3 a0_4 a0_5)))) = some r := H
        have A15 := Aside0.mk A150
        clear A150
        replace H := Option.bind_eq_some_iff.mp H
        obtain ⟨⟨t423, t424, t425⟩, A160, H⟩ := H
        replace H : ((affine_Behind.f kj3 a0_0 a0_1 a0_2 a0_3 a0_4).bind fun bt426 => (if t422 = 0 then (if t425 = 0 then (if bt426.2.2 = 0 then (if ((t413 != 0) != t417) = true then (biremelaw14_AffineCounts.j1 kj3 t415 t416 t417 t420 t421 t423 t424 bt426.1 true a0_0 a0_1 a0_2 a0_3 a0_4 a0_5) else (if t421 = true then (if (t417 != true) = true then (biremelaw14_AffineCounts.j1 kj3 t415 t416 t417 t420 t421 t423 t424 bt426.1 true a0_0 a0_1 a0_2 a0_3 a0_4 a0_5) else (if (bt426.2.1 != t417) = true then (biremelaw14_AffineCounts.j1 kj3 t415 t416 t417 t420 t421 t423 t424 bt426.1 true a0_0 a0_1 a0_2 a0_3 a0_4 a0_5) else (biremelaw14_AffineCounts.j1 kj3 t415 t416 t417 t420 t421 t423 t424 bt426.1 (decide (t413 < 0)) a0_0 a0_1 a0_2 a0_3 a0_4 a0_5))) else (if (t417 != t424) = true then (biremelaw14_AffineCounts.j1 kj3 t415 t416 t417 t420 t421 t423 t424 bt426.1 true a0_0 a0_1 a0_2 a0_3 a0_4 a0_5) else (if (bt426.2.1 != t417) = true then (biremelaw14_AffineCounts.j1 kj3 t415 t416 t417 t420 t421 t423 t424 bt426.1 true a0_0 a0_1 a0_2 a0_3 a0_4 a0_5) else (biremelaw14_AffineCounts.j1 kj3 t415 t416 t417 t420 t421 t423 t424 bt426.1 (decide (t413 < 0)) a0_0 a0_1 a0_2 a0_3 a0_4 a0_5))))) else (biremelaw14_AffineCounts.j1 kj3 t415 t416 t417 t420 t421 t423 t424 bt426.1 true a0_0 a0_1 a0_2 a0_3 a0_4 a0_5)) else (biremelaw14_AffineCounts.j1 kj3 t415 t416 t417 t420 t421 t423 t424 bt426.1 true a0_0 a0_1 a0_2 a0_3 a0_4 a0_5)) else (biremelaw14_AffineCounts.j1 kj3 t415 t416 t417 t420 t421 t423 t424 bt426.1 true a0_0 a0_1 a0_2 a0_3 a0_4 a0_5))) = some r := H
        have A16 := Aside0.mk A160
        clear A160
        replace H := Option.bind_eq_some_iff.mp H
        obtain ⟨⟨t426, t427, t428⟩, A170, H⟩ := H
        replace H : (if t422 = 0 then (if t425 = 0 then (if t428 = 0 then (if ((t413 != 0) != t417) = true then (biremelaw14_AffineCounts.j1 kj3 t415 t416 t417 t420 t421 t423 t424 t426 true a0_0 a0_1 a0_2 a0_3 a0_4 a0_5) else (if t421 = true then (if (t417 != true) = true then (biremelaw14_AffineCounts.j1 kj3 t415 t416 t417 t420 t421 t423 t424 t426 true a0_0 a0_1 a0_2 a0_3 a0_4 a0_5) else (if (t427 != t417) = true then (biremelaw14_AffineCounts.j1 kj3 t415 t416 t417 t420 t421 t423 t424 t426 true a0_0 a0_1 a0_2 a0_3 a0_4 a0_5) else (biremelaw14_AffineCounts.j1 kj3 t415 t416 t417 t420 t421 t423 t424 t426 (decide (t413 < 0)) a0_0 a0_1 a0_2 a0_3 a0_4 a0_5))) else (if (t417 != t424) = true then (biremelaw14_AffineCounts.j1 kj3 t415 t416 t417 t420 t421 t423 t424 t426 true a0_0 a0_1 a0_2 a0_3 a0_4 a0_5) else (if (t427 != t417) = true then (biremelaw14_AffineCounts.j1 kj3 t415 t416 t417 t420 t421 t423 t424 t426 true a0_0 a0_1 a0_2 a0_3 a0_4 a0_5) else (biremelaw14_AffineCounts.j1 kj3 t415 t416 t417 t420 t421 t423 t424 t426 (decide (t413 < 0)) a0_0 a0_1 a0_2 a0_3 a0_4 a0_5))))) else (biremelaw14_AffineCounts.j1 kj3 t415 t416 t417 t420 t421 t423 t424 t426 true a0_0 a0_1 a0_2 a0_3 a0_4 a0_5)) else (biremelaw14_AffineCounts.j1 kj3 t415 t416 t417 t420 t421 t423 t424 t426 true a0_0 a0_1 a0_2 a0_3 a0_4 a0_5)) else (biremelaw14_AffineCounts.j1 kj3 t415 t416 t417 t420 t421 t423 t424 t426 true a0_0 a0_1 a0_2 a0_3 a0_4 a0_5)) = some r := H
        have A17 := Aside0.mk A170
        clear A170
        have HC18 := Aside0.mk H
        clear H
        have hcz19_0 : wc.cell? ⟨gb412, 0, none⟩ = some (.int .i64 a0_0) := (blk_cell BK412.out 0).trans rfl
        have hcz19_1 : wc.cell? ⟨gb412, 1, none⟩ = some (.int .i64 a0_1) := (blk_cell BK412.out 1).trans rfl
        have hcz19_2 : wc.cell? ⟨gb412, 2, none⟩ = some (.int .i64 a0_2) := (blk_cell BK412.out 2).trans rfl
        have hcz19_3 : wc.cell? ⟨gb412, 3, none⟩ = some (.int .i64 a0_3) := (blk_cell BK412.out 3).trans rfl
        have hcz19_4 : wc.cell? ⟨gb412, 4, none⟩ = some (.int .i64 a0_4) := (blk_cell BK412.out 4).trans rfl
        have hcz19_5 : wc.cell? ⟨gb412, 5, none⟩ = some (.int .i64 a0_5) := (blk_cell BK412.out 5).trans rfl
        have hfz19_0 := blk_frozen BK412.out 0
        have hfz19_1 := blk_frozen BK412.out 1
        have hfz19_2 := blk_frozen BK412.out 2
        have hfz19_3 := blk_frozen BK412.out 3
        have hfz19_4 := blk_frozen BK412.out 4
        have hfz19_5 := blk_frozen BK412.out 5
        go_upto_region 8 with (first | ((with_reducible refine gate_callee (f := 18) rfl ?_); refine goesL_ (some 63) rfl rfl Try.func18 (by kernel_rfl) rfl #[.agg #[.int .i64 a0_0, .int .i64 a0_1], .agg #[.int .i64 a0_2, .int .i64 a0_3], .int .i64 a0_4, .int .i64 0] rfl (by (try simp only [List.map_toArray, List.map_cons, List.map_nil]); first | done | rfl | (simp only [List.length_drop, List.length_take]; rfl)) ?_; (with_reducible refine (affine_Ahead.calls kj3 a0_0 a0_1 a0_2 a0_3 a0_4 0 t420 t421 t422 _ A15.out).mono ?_); rintro e w20 ⟨rfl, hb⟩; refine ⟨_, rfl, ?_⟩; have n0_ := Aside0.mk (blk_below (g := gb412) (o := .cells #[.int .i64 a0_0, .int .i64 a0_1, .int .i64 a0_2, .int .i64 a0_3, .int .i64 a0_4, .int .i64 a0_5] 35 (0, 0)) (by (with_reducible repeat (first | refine blk_drewN ?_ _ | refine blk_drew ?_ | refine blk_alloc ?_ _)); exact BK412.out) hb); have n1_ := Aside0.mk (below_step (by repeat (first | (with_reducible first | exact HB.out | apply below_alloc | apply pw_below_drewN | apply below_drew1 | refine below_set ?_ GE412.out) | exact HB.out)) hb); clear BK412; clear HB; have BK412 := n0_; have HB := n1_; clear n0_ n1_; (try clear hb); (try clear hb2); (try clear hk); (try clear hi); have hcz21_0 : w20.cell? ⟨gb412, 0, none⟩ = some (.int .i64 a0_0) := (blk_cell BK412.out 0).trans rfl; have hcz21_1 : w20.cell? ⟨gb412, 1, none⟩ = some (.int .i64 a0_1) := (blk_cell BK412.out 1).trans rfl; have hcz21_2 : w20.cell? ⟨gb412, 2, none⟩ = some (.int .i64 a0_2) := (blk_cell BK412.out 2).trans rfl; have hcz21_3 : w20.cell? ⟨gb412, 3, none⟩ = some (.int .i64 a0_3) := (blk_cell BK412.out 3).trans rfl; have hcz21_4 : w20.cell? ⟨gb412, 4, none⟩ = some (.int .i64 a0_4) := (blk_cell BK412.out 4).trans rfl; have hcz21_5 : w20.cell? ⟨gb412, 5, none⟩ = some (.int .i64 a0_5) := (blk_cell BK412.out 5).trans rfl; have hfz21_0 := blk_frozen BK412.out 0; have hfz21_1 := blk_frozen BK412.out 1; have hfz21_2 := blk_frozen BK412.out 2; have hfz21_3 := blk_frozen BK412.out 3; have hfz21_4 := blk_frozen BK412.out 4; have hfz21_5 := blk_frozen BK412.out 5) | ((with_reducible refine gate_callee (f := 18) rfl ?_); refine goesL_ (some 74) rfl rfl Try.func18 (by kernel_rfl) rfl #[.agg #[.int .i64 a0_2, .int .i64 a0_3], .agg #[.int .i64 a0_0, .int .i64 a0_1], .int .i64 a0_4, .int .i64 0] rfl (by (try simp only [List.map_toArray, List.map_cons, List.map_nil]); first | done | rfl | (simp only [List.length_drop, List.length_take]; rfl)) ?_; (with_reducible refine (affine_Ahead.calls kj3 a0_2 a0_3 a0_0 a0_1 a0_4 0 t423 t424 t425 _ A16.out).mono ?_); rintro e w22 ⟨rfl, hb⟩; refine ⟨_, rfl, ?_⟩; have n0_ := Aside0.mk (blk_below (g := gb412) (o := .cells #[.int .i64 a0_0, .int .i64 a0_1, .int .i64 a0_2, .int .i64 a0_3, .int .i64 a0_4, .int .i64 a0_5] 35 (0, 0)) (by (with_reducible repeat (first | refine blk_drewN ?_ _ | refine blk_drew ?_ | refine blk_alloc ?_ _)); exact BK412.out) hb); have n1_ := Aside0.mk (below_step (by repeat (first | (with_reducible first | exact HB.out | apply below_alloc | apply pw_below_drewN | apply below_drew1 | refine below_set ?_ GE412.out) | exact HB.out)) hb); clear BK412; clear HB; have BK412 := n0_; have HB := n1_; clear n0_ n1_; (try clear hb); (try clear hb2); (try clear hk); (try clear hi); have hcz23_0 : w22.cell? ⟨gb412, 0, none⟩ = some (.int .i64 a0_0) := (blk_cell BK412.out 0).trans rfl; have hcz23_1 : w22.cell? ⟨gb412, 1, none⟩ = some (.int .i64 a0_1) := (blk_cell BK412.out 1).trans rfl; have hcz23_2 : w22.cell? ⟨gb412, 2, none⟩ = some (.int .i64 a0_2) := (blk_cell BK412.out 2).trans rfl; have hcz23_3 : w22.cell? ⟨gb412, 3, none⟩ = some (.int .i64 a0_3) := (blk_cell BK412.out 3).trans rfl; have hcz23_4 : w22.cell? ⟨gb412, 4, none⟩ = some (.int .i64 a0_4) := (blk_cell BK412.out 4).trans rfl; have hcz23_5 : w22.cell? ⟨gb412, 5, none⟩ = some (.int .i64 a0_5) := (blk_cell BK412.out 5).trans rfl; have hfz23_0 := blk_frozen BK412.out 0; have hfz23_1 := blk_frozen BK412.out 1; have hfz23_2 := blk_frozen BK412.out 2; have hfz23_3 := blk_frozen BK412.out 3; have hfz23_4 := blk_frozen BK412.out 4; have hfz23_5 := blk_frozen BK412.out 5) | ((with_reducible refine gate_callee (f := 19) rfl ?_); refine goesL_ (some 85) rfl rfl Try.func19 (by kernel_rfl) rfl #[.agg #[.int .i64 a0_0, .int .i64 a0_1], .agg #[.int .i64 a0_2, .int .i64 a0_3], .int .i64 a0_4] rfl (by (try simp only [List.map_toArray, List.map_cons, List.map_nil]); first | done | rfl | (simp only [List.length_drop, List.length_take]; rfl)) ?_; (with_reducible refine (affine_Behind.calls kj3 a0_0 a0_1 a0_2 a0_3 a0_4 t426 t427 t428 _ A17.out).mono ?_); rintro e w24 ⟨rfl, hb⟩; refine ⟨_, rfl, ?_⟩; have n0_ := Aside0.mk (blk_below (g := gb412) (o := .cells #[.int .i64 a0_0, .int .i64 a0_1, .int .i64 a0_2, .int .i64 a0_3, .int .i64 a0_4, .int .i64 a0_5] 35 (0, 0)) (by (with_reducible repeat (first | refine blk_drewN ?_ _ | refine blk_drew ?_ | refine blk_alloc ?_ _)); exact BK412.out) hb); have n1_ := Aside0.mk (below_step (by repeat (first | (with_reducible first | exact HB.out | apply below_alloc | apply pw_below_drewN | apply below_drew1 | refine below_set ?_ GE412.out) | exact HB.out)) hb); clear BK412; clear HB; have BK412 := n0_; have HB := n1_; clear n0_ n1_; (try clear hb); (try clear hb2); (try clear hk); (try clear hi)))
        (try simp only [Act.put, List.setIfInBounds_toArray, List.set_cons_zero, List.set_cons_succ])
        go_cut [121] (fun v121 wc => ∃ (kq : Nat) (x121_17 : Bool), v121 = .bool x121_17 ∧ Aside0 (biremelaw14_AffineCounts.j1 kq t415 t416 t417 t420 t421 t423 t424 t426 x121_17 a0_0 a0_1 a0_2 a0_3 a0_4 a0_5 = some r) ∧ Aside0 (kq ≤ kj3) ∧ Aside0 (wc.heap[gb412]? = some (.cells #[.int .i64 a0_0, .int .i64 a0_1, .int .i64 a0_2, .int .i64 a0_3, .int .i64 a0_4, .int .i64 a0_5] 35 (0, 0))) ∧ Aside0 (Below w.heap.size w wc))
        case first =>
          have H := HC18.out
          clear HC18
          by_cases c25 : t422 = 0
          · rw [if_pos c25] at H
            have c25b0 : (t422 == 0) = true := beq_iff_eq.mpr c25
            have c25b1 : (t422 != 0) = false := bne_eq_false_iff_eq.mpr c25
            clear c25
            (first | rw [c25b0] | (simp only [i64_w, i32_w]; rw [c25b0]) | skip)
            by_cases c26 : t425 = 0
            · rw [if_pos c26] at H
              have c26b0 : (t425 == 0) = true := beq_iff_eq.mpr c26
              have c26b1 : (t425 != 0) = false := bne_eq_false_iff_eq.mpr c26
              clear c26
              by_cases c27 : t428 = 0
              · rw [if_pos c27] at H
                have c27b0 : (t428 == 0) = true := beq_iff_eq.mpr c27
                have c27b1 : (t428 != 0) = false := bne_eq_false_iff_eq.mpr c27
                clear c27
                by_cases c28 : ((t413 != 0) != t417) = true
                · rw [if_pos c28] at H
                  have c28b0 : ((t413 != 0) != t417) = true := c28
                  (try (have c28b1 : decide ((t413 != 0) = t417) = false := by simpa using c28))
                  (try (have c28b2 : ((t413 != 0) == t417) = false := by simpa using c28))
                  (try (have c28b3 : ¬ ((t413 != 0) = t417) := by simpa using c28))
                  clear c28
                  exact absurd (H.trans (congrArg some hr)) Counts_j1_true
                · rw [if_neg c28] at H
                  have c28b0 : ((t413 != 0) != t417) = false := by simpa using c28
                  (try (have c28b1 : decide ((t413 != 0) = t417) = true := by simpa using c28))
                  (try (have c28b2 : ((t413 != 0) == t417) = true := by simpa using c28))
                  clear c28
                  by_cases c29 : t421 = true
                  · subst c29
                    have H1 : (if (t417 != true) = true then (biremelaw14_AffineCounts.j1 kj3 t415 t416 t417 t420 true t423 t424 t426 true a0_0 a0_1 a0_2 a0_3 a0_4 a0_5) else (if (t427 != t417) = true then (biremelaw14_AffineCounts.j1 kj3 t415 t416 t417 t420 true t423 t424 t426 true a0_0 a0_1 a0_2 a0_3 a0_4 a0_5) else (biremelaw14_AffineCounts.j1 kj3 t415 t416 t417 t420 true t423 t424 t426 (decide (t413 < 0)) a0_0 a0_1 a0_2 a0_3 a0_4 a0_5))) = some r := by rw [if_pos rfl] at H; exact H
                    clear H
                    have H := H1
                    clear H1
                    by_cases c30 : (t417 != true) = true
                    · rw [if_pos c30] at H
                      have c30b0 : (t417 != true) = true := c30
                      (try (have c30b1 : decide (t417 = true) = false := by simpa using c30))
                      (try (have c30b2 : (t417 == true) = false := by simpa using c30))
                      (try (have c30b3 : ¬ (t417 = true) := by simpa using c30))
                      clear c30
                      exact absurd (H.trans (congrArg some hr)) Counts_j1_true
                    · rw [if_neg c30] at H
                      have c30b0 : (t417 != true) = false := by simpa using c30
                      (try (have c30b1 : decide (t417 = true) = true := by simpa using c30))
                      (try (have c30b2 : (t417 == true) = true := by simpa using c30))
                      clear c30
                      by_cases c31 : (t427 != t417) = true
                      · rw [if_pos c31] at H
                        have c31b0 : (t427 != t417) = true := c31
                        (try (have c31b1 : decide (t427 = t417) = false := by simpa using c31))
                        (try (have c31b2 : (t427 == t417) = false := by simpa using c31))
                        (try (have c31b3 : ¬ (t427 = t417) := by simpa using c31))
                        clear c31
                        exact absurd (H.trans (congrArg some hr)) Counts_j1_true
                      · rw [if_neg c31] at H
                        have c31b0 : (t427 != t417) = false := by simpa using c31
                        (try (have c31b1 : decide (t427 = t417) = true := by simpa using c31))
                        (try (have c31b2 : (t427 == t417) = true := by simpa using c31))
                        clear c31
                        have H' := Aside0.mk H
                        clear H
                        go_wp2
                        go_meet
                        case rel => exact ⟨_, (decide (t413 < 0)), (by first | rfl | (simp; done) | (simp [*]; done)), H', ⟨by have := HJ3.out; first | omega | exact Nat.le_refl _⟩, ⟨by (with_reducible repeat (first | refine blk_drewN ?_ _ | refine blk_drew ?_ | refine blk_alloc ?_ _)); exact BK412.out⟩, ⟨by repeat (first | (with_reducible first | exact HB.out | apply below_alloc | apply pw_below_drewN | apply below_drew1 | refine below_set ?_ GE412.out) | exact HB.out)⟩⟩
                  · replace c29 := Bool.eq_false_iff.mpr c29
                    subst c29
                    have H1 : (if (t417 != t424) = true then (biremelaw14_AffineCounts.j1 kj3 t415 t416 t417 t420 false t423 t424 t426 true a0_0 a0_1 a0_2 a0_3 a0_4 a0_5) else (if (t427 != t417) = true then (biremelaw14_AffineCounts.j1 kj3 t415 t416 t417 t420 false t423 t424 t426 true a0_0 a0_1 a0_2 a0_3 a0_4 a0_5) else (biremelaw14_AffineCounts.j1 kj3 t415 t416 t417 t420 false t423 t424 t426 (decide (t413 < 0)) a0_0 a0_1 a0_2 a0_3 a0_4 a0_5))) = some r := by rw [if_neg (show ¬ (false = true) by decide)] at H; exact H
                    clear H
                    have H := H1
                    clear H1
                    by_cases c32 : (t417 != t424) = true
                    · rw [if_pos c32] at H
                      have c32b0 : (t417 != t424) = true := c32
                      (try (have c32b1 : decide (t417 = t424) = false := by simpa using c32))
                      (try (have c32b2 : (t417 == t424) = false := by simpa using c32))
                      (try (have c32b3 : ¬ (t417 = t424) := by simpa using c32))
                      clear c32
                      exact absurd (H.trans (congrArg some hr)) Counts_j1_true
                    · rw [if_neg c32] at H
                      have c32b0 : (t417 != t424) = false := by simpa using c32
                      (try (have c32b1 : decide (t417 = t424) = true := by simpa using c32))
                      (try (have c32b2 : (t417 == t424) = true := by simpa using c32))
                      clear c32
                      by_cases c33 : (t427 != t417) = true
                      · rw [if_pos c33] at H
                        have c33b0 : (t427 != t417) = true := c33
                        (try (have c33b1 : decide (t427 = t417) = false := by simpa using c33))
                        (try (have c33b2 : (t427 == t417) = false := by simpa using c33))
                        (try (have c33b3 : ¬ (t427 = t417) := by simpa using c33))
                        clear c33
                        exact absurd (H.trans (congrArg some hr)) Counts_j1_true
                      · rw [if_neg c33] at H
                        have c33b0 : (t427 != t417) = false := by simpa using c33
                        (try (have c33b1 : decide (t427 = t417) = true := by simpa using c33))
                        (try (have c33b2 : (t427 == t417) = true := by simpa using c33))
                        clear c33
                        have H' := Aside0.mk H
                        clear H
                        go_wp2
                        go_meet
                        case rel => exact ⟨_, (decide (t413 < 0)), (by first | rfl | (simp; done) | (simp [*]; done)), H', ⟨by have := HJ3.out; first | omega | exact Nat.le_refl _⟩, ⟨by (with_reducible repeat (first | refine blk_drewN ?_ _ | refine blk_drew ?_ | refine blk_alloc ?_ _)); exact BK412.out⟩, ⟨by repeat (first | (with_reducible first | exact HB.out | apply below_alloc | apply pw_below_drewN | apply below_drew1 | refine below_set ?_ GE412.out) | exact HB.out)⟩⟩
              · rw [if_neg c27] at H
                have c27b0 : (t428 == 0) = false := beq_eq_false_iff_ne.mpr c27
                have c27b1 : (t428 != 0) = true := bne_iff_ne.mpr c27
                exact absurd (H.trans (congrArg some hr)) Counts_j1_true
            · rw [if_neg c26] at H
              have c26b0 : (t425 == 0) = false := beq_eq_false_iff_ne.mpr c26
              have c26b1 : (t425 != 0) = true := bne_iff_ne.mpr c26
              exact absurd (H.trans (congrArg some hr)) Counts_j1_true
          · rw [if_neg c25] at H
            have c25b0 : (t422 == 0) = false := beq_eq_false_iff_ne.mpr c25
            have c25b1 : (t422 != 0) = true := bne_iff_ne.mpr c25
            (first | rw [c25b0] | (simp only [i64_w, i32_w]; rw [c25b0]) | skip)
            exact absurd (H.trans (congrArg some hr)) Counts_j1_true
        case rest =>
          clear HC18
          try clear c1
          try clear c2
          try clear p2
          try clear c3
          try clear c10
          try clear c10b0
          try clear c10b1
          try clear c11
          try clear c12
          try clear c12b0
          try clear c12b1
          try clear c13
          try clear c18
          try clear c19
          try clear c25
          try clear c25b0
          try clear c25b1
          try clear c26
          try clear c26b0
          try clear c26b1
          try clear c27
          try clear c27b0
          try clear c27b1
          try clear c28
          try clear c28b0
          try clear c28b1
          try clear c28b2
          try clear c29
          try clear c30
          try clear c30b0
          try clear c30b1
          try clear c30b2
          try clear c31
          try clear c31b0
          try clear c31b1
          try clear c31b2
          try clear c32
          try clear c32b0
          try clear c32b1
          try clear c32b2
          try clear c33
          try clear c33b0
          try clear c33b1
          try clear c33b2
          try clear hcz19_0
          try clear hcz19_1
          try clear hcz19_2
          try clear hcz19_3
          try clear hcz19_4
          try clear hcz19_5
          try clear hcz21_0
          try clear hcz21_1
          try clear hcz21_2
          try clear hcz21_3
          try clear hcz21_4
          try clear hcz21_5
          try clear hcz23_0
          try clear hcz23_1
          try clear hcz23_2
          try clear hcz23_3
          try clear hcz23_4
          try clear hcz23_5
          try clear hcz6_0
          try clear hcz6_1
          try clear hcz6_2
          try clear hcz6_3
          try clear hcz6_4
          try clear hcz6_5
          try clear hcz8_0
          try clear hcz8_1
          try clear hcz8_2
          try clear hcz8_3
          try clear hcz8_4
          try clear hcz8_5
          try clear hfz19_0
          try clear hfz19_1
          try clear hfz19_2
          try clear hfz19_3
          try clear hfz19_4
          try clear hfz19_5
          try clear hfz21_0
          try clear hfz21_1
          try clear hfz21_2
          try clear hfz21_3
          try clear hfz21_4
          try clear hfz21_5
          try clear hfz23_0
          try clear hfz23_1
          try clear hfz23_2
          try clear hfz23_3
          try clear hfz23_4
          try clear hfz23_5
          try clear hfz6_0
          try clear hfz6_1
          try clear hfz6_2
          try clear hfz6_3
          try clear hfz6_4
          try clear hfz6_5
          try clear hfz8_0
          try clear hfz8_1
          try clear hfz8_2
          try clear hfz8_3
          try clear hfz8_4
          try clear hfz8_5
          try clear p2
          obtain ⟨kq, x121_17, rfl, HA, HJ17, BK412, HB⟩ := hcut
          cases kq with
          | zero => exact absurd HA.out (by simp [biremelaw14_AffineCounts.j1])
          | succ kj17 =>
            have H := HA.out
            clear HA
            simp only [biremelaw14_AffineCounts.j1] at H
            by_cases c34 : x121_17 = true
            · subst c34
              have H1 : (some false) = some r := by rw [if_pos rfl] at H; exact H
              clear H
              have H := H1
              clear H1
              exact absurd ((Option.some.inj H).trans hr) (by decide)
            · replace c34 := Bool.eq_false_iff.mpr c34
              subst c34
              have H1 : (if t417 = true then ((biremelaw14_at.f a0_0 a0_1 t415).bind fun t429 => ((biremelaw14_at.f a0_2 a0_3 t416).bind fun t430 => (if t429 = t430 then (if t415 < 0 then (some false) else (if t415 ≥ a0_4 then (some false) else (if t416 < 0 then (some false) else (if t416 ≥ a0_4 then (some false) else (if t421 = true then (if t420 ≥ 0 then (if t420 ≤ t426 then (if t420 < a0_4 then (if t424 = true then (if t423 ≥ 0 then (if t423 < a0_4 then (if (wrap64 (-t423)) ≤ t426 then ((biremelaw14_alive.f kj17).bind fun t431 => (some t431)) else (some false)) else (some false)) else (some false)) else ((biremelaw14_alive.f kj17).bind fun t432 => (some t432))) else (some false)) else (some false)) else (some false)) else (if t424 = true then (if t423 ≥ 0 then (if t423 < a0_4 then (if (wrap64 (-t423)) ≤ t426 then ((biremelaw14_alive.f kj17).bind fun t433 => (some t433)) else (some false)) else (some false)) else (some false)) else ((biremelaw14_alive.f kj17).bind fun t434 => (some t434)))))))) else (some false)))) else (if t421 = true then (if t420 ≥ 0 then (if t420 ≤ t426 then (if t420 < a0_4 then (if t424 = true then (if t423 ≥ 0 then (if t423 < a0_4 then (if (wrap64 (-t423)) ≤ t426 then ((biremelaw14_alive.f kj17).bind fun t435 => (some t435)) else (some false)) else (some false)) else (some false)) else ((biremelaw14_alive.f kj17).bind fun t436 => (some t436))) else (some false)) else (some false)) else (some false)) else (if t424 = true then (if t423 ≥ 0 then (if t423 < a0_4 then (if (wrap64 (-t423)) ≤ t426 then ((biremelaw14_alive.f kj17).bind fun t437 => (some t437)) else (some false)) else (some false)) else (some false)) else ((biremelaw14_alive.f kj17).bind fun t438 => (some t438))))) = some r := by rw [if_neg (show ¬ (false = true) by decide)] at H; exact H
              clear H
              have H := H1
              clear H1
              by_cases c35 : t417 = true
              · subst c35
                have H1 : ((biremelaw14_at.f a0_0 a0_1 t415).bind fun t429 => ((biremelaw14_at.f a0_2 a0_3 t416).bind fun t430 => (if t429 = t430 then (if t415 < 0 then (some false) else (if t415 ≥ a0_4 then (some false) else (if t416 < 0 then (some false) else (if t416 ≥ a0_4 then (some false) else (if t421 = true then (if t420 ≥ 0 then (if t420 ≤ t426 then (if t420 < a0_4 then (if t424 = true then (if t423 ≥ 0 then (if t423 < a0_4 then (if (wrap64 (-t423)) ≤ t426 then ((biremelaw14_alive.f kj17).bind fun t431 => (some t431)) else (some false)) else (some false)) else (some false)) else ((biremelaw14_alive.f kj17).bind fun t432 => (some t432))) else (some false)) else (some false)) else (some false)) else (if t424 = true then (if t423 ≥ 0 then (if t423 < a0_4 then (if (wrap64 (-t423)) ≤ t426 then ((biremelaw14_alive.f kj17).bind fun t433 => (some t433)) else (some false)) else (some false)) else (some false)) else ((biremelaw14_alive.f kj17).bind fun t434 => (some t434)))))))) else (some false)))) = some r := by rw [if_pos rfl] at H; exact H
                clear H
                have H := H1
                clear H1
                replace H := Option.bind_eq_some_iff.mp H
                obtain ⟨t429, A360, H⟩ := H
                replace H : ((biremelaw14_at.f a0_2 a0_3 t416).bind fun t430 => (if t429 = t430 then (if t415 < 0 then (some false) else (if t415 ≥ a0_4 then (some false) else (if t416 < 0 then (some false) else (if t416 ≥ a0_4 then (some false) else (if t421 = true then (if t420 ≥ 0 then (if t420 ≤ t426 then (if t420 < a0_4 then (if t424 = true then (if t423 ≥ 0 then (if t423 < a0_4 then (if (wrap64 (-t423)) ≤ t426 then ((biremelaw14_alive.f kj17).bind fun t431 => (some t431)) else (some false)) else (some false)) else (some false)) else ((biremelaw14_alive.f kj17).bind fun t432 => (some t432))) else (some false)) else (some false)) else (some false)) else (if t424 = true then (if t423 ≥ 0 then (if t423 < a0_4 then (if (wrap64 (-t423)) ≤ t426 then ((biremelaw14_alive.f kj17).bind fun t433 => (some t433)) else (some false)) else (some false)) else (some false)) else ((biremelaw14_alive.f kj17).bind fun t434 => (some t434)))))))) else (some false))) = some r := H
                have A36 := Aside0.mk A360
                clear A360
                replace H := Option.bind_eq_some_iff.mp H
                obtain ⟨t430, A370, H⟩ := H
                replace H : (if t429 = t430 then (if t415 < 0 then (some false) else (if t415 ≥ a0_4 then (some false) else (if t416 < 0 then (some false) else (if t416 ≥ a0_4 then (some false) else (if t421 = true then (if t420 ≥ 0 then (if t420 ≤ t426 then (if t420 < a0_4 then (if t424 = true then (if t423 ≥ 0 then (if t423 < a0_4 then (if (wrap64 (-t423)) ≤ t426 then ((biremelaw14_alive.f kj17).bind fun t431 => (some t431)) else (some false)) else (some false)) else (some false)) else ((biremelaw14_alive.f kj17).bind fun t432 => (some t432))) else (some false)) else (some false)) else (some false)) else (if t424 = true then (if t423 ≥ 0 then (if t423 < a0_4 then (if (wrap64 (-t423)) ≤ t426 then ((biremelaw14_alive.f kj17).bind fun t433 => (some t433)) else (some false)) else (some false)) else (some false)) else ((biremelaw14_alive.f kj17).bind fun t434 => (some t434)))))))) else (some false)) = some r := H
                have A37 := Aside0.mk A370
                clear A370
                by_cases c38 : t429 = t430
                · rw [if_pos c38] at H
                  have c38b0 : (t429 == t430) = true := beq_iff_eq.mpr c38
                  have c38b1 : (t429 != t430) = false := bne_eq_false_iff_eq.mpr c38
                  clear c38
                  by_cases c39 : t415 < 0
                  · rw [if_pos c39] at H
                    have c39b0 : decide (t415 < 0) = true := decide_eq_true c39
                    clear c39
                    exact absurd ((Option.some.inj H).trans hr) (by decide)
                  · rw [if_neg c39] at H
                    have c39b0 : decide (t415 < 0) = false := decide_eq_false c39
                    clear c39
                    by_cases c43 : t415 ≥ a0_4
                    · rw [if_pos c43] at H
                      have c43b0 : decide (a0_4 ≤ t415) = true := decide_eq_true c43
                      clear c43
                      exact absurd ((Option.some.inj H).trans hr) (by decide)
                    · rw [if_neg c43] at H
                      have c43b0 : decide (a0_4 ≤ t415) = false := decide_eq_false c43
                      clear c43
                      by_cases c47 : t416 < 0
                      · rw [if_pos c47] at H
                        have c47b0 : decide (t416 < 0) = true := decide_eq_true c47
                        clear c47
                        exact absurd ((Option.some.inj H).trans hr) (by decide)
                      · rw [if_neg c47] at H
                        have c47b0 : decide (t416 < 0) = false := decide_eq_false c47
                        clear c47
                        by_cases c51 : t416 ≥ a0_4
                        · rw [if_pos c51] at H
                          have c51b0 : decide (a0_4 ≤ t416) = true := decide_eq_true c51
                          clear c51
                          exact absurd ((Option.some.inj H).trans hr) (by decide)
                        · rw [if_neg c51] at H
                          have c51b0 : decide (a0_4 ≤ t416) = false := decide_eq_false c51
                          clear c51
                          have HK := Aside0.mk H
                          clear H
                          go_upto_region 10 with (fail)
                          go_cut [153] (fun v153 wc => v153 = .bool false ∧ Aside0 (wc.heap[gb412]? = some (.cells #[.int .i64 a0_0, .int .i64 a0_1, .int .i64 a0_2, .int .i64 a0_3, .int .i64 a0_4, .int .i64 a0_5] 35 (0, 0))) ∧ Aside0 (Below w.heap.size w wc))
                          case first =>
                            try go_wp2
                            have n0_ := Aside0.mk (blk_drew BK412.out)
                            have n1_ := Aside0.mk (below_drew1 HB.out)
                            clear BK412
                            clear HB
                            have BK412 := n0_
                            have HB := n1_
                            clear n0_ n1_
                            refine start_ (n := 32) (S := fun w' => w'.cell? ⟨gb412, 0, none⟩ = some (.int .i64 a0_0) ∧ w'.cell? ⟨gb412, 1, none⟩ = some (.int .i64 a0_1) ∧ w'.cell? ⟨gb412, 2, none⟩ = some (.int .i64 a0_2) ∧ w'.cell? ⟨gb412, 3, none⟩ = some (.int .i64 a0_3) ∧ w'.cell? ⟨gb412, 4, none⟩ = some (.int .i64 a0_4) ∧ w'.cell? ⟨gb412, 5, none⟩ = some (.int .i64 a0_5)) (ds := []) #[false, false, false, false, false, false, false, false, false, false, false, false, false, false, false, false, false, false, false, false, false, false, false, false, false, false, false, false, false, false, false, false] (by kernel_rfl) rfl rfl ⟨(blk_cell BK412.out 0).trans rfl, (blk_cell BK412.out 1).trans rfl, (blk_cell BK412.out 2).trans rfl, (blk_cell BK412.out 3).trans rfl, (blk_cell BK412.out 4).trans rfl, (blk_cell BK412.out 5).trans rfl⟩ (fun hHeld => ?_); refine with_tabW biremelaw14_AffineCounts.tab10 biremelaw14_AffineCounts.bits10 (fun HT_ HW_ => ?_)
                            generalize wc.drew = w64 at BK412 HB hHeld ⊢
                            refine pure_ (i := 0) (N := some 122) (v := ?_) (a' := ?_) #[true, false, false, false, false, false, false, false, false, false, false, false, false, false, false, false, false, false, false, false, false, false, false, false, false, false, false, false, false, false, false, false] rfl rfl (any_of HT_.out (by kernel_rfl)) (fun _ _ _ h => h) (Or.inl ⟨by rfl, ?_⟩) ?_ ?_
                            rotate_left
                            · intro w'
                              go_simp
                              with_reducible rfl
                            rotate_left
                            · simp only [Act.put, List.setIfInBounds_toArray, List.set_cons_zero, List.set_cons_succ, i64_w, i32_w]
                              rfl
                            refine pure_ (i := 1) (N := some 123) (v := ?_) (a' := ?_) #[true, true, false, false, false, false, false, false, false, false, false, false, false, false, false, false, false, false, false, false, false, false, false, false, false, false, false, false, false, false, false, false] rfl rfl (any_of HT_.out (by kernel_rfl)) (fun _ _ _ h => h) (Or.inl ⟨by rfl, ?_⟩) ?_ ?_
                            rotate_left
                            · intro w'
                              go_simp
                              with_reducible rfl
                            rotate_left
                            · simp only [Act.put, List.setIfInBounds_toArray, List.set_cons_zero, List.set_cons_succ, i64_w, i32_w]
                              rfl
                            refine pure_ (i := 2) (N := some 124) (v := ?_) (a' := ?_) #[true, true, true, false, false, false, false, false, false, false, false, false, false, false, false, false, false, false, false, false, false, false, false, false, false, false, false, false, false, false, false, false] rfl rfl (any_of HT_.out (by kernel_rfl)) (fun _ _ _ h => h) (Or.inl ⟨by rfl, ?_⟩) ?_ ?_
                            rotate_left
                            · intro w'
                              go_simp
                              with_reducible rfl
                            rotate_left
                            · simp only [Act.put, List.setIfInBounds_toArray, List.set_cons_zero, List.set_cons_succ, i64_w, i32_w]
                              rfl
                            refine pure_ (i := 4) (N := some 126) (v := ?_) (a' := ?_) #[true, true, true, false, true, false, false, false, false, false, false, false, false, false, false, false, false, false, false, false, false, false, false, false, false, false, false, false, false, false, false, false] rfl rfl (any_of HT_.out (by kernel_rfl)) (fun _ _ _ h => h) (Or.inl ⟨by rfl, ?_⟩) ?_ ?_
                            rotate_left
                            · intro w'
                              go_simp
                              with_reducible rfl
                            rotate_left
                            · simp only [Act.put, List.setIfInBounds_toArray, List.set_cons_zero, List.set_cons_succ, i64_w, i32_w]
                              rfl
                            refine pure_ (i := 6) (N := some 128) (v := ?_) (a' := ?_) #[true, true, true, false, true, false, true, false, false, false, false, false, false, false, false, false, false, false, false, false, false, false, false, false, false, false, false, false, false, false, false, false] rfl rfl (any_of HT_.out (by kernel_rfl)) (fun _ _ _ h => h) (Or.inl ⟨by rfl, ?_⟩) ?_ ?_
                            rotate_left
                            · intro w'
                              go_simp
                              with_reducible rfl
                            rotate_left
                            · simp only [Act.put, List.setIfInBounds_toArray, List.set_cons_zero, List.set_cons_succ, i64_w, i32_w]
                              rfl
                            refine pure_ (i := 8) (N := some 130) (v := ?_) (a' := ?_) #[true, true, true, false, true, false, true, false, true, false, false, false, false, false, false, false, false, false, false, false, false, false, false, false, false, false, false, false, false, false, false, false] rfl rfl (any_of HT_.out (by kernel_rfl)) (fun _ _ _ h => h) (Or.inl ⟨by rfl, ?_⟩) ?_ ?_
                            rotate_left
                            · intro w'
                              go_simp
                              with_reducible rfl
                            rotate_left
                            · simp only [Act.put, List.setIfInBounds_toArray, List.set_cons_zero, List.set_cons_succ, i64_w, i32_w]
                              rfl
                            refine take_ (i := 3) (N := some 125) (v := ?_) (a' := ?_) #[true, true, true, true, true, false, true, false, true, false, false, false, false, false, false, false, false, false, false, false, false, false, false, false, false, false, false, false, false, false, false, false] rfl rfl (take_ofW HT_.out HW_.out (by kernel_rfl)) (fun _ _ _ h => h) (Or.inl ⟨by rfl, ?_⟩) hHeld ?_ ?_
                            rotate_left
                            · rintro w' ⟨s0, s1, s2, s3, s4, s5⟩
                              go_simp
                              with_reducible rfl
                            rotate_left
                            · simp only [Act.put, List.setIfInBounds_toArray, List.set_cons_zero, List.set_cons_succ, i64_w, i32_w]
                              rfl
                            refine take_ (i := 7) (N := some 129) (v := ?_) (a' := ?_) #[true, true, true, true, true, false, true, true, true, false, false, false, false, false, false, false, false, false, false, false, false, false, false, false, false, false, false, false, false, false, false, false] rfl rfl (take_ofW HT_.out HW_.out (by kernel_rfl)) (fun _ _ _ h => h) (Or.inl ⟨by rfl, ?_⟩) hHeld ?_ ?_
                            rotate_left
                            · rintro w' ⟨s0, s1, s2, s3, s4, s5⟩
                              go_simp
                              with_reducible rfl
                            rotate_left
                            · simp only [Act.put, List.setIfInBounds_toArray, List.set_cons_zero, List.set_cons_succ, i64_w, i32_w]
                              rfl
                            refine one_ (i := 5) (N := some 127) #[true, true, true, true, true, true, true, true, true, false, false, false, false, false, false, false, false, false, false, false, false, false, false, false, false, false, false, false, false, false, false, false] rfl rfl (one_of HT_.out (by kernel_rfl)) (by decide) (fun K hK => ?_)
                            refine goes_ Try.func32 (by kernel_rfl) rfl #[.agg #[.int .i64 a0_0, .int .i64 a0_1], .int .i64 t415] (by rfl) rfl rfl (by (try simp only [List.map_toArray, List.map_cons, List.map_nil]); first | done | rfl | (simp only [List.length_drop, List.length_take]; rfl)) ?_
                            with_reducible refine (biremelaw14_at.calls a0_0 a0_1 t415 t429 _ A36.out).mono ?_
                            rintro e w65 ⟨rfl, hb⟩
                            refine ⟨_, rfl, ?_⟩
                            have n0_ := Aside0.mk (blk_below (g := gb412) (o := .cells #[.int .i64 a0_0, .int .i64 a0_1, .int .i64 a0_2, .int .i64 a0_3, .int .i64 a0_4, .int .i64 a0_5] 35 (0, 0)) (by (with_reducible repeat (first | refine blk_drewN ?_ _ | refine blk_drew ?_ | refine blk_alloc ?_ _)); exact BK412.out) hb)
                            have n1_ := Aside0.mk (below_step (by repeat (first | (with_reducible first | exact HB.out | apply below_alloc | apply pw_below_drewN | apply below_drew1 | refine below_set ?_ GE412.out) | exact HB.out)) hb)
                            clear BK412
                            clear HB
                            have BK412 := n0_
                            have HB := n1_
                            clear n0_ n1_
                            (try clear hb)
                            (try clear hb2)
                            (try clear hk)
                            (try clear hi)
                            refine hK.out _ _ ⟨(blk_cell BK412.out 0).trans rfl, (blk_cell BK412.out 1).trans rfl, (blk_cell BK412.out 2).trans rfl, (blk_cell BK412.out 3).trans rfl, (blk_cell BK412.out 4).trans rfl, (blk_cell BK412.out 5).trans rfl⟩ (fun hHeld => ?_)
                            clear hK K
                            refine norm_ (a' := ?_) ?_ ?_
                            rotate_left
                            · show Act.put _ (some 127) _ = _
                              simp only [Act.put, List.setIfInBounds_toArray, List.set_cons_zero, List.set_cons_succ, i64_w, i32_w]
                              rfl
                            refine one_ (i := 9) (N := some 131) #[true, true, true, true, true, true, true, true, true, true, false, false, false, false, false, false, false, false, false, false, false, false, false, false, false, false, false, false, false, false, false, false] rfl rfl (one_of HT_.out (by kernel_rfl)) (by decide) (fun K hK => ?_)
                            refine goes_ Try.func32 (by kernel_rfl) rfl #[.agg #[.int .i64 a0_2, .int .i64 a0_3], .int .i64 t416] (by rfl) rfl rfl (by (try simp only [List.map_toArray, List.map_cons, List.map_nil]); first | done | rfl | (simp only [List.length_drop, List.length_take]; rfl)) ?_
                            with_reducible refine (biremelaw14_at.calls a0_2 a0_3 t416 t430 _ A37.out).mono ?_
                            rintro e w66 ⟨rfl, hb⟩
                            refine ⟨_, rfl, ?_⟩
                            have n0_ := Aside0.mk (blk_below (g := gb412) (o := .cells #[.int .i64 a0_0, .int .i64 a0_1, .int .i64 a0_2, .int .i64 a0_3, .int .i64 a0_4, .int .i64 a0_5] 35 (0, 0)) (by (with_reducible repeat (first | refine blk_drewN ?_ _ | refine blk_drew ?_ | refine blk_alloc ?_ _)); exact BK412.out) hb)
                            have n1_ := Aside0.mk (below_step (by repeat (first | (with_reducible first | exact HB.out | apply below_alloc | apply pw_below_drewN | apply below_drew1 | refine below_set ?_ GE412.out) | exact HB.out)) hb)
                            clear BK412
                            clear HB
                            have BK412 := n0_
                            have HB := n1_
                            clear n0_ n1_
                            (try clear hb)
                            (try clear hb2)
                            (try clear hk)
                            (try clear hi)
                            refine hK.out _ _ ⟨(blk_cell BK412.out 0).trans rfl, (blk_cell BK412.out 1).trans rfl, (blk_cell BK412.out 2).trans rfl, (blk_cell BK412.out 3).trans rfl, (blk_cell BK412.out 4).trans rfl, (blk_cell BK412.out 5).trans rfl⟩ (fun hHeld => ?_)
                            clear hK K
                            refine norm_ (a' := ?_) ?_ ?_
                            rotate_left
                            · show Act.put _ (some 131) _ = _
                              simp only [Act.put, List.setIfInBounds_toArray, List.set_cons_zero, List.set_cons_succ, i64_w, i32_w]
                              rfl
                            refine pure_ (i := 10) (N := some 132) (v := ?_) (a' := ?_) #[true, true, true, true, true, true, true, true, true, true, true, false, false, false, false, false, false, false, false, false, false, false, false, false, false, false, false, false, false, false, false, false] rfl rfl (any_of HT_.out (by kernel_rfl)) (fun _ _ _ h => h) (Or.inl ⟨by rfl, ?_⟩) ?_ ?_
                            rotate_left
                            · intro w'
                              go_simp
                              with_reducible rfl
                            rotate_left
                            · simp only [Act.put, List.setIfInBounds_toArray, List.set_cons_zero, List.set_cons_succ, i64_w, i32_w]
                              rfl
                            refine pure_ (i := 11) (N := some 133) (v := ?_) (a' := ?_) #[true, true, true, true, true, true, true, true, true, true, true, true, false, false, false, false, false, false, false, false, false, false, false, false, false, false, false, false, false, false, false, false] rfl rfl (any_of HT_.out (by kernel_rfl)) (fun _ _ _ h => h) (Or.inl ⟨by rfl, ?_⟩) ?_ ?_
                            rotate_left
                            · intro w'
                              go_simp
                              with_reducible rfl
                            rotate_left
                            · simp only [Act.put, List.setIfInBounds_toArray, List.set_cons_zero, List.set_cons_succ, i64_w, i32_w]
                              rfl
                            refine pure_ (i := 12) (N := some 134) (v := ?_) (a' := ?_) #[true, true, true, true, true, true, true, true, true, true, true, true, true, false, false, false, false, false, false, false, false, false, false, false, false, false, false, false, false, false, false, false] rfl rfl (any_of HT_.out (by kernel_rfl)) (fun _ _ _ h => h) (Or.inl ⟨by rfl, ?_⟩) ?_ ?_
                            rotate_left
                            · intro w'
                              go_simp
                              with_reducible rfl
                            rotate_left
                            · simp only [Act.put, List.setIfInBounds_toArray, List.set_cons_zero, List.set_cons_succ, i64_w, i32_w]
                              rfl
                            refine pure_ (i := 13) (N := some 135) (v := ?_) (a' := ?_) #[true, true, true, true, true, true, true, true, true, true, true, true, true, true, false, false, false, false, false, false, false, false, false, false, false, false, false, false, false, false, false, false] rfl rfl (any_of HT_.out (by kernel_rfl)) (fun _ _ _ h => h) (Or.inl ⟨by rfl, ?_⟩) ?_ ?_
                            rotate_left
                            · intro w'
                              go_simp
                              with_reducible rfl
                            rotate_left
                            · simp only [Act.put, List.setIfInBounds_toArray, List.set_cons_zero, List.set_cons_succ, i64_w, i32_w]
                              rfl
                            refine pure_ (i := 14) (N := some 136) (v := ?_) (a' := ?_) #[true, true, true, true, true, true, true, true, true, true, true, true, true, true, true, false, false, false, false, false, false, false, false, false, false, false, false, false, false, false, false, false] rfl rfl (any_of HT_.out (by kernel_rfl)) (fun _ _ _ h => h) (Or.inl ⟨by rfl, ?_⟩) ?_ ?_
                            rotate_left
                            · intro w'
                              go_simp
                              with_reducible rfl
                            rotate_left
                            · simp only [Act.put, List.setIfInBounds_toArray, List.set_cons_zero, List.set_cons_succ, i64_w, i32_w]
                              rfl
                            refine pure_ (i := 15) (N := some 137) (v := ?_) (a' := ?_) #[true, true, true, true, true, true, true, true, true, true, true, true, true, true, true, true, false, false, false, false, false, false, false, false, false, false, false, false, false, false, false, false] rfl rfl (any_of HT_.out (by kernel_rfl)) (fun _ _ _ h => h) (Or.inl ⟨by rfl, ?_⟩) ?_ ?_
                            rotate_left
                            · intro w'
                              go_simp
                              with_reducible rfl
                            rotate_left
                            · simp only [Act.put, List.setIfInBounds_toArray, List.set_cons_zero, List.set_cons_succ, i64_w, i32_w]
                              rfl
                            refine pure_ (i := 16) (N := some 138) (v := ?_) (a' := ?_) #[true, true, true, true, true, true, true, true, true, true, true, true, true, true, true, true, true, false, false, false, false, false, false, false, false, false, false, false, false, false, false, false] rfl rfl (any_of HT_.out (by kernel_rfl)) (fun _ _ _ h => h) (Or.inl ⟨by rfl, ?_⟩) ?_ ?_
                            rotate_left
                            · intro w'
                              go_simp
                              with_reducible rfl
                            rotate_left
                            · simp only [Act.put, List.setIfInBounds_toArray, List.set_cons_zero, List.set_cons_succ, i64_w, i32_w]
                              rfl
                            refine pure_ (i := 17) (N := some 139) (v := ?_) (a' := ?_) #[true, true, true, true, true, true, true, true, true, true, true, true, true, true, true, true, true, true, false, false, false, false, false, false, false, false, false, false, false, false, false, false] rfl rfl (any_of HT_.out (by kernel_rfl)) (fun _ _ _ h => h) (Or.inl ⟨by rfl, ?_⟩) ?_ ?_
                            rotate_left
                            · intro w'
                              go_simp
                              with_reducible rfl
                            rotate_left
                            · simp only [Act.put, List.setIfInBounds_toArray, List.set_cons_zero, List.set_cons_succ, i64_w, i32_w]
                              rfl
                            refine take_ (i := 18) (N := some 140) (v := ?_) (a' := ?_) #[true, true, true, true, true, true, true, true, true, true, true, true, true, true, true, true, true, true, true, false, false, false, false, false, false, false, false, false, false, false, false, false] rfl rfl (take_ofW HT_.out HW_.out (by kernel_rfl)) (fun _ _ _ h => h) (Or.inl ⟨by rfl, ?_⟩) hHeld ?_ ?_
                            rotate_left
                            · rintro w' ⟨s0, s1, s2, s3, s4, s5⟩
                              go_simp
                              with_reducible rfl
                            rotate_left
                            · simp only [Act.put, List.setIfInBounds_toArray, List.set_cons_zero, List.set_cons_succ, i64_w, i32_w]
                              rfl
                            refine pure_ (i := 19) (N := some 141) (v := ?_) (a' := ?_) #[true, true, true, true, true, true, true, true, true, true, true, true, true, true, true, true, true, true, true, true, false, false, false, false, false, false, false, false, false, false, false, false] rfl rfl (any_of HT_.out (by kernel_rfl)) (fun _ _ _ h => h) (Or.inl ⟨by rfl, ?_⟩) ?_ ?_
                            rotate_left
                            · intro w'
                              go_simp
                              with_reducible rfl
                            rotate_left
                            · simp only [Act.put, List.setIfInBounds_toArray, List.set_cons_zero, List.set_cons_succ, i64_w, i32_w]
                              rfl
                            refine pure_ (i := 20) (N := some 142) (v := ?_) (a' := ?_) #[true, true, true, true, true, true, true, true, true, true, true, true, true, true, true, true, true, true, true, true, true, false, false, false, false, false, false, false, false, false, false, false] rfl rfl (any_of HT_.out (by kernel_rfl)) (fun _ _ _ h => h) (Or.inl ⟨by rfl, ?_⟩) ?_ ?_
                            rotate_left
                            · intro w'
                              go_simp
                              with_reducible rfl
                            rotate_left
                            · simp only [Act.put, List.setIfInBounds_toArray, List.set_cons_zero, List.set_cons_succ, i64_w, i32_w]
                              rfl
                            refine pure_ (i := 21) (N := some 143) (v := ?_) (a' := ?_) #[true, true, true, true, true, true, true, true, true, true, true, true, true, true, true, true, true, true, true, true, true, true, false, false, false, false, false, false, false, false, false, false] rfl rfl (any_of HT_.out (by kernel_rfl)) (fun _ _ _ h => h) (Or.inl ⟨by rfl, ?_⟩) ?_ ?_
                            rotate_left
                            · intro w'
                              go_simp
                              with_reducible rfl
                            rotate_left
                            · simp only [Act.put, List.setIfInBounds_toArray, List.set_cons_zero, List.set_cons_succ, i64_w, i32_w]
                              rfl
                            refine pure_ (i := 22) (N := some 144) (v := ?_) (a' := ?_) #[true, true, true, true, true, true, true, true, true, true, true, true, true, true, true, true, true, true, true, true, true, true, true, false, false, false, false, false, false, false, false, false] rfl rfl (any_of HT_.out (by kernel_rfl)) (fun _ _ _ h => h) (Or.inl ⟨by rfl, ?_⟩) ?_ ?_
                            rotate_left
                            · intro w'
                              go_simp
                              with_reducible rfl
                            rotate_left
                            · simp only [Act.put, List.setIfInBounds_toArray, List.set_cons_zero, List.set_cons_succ, i64_w, i32_w]
                              rfl
                            refine pure_ (i := 23) (N := some 145) (v := ?_) (a' := ?_) #[true, true, true, true, true, true, true, true, true, true, true, true, true, true, true, true, true, true, true, true, true, true, true, true, false, false, false, false, false, false, false, false] rfl rfl (any_of HT_.out (by kernel_rfl)) (fun _ _ _ h => h) (Or.inl ⟨by rfl, ?_⟩) ?_ ?_
                            rotate_left
                            · intro w'
                              go_simp
                              with_reducible rfl
                            rotate_left
                            · simp only [Act.put, List.setIfInBounds_toArray, List.set_cons_zero, List.set_cons_succ, i64_w, i32_w]
                              rfl
                            refine pure_ (i := 24) (N := some 146) (v := ?_) (a' := ?_) #[true, true, true, true, true, true, true, true, true, true, true, true, true, true, true, true, true, true, true, true, true, true, true, true, true, false, false, false, false, false, false, false] rfl rfl (any_of HT_.out (by kernel_rfl)) (fun _ _ _ h => h) (Or.inl ⟨by rfl, ?_⟩) ?_ ?_
                            rotate_left
                            · intro w'
                              go_simp
                              with_reducible rfl
                            rotate_left
                            · simp only [Act.put, List.setIfInBounds_toArray, List.set_cons_zero, List.set_cons_succ, i64_w, i32_w]
                              rfl
                            refine pure_ (i := 25) (N := some 147) (v := ?_) (a' := ?_) #[true, true, true, true, true, true, true, true, true, true, true, true, true, true, true, true, true, true, true, true, true, true, true, true, true, true, false, false, false, false, false, false] rfl rfl (any_of HT_.out (by kernel_rfl)) (fun _ _ _ h => h) (Or.inl ⟨by rfl, ?_⟩) ?_ ?_
                            rotate_left
                            · intro w'
                              go_simp
                              with_reducible rfl
                            rotate_left
                            · simp only [Act.put, List.setIfInBounds_toArray, List.set_cons_zero, List.set_cons_succ, i64_w, i32_w]
                              rfl
                            refine pure_ (i := 26) (N := some 148) (v := ?_) (a' := ?_) #[true, true, true, true, true, true, true, true, true, true, true, true, true, true, true, true, true, true, true, true, true, true, true, true, true, true, true, false, false, false, false, false] rfl rfl (any_of HT_.out (by kernel_rfl)) (fun _ _ _ h => h) (Or.inl ⟨by rfl, ?_⟩) ?_ ?_
                            rotate_left
                            · intro w'
                              go_simp
                              with_reducible rfl
                            rotate_left
                            · simp only [Act.put, List.setIfInBounds_toArray, List.set_cons_zero, List.set_cons_succ, i64_w, i32_w]
                              rfl
                            refine pure_ (i := 27) (N := some 149) (v := ?_) (a' := ?_) #[true, true, true, true, true, true, true, true, true, true, true, true, true, true, true, true, true, true, true, true, true, true, true, true, true, true, true, true, false, false, false, false] rfl rfl (any_of HT_.out (by kernel_rfl)) (fun _ _ _ h => h) (Or.inl ⟨by rfl, ?_⟩) ?_ ?_
                            rotate_left
                            · intro w'
                              go_simp
                              with_reducible rfl
                            rotate_left
                            · simp only [Act.put, List.setIfInBounds_toArray, List.set_cons_zero, List.set_cons_succ, i64_w, i32_w]
                              rfl
                            refine take_ (i := 28) (N := some 150) (v := ?_) (a' := ?_) #[true, true, true, true, true, true, true, true, true, true, true, true, true, true, true, true, true, true, true, true, true, true, true, true, true, true, true, true, true, false, false, false] rfl rfl (take_ofW HT_.out HW_.out (by kernel_rfl)) (fun _ _ _ h => h) (Or.inl ⟨by rfl, ?_⟩) hHeld ?_ ?_
                            rotate_left
                            · rintro w' ⟨s0, s1, s2, s3, s4, s5⟩
                              go_simp
                              with_reducible rfl
                            rotate_left
                            · simp only [Act.put, List.setIfInBounds_toArray, List.set_cons_zero, List.set_cons_succ, i64_w, i32_w]
                              rfl
                            refine pure_ (i := 29) (N := some 151) (v := ?_) (a' := ?_) #[true, true, true, true, true, true, true, true, true, true, true, true, true, true, true, true, true, true, true, true, true, true, true, true, true, true, true, true, true, true, false, false] rfl rfl (any_of HT_.out (by kernel_rfl)) (fun _ _ _ h => h) (Or.inl ⟨by rfl, ?_⟩) ?_ ?_
                            rotate_left
                            · intro w'
                              go_simp
                              with_reducible rfl
                            rotate_left
                            · simp only [Act.put, List.setIfInBounds_toArray, List.set_cons_zero, List.set_cons_succ, i64_w, i32_w]
                              rfl
                            refine pure_ (i := 30) (N := some 152) (v := ?_) (a' := ?_) #[true, true, true, true, true, true, true, true, true, true, true, true, true, true, true, true, true, true, true, true, true, true, true, true, true, true, true, true, true, true, true, false] rfl rfl (any_of HT_.out (by kernel_rfl)) (fun _ _ _ h => h) (Or.inl ⟨by rfl, ?_⟩) ?_ ?_
                            rotate_left
                            · intro w'
                              go_simp
                              with_reducible rfl
                            rotate_left
                            · simp only [Act.put, List.setIfInBounds_toArray, List.set_cons_zero, List.set_cons_succ, i64_w, i32_w]
                              rfl
                            refine pure_ (i := 31) (N := some 153) (v := ?_) (a' := ?_) #[true, true, true, true, true, true, true, true, true, true, true, true, true, true, true, true, true, true, true, true, true, true, true, true, true, true, true, true, true, true, true, true] rfl rfl (any_of HT_.out (by kernel_rfl)) (fun _ _ _ h => h) (Or.inl ⟨by rfl, ?_⟩) ?_ ?_
                            rotate_left
                            · intro w'
                              go_simp
                              with_reducible rfl
                            rotate_left
                            · simp only [Act.put, List.setIfInBounds_toArray, List.set_cons_zero, List.set_cons_succ, i64_w, i32_w]
                              rfl
                            refine done_ (done_of HT_.out (by kernel_rfl)) ?_
                            refine Met.intro ?_
                            go_step
                            go_meet
                            case rel => exact ⟨by first | rfl | (simp; done) | (simp [*]; done), ⟨by (with_reducible repeat (first | refine blk_drewN ?_ _ | refine blk_drew ?_ | refine blk_alloc ?_ _)); exact BK412.out⟩, ⟨by repeat (first | (with_reducible first | exact HB.out | apply below_alloc | apply pw_below_drewN | apply below_drew1 | refine below_set ?_ GE412.out) | exact HB.out)⟩⟩
                          case rest =>
                            clear BK412 HB
                            obtain ⟨rfl, BK412, HB⟩ := hcut
                            have H := HK.out
                            clear HK
                            by_cases c55 : t421 = true
                            · subst c55
                              have H1 : (if t420 ≥ 0 then (if t420 ≤ t426 then (if t420 < a0_4 then (if t424 = true then (if t423 ≥ 0 then (if t423 < a0_4 then (if (wrap64 (-t423)) ≤ t426 then ((biremelaw14_alive.f kj17).bind fun t431 => (some t431)) else (some false)) else (some false)) else (some false)) else ((biremelaw14_alive.f kj17).bind fun t432 => (some t432))) else (some false)) else (some false)) else (some false)) = some r := by rw [if_pos rfl] at H; exact H
                              clear H
                              have H := H1
                              clear H1
                              by_cases c56 : t420 ≥ 0
                              · rw [if_pos c56] at H
                                have c56b0 : decide (0 ≤ t420) = true := decide_eq_true c56
                                clear c56
                                by_cases c57 : t420 ≤ t426
                                · rw [if_pos c57] at H
                                  have c57b0 : decide (t420 ≤ t426) = true := decide_eq_true c57
                                  clear c57
                                  by_cases c58 : t420 < a0_4
                                  · rw [if_pos c58] at H
                                    have c58b0 : decide (t420 < a0_4) = true := decide_eq_true c58
                                    clear c58
                                    by_cases c59 : t424 = true
                                    · subst c59
                                      have H1 : (if t423 ≥ 0 then (if t423 < a0_4 then (if (wrap64 (-t423)) ≤ t426 then ((biremelaw14_alive.f kj17).bind fun t431 => (some t431)) else (some false)) else (some false)) else (some false)) = some r := by rw [if_pos rfl] at H; exact H
                                      clear H
                                      have H := H1
                                      clear H1
                                      by_cases c60 : t423 ≥ 0
                                      · rw [if_pos c60] at H
                                        have c60b0 : decide (0 ≤ t423) = true := decide_eq_true c60
                                        clear c60
                                        by_cases c61 : t423 < a0_4
                                        · rw [if_pos c61] at H
                                          have c61b0 : decide (t423 < a0_4) = true := decide_eq_true c61
                                          clear c61
                                          by_cases c62 : (wrap64 (-t423)) ≤ t426
                                          · rw [if_pos c62] at H
                                            have c62b0 : decide ((wrap64 (-t423)) ≤ t426) = true := decide_eq_true c62
                                            clear c62
                                            replace H := Option.bind_eq_some_iff.mp H
                                            obtain ⟨t431, A630, H⟩ := H
                                            replace H : (some t431) = some r := H
                                            have A63 := Aside0.mk A630
                                            clear A630
                                            obtain rfl := Option.some.inj H
                                            have hcz67_0 : wc.cell? ⟨gb412, 0, none⟩ = some (.int .i64 a0_0) := (blk_cell BK412.out 0).trans rfl
                                            have hcz67_1 : wc.cell? ⟨gb412, 1, none⟩ = some (.int .i64 a0_1) := (blk_cell BK412.out 1).trans rfl
                                            have hcz67_2 : wc.cell? ⟨gb412, 2, none⟩ = some (.int .i64 a0_2) := (blk_cell BK412.out 2).trans rfl
                                            have hcz67_3 : wc.cell? ⟨gb412, 3, none⟩ = some (.int .i64 a0_3) := (blk_cell BK412.out 3).trans rfl
                                            have hcz67_4 : wc.cell? ⟨gb412, 4, none⟩ = some (.int .i64 a0_4) := (blk_cell BK412.out 4).trans rfl
                                            have hcz67_5 : wc.cell? ⟨gb412, 5, none⟩ = some (.int .i64 a0_5) := (blk_cell BK412.out 5).trans rfl
                                            have hfz67_0 := blk_frozen BK412.out 0
                                            have hfz67_1 := blk_frozen BK412.out 1
                                            have hfz67_2 := blk_frozen BK412.out 2
                                            have hfz67_3 := blk_frozen BK412.out 3
                                            have hfz67_4 := blk_frozen BK412.out 4
                                            have hfz67_5 := blk_frozen BK412.out 5
                                            try go_wp2_with (first | (go_at_call 16; (with_reducible refine (biremelaw14_alive.calls kj17  t431 _ A63.out).mono ?_); rintro e w68 ⟨rfl, hb⟩; have n0_ := Aside0.mk (blk_below (g := gb412) (o := .cells #[.int .i64 a0_0, .int .i64 a0_1, .int .i64 a0_2, .int .i64 a0_3, .int .i64 a0_4, .int .i64 a0_5] 35 (0, 0)) (by (with_reducible repeat (first | refine blk_drewN ?_ _ | refine blk_drew ?_ | refine blk_alloc ?_ _)); exact BK412.out) hb); have n1_ := Aside0.mk (below_step (by repeat (first | (with_reducible first | exact HB.out | apply below_alloc | apply pw_below_drewN | apply below_drew1 | refine below_set ?_ GE412.out) | exact HB.out)) hb); clear BK412; clear HB; have BK412 := n0_; have HB := n1_; clear n0_ n1_; (try clear hb); (try clear hb2); (try clear hk); (try clear hi)))
                                            go_ret
                                            exact ⟨by first | rfl | (simp [errW_none, errW_some] <;> rfl) | (simp [*, errW_none, errW_some] <;> rfl), by repeat (first | (with_reducible first | exact HB.out | apply below_alloc | apply pw_below_drewN | apply below_drew1 | refine below_set ?_ GE412.out) | exact HB.out)⟩
                                          · rw [if_neg c62] at H
                                            have c62b0 : decide ((wrap64 (-t423)) ≤ t426) = false := decide_eq_false c62
                                            clear c62
                                            exact absurd ((Option.some.inj H).trans hr) (by decide)
                                        · rw [if_neg c61] at H
                                          have c61b0 : decide (t423 < a0_4) = false := decide_eq_false c61
                                          clear c61
                                          exact absurd ((Option.some.inj H).trans hr) (by decide)
                                      · rw [if_neg c60] at H
                                        have c60b0 : decide (0 ≤ t423) = false := decide_eq_false c60
                                        clear c60
                                        exact absurd ((Option.some.inj H).trans hr) (by decide)
                                    · replace c59 := Bool.eq_false_iff.mpr c59
                                      subst c59
                                      have H1 : ((biremelaw14_alive.f kj17).bind fun t432 => (some t432)) = some r := by rw [if_neg (show ¬ (false = true) by decide)] at H; exact H
                                      clear H
                                      have H := H1
                                      clear H1
                                      replace H := Option.bind_eq_some_iff.mp H
                                      obtain ⟨t432, A810, H⟩ := H
                                      replace H : (some t432) = some r := H
                                      have A81 := Aside0.mk A810
                                      clear A810
                                      obtain rfl := Option.some.inj H
                                      have hcz85_0 : wc.cell? ⟨gb412, 0, none⟩ = some (.int .i64 a0_0) := (blk_cell BK412.out 0).trans rfl
                                      have hcz85_1 : wc.cell? ⟨gb412, 1, none⟩ = some (.int .i64 a0_1) := (blk_cell BK412.out 1).trans rfl
                                      have hcz85_2 : wc.cell? ⟨gb412, 2, none⟩ = some (.int .i64 a0_2) := (blk_cell BK412.out 2).trans rfl
                                      have hcz85_3 : wc.cell? ⟨gb412, 3, none⟩ = some (.int .i64 a0_3) := (blk_cell BK412.out 3).trans rfl
                                      have hcz85_4 : wc.cell? ⟨gb412, 4, none⟩ = some (.int .i64 a0_4) := (blk_cell BK412.out 4).trans rfl
                                      have hcz85_5 : wc.cell? ⟨gb412, 5, none⟩ = some (.int .i64 a0_5) := (blk_cell BK412.out 5).trans rfl
                                      have hfz85_0 := blk_frozen BK412.out 0
                                      have hfz85_1 := blk_frozen BK412.out 1
                                      have hfz85_2 := blk_frozen BK412.out 2
                                      have hfz85_3 := blk_frozen BK412.out 3
                                      have hfz85_4 := blk_frozen BK412.out 4
                                      have hfz85_5 := blk_frozen BK412.out 5
                                      try go_wp2_with (first | (go_at_call 16; (with_reducible refine (biremelaw14_alive.calls kj17  t432 _ A81.out).mono ?_); rintro e w86 ⟨rfl, hb⟩; have n0_ := Aside0.mk (blk_below (g := gb412) (o := .cells #[.int .i64 a0_0, .int .i64 a0_1, .int .i64 a0_2, .int .i64 a0_3, .int .i64 a0_4, .int .i64 a0_5] 35 (0, 0)) (by (with_reducible repeat (first | refine blk_drewN ?_ _ | refine blk_drew ?_ | refine blk_alloc ?_ _)); exact BK412.out) hb); have n1_ := Aside0.mk (below_step (by repeat (first | (with_reducible first | exact HB.out | apply below_alloc | apply pw_below_drewN | apply below_drew1 | refine below_set ?_ GE412.out) | exact HB.out)) hb); clear BK412; clear HB; have BK412 := n0_; have HB := n1_; clear n0_ n1_; (try clear hb); (try clear hb2); (try clear hk); (try clear hi)))
                                      go_ret
                                      exact ⟨by first | rfl | (simp [errW_none, errW_some] <;> rfl) | (simp [*, errW_none, errW_some] <;> rfl), by repeat (first | (with_reducible first | exact HB.out | apply below_alloc | apply pw_below_drewN | apply below_drew1 | refine below_set ?_ GE412.out) | exact HB.out)⟩
                                  · rw [if_neg c58] at H
                                    have c58b0 : decide (t420 < a0_4) = false := decide_eq_false c58
                                    clear c58
                                    exact absurd ((Option.some.inj H).trans hr) (by decide)
                                · rw [if_neg c57] at H
                                  have c57b0 : decide (t420 ≤ t426) = false := decide_eq_false c57
                                  clear c57
                                  exact absurd ((Option.some.inj H).trans hr) (by decide)
                              · rw [if_neg c56] at H
                                have c56b0 : decide (0 ≤ t420) = false := decide_eq_false c56
                                clear c56
                                exact absurd ((Option.some.inj H).trans hr) (by decide)
                            · replace c55 := Bool.eq_false_iff.mpr c55
                              subst c55
                              have H1 : (if t424 = true then (if t423 ≥ 0 then (if t423 < a0_4 then (if (wrap64 (-t423)) ≤ t426 then ((biremelaw14_alive.f kj17).bind fun t433 => (some t433)) else (some false)) else (some false)) else (some false)) else ((biremelaw14_alive.f kj17).bind fun t434 => (some t434))) = some r := by rw [if_neg (show ¬ (false = true) by decide)] at H; exact H
                              clear H
                              have H := H1
                              clear H1
                              by_cases c97 : t424 = true
                              · subst c97
                                have H1 : (if t423 ≥ 0 then (if t423 < a0_4 then (if (wrap64 (-t423)) ≤ t426 then ((biremelaw14_alive.f kj17).bind fun t433 => (some t433)) else (some false)) else (some false)) else (some false)) = some r := by rw [if_pos rfl] at H; exact H
                                clear H
                                have H := H1
                                clear H1
                                by_cases c98 : t423 ≥ 0
                                · rw [if_pos c98] at H
                                  have c98b0 : decide (0 ≤ t423) = true := decide_eq_true c98
                                  clear c98
                                  by_cases c99 : t423 < a0_4
                                  · rw [if_pos c99] at H
                                    have c99b0 : decide (t423 < a0_4) = true := decide_eq_true c99
                                    clear c99
                                    by_cases c100 : (wrap64 (-t423)) ≤ t426
                                    · rw [if_pos c100] at H
                                      have c100b0 : decide ((wrap64 (-t423)) ≤ t426) = true := decide_eq_true c100
                                      clear c100
                                      replace H := Option.bind_eq_some_iff.mp H
                                      obtain ⟨t433, A1010, H⟩ := H
                                      replace H : (some t433) = some r := H
                                      have A101 := Aside0.mk A1010
                                      clear A1010
                                      obtain rfl := Option.some.inj H
                                      have hcz105_0 : wc.cell? ⟨gb412, 0, none⟩ = some (.int .i64 a0_0) := (blk_cell BK412.out 0).trans rfl
                                      have hcz105_1 : wc.cell? ⟨gb412, 1, none⟩ = some (.int .i64 a0_1) := (blk_cell BK412.out 1).trans rfl
                                      have hcz105_2 : wc.cell? ⟨gb412, 2, none⟩ = some (.int .i64 a0_2) := (blk_cell BK412.out 2).trans rfl
                                      have hcz105_3 : wc.cell? ⟨gb412, 3, none⟩ = some (.int .i64 a0_3) := (blk_cell BK412.out 3).trans rfl
                                      have hcz105_4 : wc.cell? ⟨gb412, 4, none⟩ = some (.int .i64 a0_4) := (blk_cell BK412.out 4).trans rfl
                                      have hcz105_5 : wc.cell? ⟨gb412, 5, none⟩ = some (.int .i64 a0_5) := (blk_cell BK412.out 5).trans rfl
                                      have hfz105_0 := blk_frozen BK412.out 0
                                      have hfz105_1 := blk_frozen BK412.out 1
                                      have hfz105_2 := blk_frozen BK412.out 2
                                      have hfz105_3 := blk_frozen BK412.out 3
                                      have hfz105_4 := blk_frozen BK412.out 4
                                      have hfz105_5 := blk_frozen BK412.out 5
                                      try go_wp2_with (first | (go_at_call 16; (with_reducible refine (biremelaw14_alive.calls kj17  t433 _ A101.out).mono ?_); rintro e w106 ⟨rfl, hb⟩; have n0_ := Aside0.mk (blk_below (g := gb412) (o := .cells #[.int .i64 a0_0, .int .i64 a0_1, .int .i64 a0_2, .int .i64 a0_3, .int .i64 a0_4, .int .i64 a0_5] 35 (0, 0)) (by (with_reducible repeat (first | refine blk_drewN ?_ _ | refine blk_drew ?_ | refine blk_alloc ?_ _)); exact BK412.out) hb); have n1_ := Aside0.mk (below_step (by repeat (first | (with_reducible first | exact HB.out | apply below_alloc | apply pw_below_drewN | apply below_drew1 | refine below_set ?_ GE412.out) | exact HB.out)) hb); clear BK412; clear HB; have BK412 := n0_; have HB := n1_; clear n0_ n1_; (try clear hb); (try clear hb2); (try clear hk); (try clear hi)))
                                      go_ret
                                      exact ⟨by first | rfl | (simp [errW_none, errW_some] <;> rfl) | (simp [*, errW_none, errW_some] <;> rfl), by repeat (first | (with_reducible first | exact HB.out | apply below_alloc | apply pw_below_drewN | apply below_drew1 | refine below_set ?_ GE412.out) | exact HB.out)⟩
                                    · rw [if_neg c100] at H
                                      have c100b0 : decide ((wrap64 (-t423)) ≤ t426) = false := decide_eq_false c100
                                      clear c100
                                      exact absurd ((Option.some.inj H).trans hr) (by decide)
                                  · rw [if_neg c99] at H
                                    have c99b0 : decide (t423 < a0_4) = false := decide_eq_false c99
                                    clear c99
                                    exact absurd ((Option.some.inj H).trans hr) (by decide)
                                · rw [if_neg c98] at H
                                  have c98b0 : decide (0 ≤ t423) = false := decide_eq_false c98
                                  clear c98
                                  exact absurd ((Option.some.inj H).trans hr) (by decide)
                              · replace c97 := Bool.eq_false_iff.mpr c97
                                subst c97
                                have H1 : ((biremelaw14_alive.f kj17).bind fun t434 => (some t434)) = some r := by rw [if_neg (show ¬ (false = true) by decide)] at H; exact H
                                clear H
                                have H := H1
                                clear H1
                                replace H := Option.bind_eq_some_iff.mp H
                                obtain ⟨t434, A1180, H⟩ := H
                                replace H : (some t434) = some r := H
                                have A118 := Aside0.mk A1180
                                clear A1180
                                obtain rfl := Option.some.inj H
                                try go_wp2_with (first | (go_at_call 16; (with_reducible refine (biremelaw14_alive.calls kj17  t434 _ A118.out).mono ?_); rintro e w122 ⟨rfl, hb⟩; have n0_ := Aside0.mk (blk_below (g := gb412) (o := .cells #[.int .i64 a0_0, .int .i64 a0_1, .int .i64 a0_2, .int .i64 a0_3, .int .i64 a0_4, .int .i64 a0_5] 35 (0, 0)) (by (with_reducible repeat (first | refine blk_drewN ?_ _ | refine blk_drew ?_ | refine blk_alloc ?_ _)); exact BK412.out) hb); have n1_ := Aside0.mk (below_step (by repeat (first | (with_reducible first | exact HB.out | apply below_alloc | apply pw_below_drewN | apply below_drew1 | refine below_set ?_ GE412.out) | exact HB.out)) hb); clear BK412; clear HB; have BK412 := n0_; have HB := n1_; clear n0_ n1_; (try clear hb); (try clear hb2); (try clear hk); (try clear hi)))
                                go_ret
                                exact ⟨by first | rfl | (simp [errW_none, errW_some] <;> rfl) | (simp [*, errW_none, errW_some] <;> rfl), by repeat (first | (with_reducible first | exact HB.out | apply below_alloc | apply pw_below_drewN | apply below_drew1 | refine below_set ?_ GE412.out) | exact HB.out)⟩
                · rw [if_neg c38] at H
                  have c38b0 : (t429 == t430) = false := beq_eq_false_iff_ne.mpr c38
                  have c38b1 : (t429 != t430) = true := bne_iff_ne.mpr c38
                  exact absurd ((Option.some.inj H).trans hr) (by decide)
              · replace c35 := Bool.eq_false_iff.mpr c35
                subst c35
                have H1 : (if t421 = true then (if t420 ≥ 0 then (if t420 ≤ t426 then (if t420 < a0_4 then (if t424 = true then (if t423 ≥ 0 then (if t423 < a0_4 then (if (wrap64 (-t423)) ≤ t426 then ((biremelaw14_alive.f kj17).bind fun t435 => (some t435)) else (some false)) else (some false)) else (some false)) else ((biremelaw14_alive.f kj17).bind fun t436 => (some t436))) else (some false)) else (some false)) else (some false)) else (if t424 = true then (if t423 ≥ 0 then (if t423 < a0_4 then (if (wrap64 (-t423)) ≤ t426 then ((biremelaw14_alive.f kj17).bind fun t437 => (some t437)) else (some false)) else (some false)) else (some false)) else ((biremelaw14_alive.f kj17).bind fun t438 => (some t438)))) = some r := by rw [if_neg (show ¬ (false = true) by decide)] at H; exact H
                clear H
                have H := H1
                clear H1
                have HK := Aside0.mk H
                clear H
                go_upto_region 10 with (fail)
                go_cut [153] (fun v153 wc => v153 = .bool false ∧ Aside0 (wc.heap[gb412]? = some (.cells #[.int .i64 a0_0, .int .i64 a0_1, .int .i64 a0_2, .int .i64 a0_3, .int .i64 a0_4, .int .i64 a0_5] 35 (0, 0))) ∧ Aside0 (Below w.heap.size w wc))
                case first =>
                  try go_wp2
                  have n0_ := Aside0.mk (blk_drew BK412.out)
                  have n1_ := Aside0.mk (below_drew1 HB.out)
                  clear BK412
                  clear HB
                  have BK412 := n0_
                  have HB := n1_
                  clear n0_ n1_
                  refine start_ (n := 32) (S := fun w' => True) (ds := []) #[false, false, false, false, false, false, false, false, false, false, false, false, false, false, false, false, false, false, false, false, false, false, false, false, false, false, false, false, false, false, false, false] (by kernel_rfl) rfl rfl trivial (fun hHeld => ?_); refine with_tabW biremelaw14_AffineCounts.tab10 biremelaw14_AffineCounts.bits10 (fun HT_ HW_ => ?_)
                  generalize wc.drew = w135 at BK412 HB hHeld ⊢
                  refine pure_ (i := 0) (N := some 122) (v := ?_) (a' := ?_) #[true, false, false, false, false, false, false, false, false, false, false, false, false, false, false, false, false, false, false, false, false, false, false, false, false, false, false, false, false, false, false, false] rfl rfl (any_of HT_.out (by kernel_rfl)) (fun _ _ _ h => h) (Or.inl ⟨by rfl, ?_⟩) ?_ ?_
                  rotate_left
                  · intro w'
                    go_simp
                    with_reducible rfl
                  rotate_left
                  · simp only [Act.put, List.setIfInBounds_toArray, List.set_cons_zero, List.set_cons_succ, i64_w, i32_w]
                    rfl
                  refine pure_ (i := 1) (N := some 123) (v := ?_) (a' := ?_) #[true, true, false, false, false, false, false, false, false, false, false, false, false, false, false, false, false, false, false, false, false, false, false, false, false, false, false, false, false, false, false, false] rfl rfl (any_of HT_.out (by kernel_rfl)) (fun _ _ _ h => h) (Or.inl ⟨by rfl, ?_⟩) ?_ ?_
                  rotate_left
                  · intro w'
                    go_simp
                    with_reducible rfl
                  rotate_left
                  · simp only [Act.put, List.setIfInBounds_toArray, List.set_cons_zero, List.set_cons_succ, i64_w, i32_w]
                    rfl
                  refine pure_ (i := 2) (N := some 124) (v := undef) (a' := ?_) #[true, true, true, false, false, false, false, false, false, false, false, false, false, false, false, false, false, false, false, false, false, false, false, false, false, false, false, false, false, false, false, false] rfl rfl (any_of HT_.out (by kernel_rfl)) (fun _ _ _ h => h) (Or.inr ⟨by rfl, rfl⟩) ?_ ?_
                  rotate_left
                  · simp only [Act.put, List.setIfInBounds_toArray, List.set_cons_zero, List.set_cons_succ, i64_w, i32_w]
                    rfl
                  refine pure_ (i := 3) (N := some 125) (v := undef) (a' := ?_) #[true, true, true, true, false, false, false, false, false, false, false, false, false, false, false, false, false, false, false, false, false, false, false, false, false, false, false, false, false, false, false, false] rfl rfl (any_of HT_.out (by kernel_rfl)) (fun _ _ _ h => h) (Or.inr ⟨by rfl, rfl⟩) ?_ ?_
                  rotate_left
                  · simp only [Act.put, List.setIfInBounds_toArray, List.set_cons_zero, List.set_cons_succ, i64_w, i32_w]
                    rfl
                  refine pure_ (i := 4) (N := some 126) (v := undef) (a' := ?_) #[true, true, true, true, true, false, false, false, false, false, false, false, false, false, false, false, false, false, false, false, false, false, false, false, false, false, false, false, false, false, false, false] rfl rfl (any_of HT_.out (by kernel_rfl)) (fun _ _ _ h => h) (Or.inr ⟨by rfl, rfl⟩) ?_ ?_
                  rotate_left
                  · simp only [Act.put, List.setIfInBounds_toArray, List.set_cons_zero, List.set_cons_succ, i64_w, i32_w]
                    rfl
                  refine pure_ (i := 5) (N := some 127) (v := undef) (a' := ?_) #[true, true, true, true, true, true, false, false, false, false, false, false, false, false, false, false, false, false, false, false, false, false, false, false, false, false, false, false, false, false, false, false] rfl rfl (any_of HT_.out (by kernel_rfl)) (fun _ _ _ h => h) (Or.inr ⟨by rfl, rfl⟩) ?_ ?_
                  rotate_left
                  · simp only [Act.put, List.setIfInBounds_toArray, List.set_cons_zero, List.set_cons_succ, i64_w, i32_w]
                    rfl
                  refine pure_ (i := 6) (N := some 128) (v := undef) (a' := ?_) #[true, true, true, true, true, true, true, false, false, false, false, false, false, false, false, false, false, false, false, false, false, false, false, false, false, false, false, false, false, false, false, false] rfl rfl (any_of HT_.out (by kernel_rfl)) (fun _ _ _ h => h) (Or.inr ⟨by rfl, rfl⟩) ?_ ?_
                  rotate_left
                  · simp only [Act.put, List.setIfInBounds_toArray, List.set_cons_zero, List.set_cons_succ, i64_w, i32_w]
                    rfl
                  refine pure_ (i := 7) (N := some 129) (v := undef) (a' := ?_) #[true, true, true, true, true, true, true, true, false, false, false, false, false, false, false, false, false, false, false, false, false, false, false, false, false, false, false, false, false, false, false, false] rfl rfl (any_of HT_.out (by kernel_rfl)) (fun _ _ _ h => h) (Or.inr ⟨by rfl, rfl⟩) ?_ ?_
                  rotate_left
                  · simp only [Act.put, List.setIfInBounds_toArray, List.set_cons_zero, List.set_cons_succ, i64_w, i32_w]
                    rfl
                  refine pure_ (i := 8) (N := some 130) (v := undef) (a' := ?_) #[true, true, true, true, true, true, true, true, true, false, false, false, false, false, false, false, false, false, false, false, false, false, false, false, false, false, false, false, false, false, false, false] rfl rfl (any_of HT_.out (by kernel_rfl)) (fun _ _ _ h => h) (Or.inr ⟨by rfl, rfl⟩) ?_ ?_
                  rotate_left
                  · simp only [Act.put, List.setIfInBounds_toArray, List.set_cons_zero, List.set_cons_succ, i64_w, i32_w]
                    rfl
                  refine pure_ (i := 9) (N := some 131) (v := undef) (a' := ?_) #[true, true, true, true, true, true, true, true, true, true, false, false, false, false, false, false, false, false, false, false, false, false, false, false, false, false, false, false, false, false, false, false] rfl rfl (any_of HT_.out (by kernel_rfl)) (fun _ _ _ h => h) (Or.inr ⟨by rfl, rfl⟩) ?_ ?_
                  rotate_left
                  · simp only [Act.put, List.setIfInBounds_toArray, List.set_cons_zero, List.set_cons_succ, i64_w, i32_w]
                    rfl
                  refine pure_ (i := 10) (N := some 132) (v := undef) (a' := ?_) #[true, true, true, true, true, true, true, true, true, true, true, false, false, false, false, false, false, false, false, false, false, false, false, false, false, false, false, false, false, false, false, false] rfl rfl (any_of HT_.out (by kernel_rfl)) (fun _ _ _ h => h) (Or.inr ⟨by rfl, rfl⟩) ?_ ?_
                  rotate_left
                  · simp only [Act.put, List.setIfInBounds_toArray, List.set_cons_zero, List.set_cons_succ, i64_w, i32_w]
                    rfl
                  refine pure_ (i := 11) (N := some 133) (v := undef) (a' := ?_) #[true, true, true, true, true, true, true, true, true, true, true, true, false, false, false, false, false, false, false, false, false, false, false, false, false, false, false, false, false, false, false, false] rfl rfl (any_of HT_.out (by kernel_rfl)) (fun _ _ _ h => h) (Or.inr ⟨by rfl, rfl⟩) ?_ ?_
                  rotate_left
                  · simp only [Act.put, List.setIfInBounds_toArray, List.set_cons_zero, List.set_cons_succ, i64_w, i32_w]
                    rfl
                  refine pure_ (i := 12) (N := some 134) (v := undef) (a' := ?_) #[true, true, true, true, true, true, true, true, true, true, true, true, true, false, false, false, false, false, false, false, false, false, false, false, false, false, false, false, false, false, false, false] rfl rfl (any_of HT_.out (by kernel_rfl)) (fun _ _ _ h => h) (Or.inr ⟨by rfl, rfl⟩) ?_ ?_
                  rotate_left
                  · simp only [Act.put, List.setIfInBounds_toArray, List.set_cons_zero, List.set_cons_succ, i64_w, i32_w]
                    rfl
                  refine pure_ (i := 13) (N := some 135) (v := undef) (a' := ?_) #[true, true, true, true, true, true, true, true, true, true, true, true, true, true, false, false, false, false, false, false, false, false, false, false, false, false, false, false, false, false, false, false] rfl rfl (any_of HT_.out (by kernel_rfl)) (fun _ _ _ h => h) (Or.inr ⟨by rfl, rfl⟩) ?_ ?_
                  rotate_left
                  · simp only [Act.put, List.setIfInBounds_toArray, List.set_cons_zero, List.set_cons_succ, i64_w, i32_w]
                    rfl
                  refine pure_ (i := 14) (N := some 136) (v := undef) (a' := ?_) #[true, true, true, true, true, true, true, true, true, true, true, true, true, true, true, false, false, false, false, false, false, false, false, false, false, false, false, false, false, false, false, false] rfl rfl (any_of HT_.out (by kernel_rfl)) (fun _ _ _ h => h) (Or.inr ⟨by rfl, rfl⟩) ?_ ?_
                  rotate_left
                  · simp only [Act.put, List.setIfInBounds_toArray, List.set_cons_zero, List.set_cons_succ, i64_w, i32_w]
                    rfl
                  refine pure_ (i := 15) (N := some 137) (v := undef) (a' := ?_) #[true, true, true, true, true, true, true, true, true, true, true, true, true, true, true, true, false, false, false, false, false, false, false, false, false, false, false, false, false, false, false, false] rfl rfl (any_of HT_.out (by kernel_rfl)) (fun _ _ _ h => h) (Or.inr ⟨by rfl, rfl⟩) ?_ ?_
                  rotate_left
                  · simp only [Act.put, List.setIfInBounds_toArray, List.set_cons_zero, List.set_cons_succ, i64_w, i32_w]
                    rfl
                  refine pure_ (i := 16) (N := some 138) (v := undef) (a' := ?_) #[true, true, true, true, true, true, true, true, true, true, true, true, true, true, true, true, true, false, false, false, false, false, false, false, false, false, false, false, false, false, false, false] rfl rfl (any_of HT_.out (by kernel_rfl)) (fun _ _ _ h => h) (Or.inr ⟨by rfl, rfl⟩) ?_ ?_
                  rotate_left
                  · simp only [Act.put, List.setIfInBounds_toArray, List.set_cons_zero, List.set_cons_succ, i64_w, i32_w]
                    rfl
                  refine pure_ (i := 17) (N := some 139) (v := undef) (a' := ?_) #[true, true, true, true, true, true, true, true, true, true, true, true, true, true, true, true, true, true, false, false, false, false, false, false, false, false, false, false, false, false, false, false] rfl rfl (any_of HT_.out (by kernel_rfl)) (fun _ _ _ h => h) (Or.inr ⟨by rfl, rfl⟩) ?_ ?_
                  rotate_left
                  · simp only [Act.put, List.setIfInBounds_toArray, List.set_cons_zero, List.set_cons_succ, i64_w, i32_w]
                    rfl
                  refine pure_ (i := 18) (N := some 140) (v := undef) (a' := ?_) #[true, true, true, true, true, true, true, true, true, true, true, true, true, true, true, true, true, true, true, false, false, false, false, false, false, false, false, false, false, false, false, false] rfl rfl (any_of HT_.out (by kernel_rfl)) (fun _ _ _ h => h) (Or.inr ⟨by rfl, rfl⟩) ?_ ?_
                  rotate_left
                  · simp only [Act.put, List.setIfInBounds_toArray, List.set_cons_zero, List.set_cons_succ, i64_w, i32_w]
                    rfl
                  refine pure_ (i := 19) (N := some 141) (v := undef) (a' := ?_) #[true, true, true, true, true, true, true, true, true, true, true, true, true, true, true, true, true, true, true, true, false, false, false, false, false, false, false, false, false, false, false, false] rfl rfl (any_of HT_.out (by kernel_rfl)) (fun _ _ _ h => h) (Or.inr ⟨by rfl, rfl⟩) ?_ ?_
                  rotate_left
                  · simp only [Act.put, List.setIfInBounds_toArray, List.set_cons_zero, List.set_cons_succ, i64_w, i32_w]
                    rfl
                  refine pure_ (i := 20) (N := some 142) (v := undef) (a' := ?_) #[true, true, true, true, true, true, true, true, true, true, true, true, true, true, true, true, true, true, true, true, true, false, false, false, false, false, false, false, false, false, false, false] rfl rfl (any_of HT_.out (by kernel_rfl)) (fun _ _ _ h => h) (Or.inr ⟨by rfl, rfl⟩) ?_ ?_
                  rotate_left
                  · simp only [Act.put, List.setIfInBounds_toArray, List.set_cons_zero, List.set_cons_succ, i64_w, i32_w]
                    rfl
                  refine pure_ (i := 21) (N := some 143) (v := undef) (a' := ?_) #[true, true, true, true, true, true, true, true, true, true, true, true, true, true, true, true, true, true, true, true, true, true, false, false, false, false, false, false, false, false, false, false] rfl rfl (any_of HT_.out (by kernel_rfl)) (fun _ _ _ h => h) (Or.inr ⟨by rfl, rfl⟩) ?_ ?_
                  rotate_left
                  · simp only [Act.put, List.setIfInBounds_toArray, List.set_cons_zero, List.set_cons_succ, i64_w, i32_w]
                    rfl
                  refine pure_ (i := 22) (N := some 144) (v := undef) (a' := ?_) #[true, true, true, true, true, true, true, true, true, true, true, true, true, true, true, true, true, true, true, true, true, true, true, false, false, false, false, false, false, false, false, false] rfl rfl (any_of HT_.out (by kernel_rfl)) (fun _ _ _ h => h) (Or.inr ⟨by rfl, rfl⟩) ?_ ?_
                  rotate_left
                  · simp only [Act.put, List.setIfInBounds_toArray, List.set_cons_zero, List.set_cons_succ, i64_w, i32_w]
                    rfl
                  refine pure_ (i := 23) (N := some 145) (v := undef) (a' := ?_) #[true, true, true, true, true, true, true, true, true, true, true, true, true, true, true, true, true, true, true, true, true, true, true, true, false, false, false, false, false, false, false, false] rfl rfl (any_of HT_.out (by kernel_rfl)) (fun _ _ _ h => h) (Or.inr ⟨by rfl, rfl⟩) ?_ ?_
                  rotate_left
                  · simp only [Act.put, List.setIfInBounds_toArray, List.set_cons_zero, List.set_cons_succ, i64_w, i32_w]
                    rfl
                  refine pure_ (i := 24) (N := some 146) (v := undef) (a' := ?_) #[true, true, true, true, true, true, true, true, true, true, true, true, true, true, true, true, true, true, true, true, true, true, true, true, true, false, false, false, false, false, false, false] rfl rfl (any_of HT_.out (by kernel_rfl)) (fun _ _ _ h => h) (Or.inr ⟨by rfl, rfl⟩) ?_ ?_
                  rotate_left
                  · simp only [Act.put, List.setIfInBounds_toArray, List.set_cons_zero, List.set_cons_succ, i64_w, i32_w]
                    rfl
                  refine pure_ (i := 25) (N := some 147) (v := undef) (a' := ?_) #[true, true, true, true, true, true, true, true, true, true, true, true, true, true, true, true, true, true, true, true, true, true, true, true, true, true, false, false, false, false, false, false] rfl rfl (any_of HT_.out (by kernel_rfl)) (fun _ _ _ h => h) (Or.inr ⟨by rfl, rfl⟩) ?_ ?_
                  rotate_left
                  · simp only [Act.put, List.setIfInBounds_toArray, List.set_cons_zero, List.set_cons_succ, i64_w, i32_w]
                    rfl
                  refine pure_ (i := 26) (N := some 148) (v := undef) (a' := ?_) #[true, true, true, true, true, true, true, true, true, true, true, true, true, true, true, true, true, true, true, true, true, true, true, true, true, true, true, false, false, false, false, false] rfl rfl (any_of HT_.out (by kernel_rfl)) (fun _ _ _ h => h) (Or.inr ⟨by rfl, rfl⟩) ?_ ?_
                  rotate_left
                  · simp only [Act.put, List.setIfInBounds_toArray, List.set_cons_zero, List.set_cons_succ, i64_w, i32_w]
                    rfl
                  refine pure_ (i := 27) (N := some 149) (v := undef) (a' := ?_) #[true, true, true, true, true, true, true, true, true, true, true, true, true, true, true, true, true, true, true, true, true, true, true, true, true, true, true, true, false, false, false, false] rfl rfl (any_of HT_.out (by kernel_rfl)) (fun _ _ _ h => h) (Or.inr ⟨by rfl, rfl⟩) ?_ ?_
                  rotate_left
                  · simp only [Act.put, List.setIfInBounds_toArray, List.set_cons_zero, List.set_cons_succ, i64_w, i32_w]
                    rfl
                  refine pure_ (i := 28) (N := some 150) (v := undef) (a' := ?_) #[true, true, true, true, true, true, true, true, true, true, true, true, true, true, true, true, true, true, true, true, true, true, true, true, true, true, true, true, true, false, false, false] rfl rfl (any_of HT_.out (by kernel_rfl)) (fun _ _ _ h => h) (Or.inr ⟨by rfl, rfl⟩) ?_ ?_
                  rotate_left
                  · simp only [Act.put, List.setIfInBounds_toArray, List.set_cons_zero, List.set_cons_succ, i64_w, i32_w]
                    rfl
                  refine pure_ (i := 29) (N := some 151) (v := undef) (a' := ?_) #[true, true, true, true, true, true, true, true, true, true, true, true, true, true, true, true, true, true, true, true, true, true, true, true, true, true, true, true, true, true, false, false] rfl rfl (any_of HT_.out (by kernel_rfl)) (fun _ _ _ h => h) (Or.inr ⟨by rfl, rfl⟩) ?_ ?_
                  rotate_left
                  · simp only [Act.put, List.setIfInBounds_toArray, List.set_cons_zero, List.set_cons_succ, i64_w, i32_w]
                    rfl
                  refine pure_ (i := 30) (N := some 152) (v := undef) (a' := ?_) #[true, true, true, true, true, true, true, true, true, true, true, true, true, true, true, true, true, true, true, true, true, true, true, true, true, true, true, true, true, true, true, false] rfl rfl (any_of HT_.out (by kernel_rfl)) (fun _ _ _ h => h) (Or.inr ⟨by rfl, rfl⟩) ?_ ?_
                  rotate_left
                  · simp only [Act.put, List.setIfInBounds_toArray, List.set_cons_zero, List.set_cons_succ, i64_w, i32_w]
                    rfl
                  refine pure_ (i := 31) (N := some 153) (v := ?_) (a' := ?_) #[true, true, true, true, true, true, true, true, true, true, true, true, true, true, true, true, true, true, true, true, true, true, true, true, true, true, true, true, true, true, true, true] rfl rfl (any_of HT_.out (by kernel_rfl)) (fun _ _ _ h => h) (Or.inl ⟨by rfl, ?_⟩) ?_ ?_
                  rotate_left
                  · intro w'
                    go_simp
                    with_reducible rfl
                  rotate_left
                  · simp only [Act.put, List.setIfInBounds_toArray, List.set_cons_zero, List.set_cons_succ, i64_w, i32_w]
                    rfl
                  refine done_ (done_of HT_.out (by kernel_rfl)) ?_
                  refine Met.intro ?_
                  go_step
                  go_meet
                  case rel => exact ⟨by first | rfl | (simp; done) | (simp [*]; done), ⟨by (with_reducible repeat (first | refine blk_drewN ?_ _ | refine blk_drew ?_ | refine blk_alloc ?_ _)); exact BK412.out⟩, ⟨by repeat (first | (with_reducible first | exact HB.out | apply below_alloc | apply pw_below_drewN | apply below_drew1 | refine below_set ?_ GE412.out) | exact HB.out)⟩⟩
                case rest =>
                  clear BK412 HB
                  obtain ⟨rfl, BK412, HB⟩ := hcut
                  have H := HK.out
                  clear HK
                  by_cases c126 : t421 = true
                  · subst c126
                    have H1 : (if t420 ≥ 0 then (if t420 ≤ t426 then (if t420 < a0_4 then (if t424 = true then (if t423 ≥ 0 then (if t423 < a0_4 then (if (wrap64 (-t423)) ≤ t426 then ((biremelaw14_alive.f kj17).bind fun t435 => (some t435)) else (some false)) else (some false)) else (some false)) else ((biremelaw14_alive.f kj17).bind fun t436 => (some t436))) else (some false)) else (some false)) else (some false)) = some r := by rw [if_pos rfl] at H; exact H
                    clear H
                    have H := H1
                    clear H1
                    by_cases c127 : t420 ≥ 0
                    · rw [if_pos c127] at H
                      have c127b0 : decide (0 ≤ t420) = true := decide_eq_true c127
                      clear c127
                      by_cases c128 : t420 ≤ t426
                      · rw [if_pos c128] at H
                        have c128b0 : decide (t420 ≤ t426) = true := decide_eq_true c128
                        clear c128
                        by_cases c129 : t420 < a0_4
                        · rw [if_pos c129] at H
                          have c129b0 : decide (t420 < a0_4) = true := decide_eq_true c129
                          clear c129
                          by_cases c130 : t424 = true
                          · subst c130
                            have H1 : (if t423 ≥ 0 then (if t423 < a0_4 then (if (wrap64 (-t423)) ≤ t426 then ((biremelaw14_alive.f kj17).bind fun t435 => (some t435)) else (some false)) else (some false)) else (some false)) = some r := by rw [if_pos rfl] at H; exact H
                            clear H
                            have H := H1
                            clear H1
                            by_cases c131 : t423 ≥ 0
                            · rw [if_pos c131] at H
                              have c131b0 : decide (0 ≤ t423) = true := decide_eq_true c131
                              clear c131
                              by_cases c132 : t423 < a0_4
                              · rw [if_pos c132] at H
                                have c132b0 : decide (t423 < a0_4) = true := decide_eq_true c132
                                clear c132
                                by_cases c133 : (wrap64 (-t423)) ≤ t426
                                · rw [if_pos c133] at H
                                  have c133b0 : decide ((wrap64 (-t423)) ≤ t426) = true := decide_eq_true c133
                                  clear c133
                                  replace H := Option.bind_eq_some_iff.mp H
                                  obtain ⟨t435, A1340, H⟩ := H
                                  replace H : (some t435) = some r := H
                                  have A134 := Aside0.mk A1340
                                  clear A1340
                                  obtain rfl := Option.some.inj H
                                  have hcz136_0 : wc.cell? ⟨gb412, 0, none⟩ = some (.int .i64 a0_0) := (blk_cell BK412.out 0).trans rfl
                                  have hcz136_1 : wc.cell? ⟨gb412, 1, none⟩ = some (.int .i64 a0_1) := (blk_cell BK412.out 1).trans rfl
                                  have hcz136_2 : wc.cell? ⟨gb412, 2, none⟩ = some (.int .i64 a0_2) := (blk_cell BK412.out 2).trans rfl
                                  have hcz136_3 : wc.cell? ⟨gb412, 3, none⟩ = some (.int .i64 a0_3) := (blk_cell BK412.out 3).trans rfl
                                  have hcz136_4 : wc.cell? ⟨gb412, 4, none⟩ = some (.int .i64 a0_4) := (blk_cell BK412.out 4).trans rfl
                                  have hcz136_5 : wc.cell? ⟨gb412, 5, none⟩ = some (.int .i64 a0_5) := (blk_cell BK412.out 5).trans rfl
                                  have hfz136_0 := blk_frozen BK412.out 0
                                  have hfz136_1 := blk_frozen BK412.out 1
                                  have hfz136_2 := blk_frozen BK412.out 2
                                  have hfz136_3 := blk_frozen BK412.out 3
                                  have hfz136_4 := blk_frozen BK412.out 4
                                  have hfz136_5 := blk_frozen BK412.out 5
                                  try go_wp2_with (first | (go_at_call 16; (with_reducible refine (biremelaw14_alive.calls kj17  t435 _ A134.out).mono ?_); rintro e w137 ⟨rfl, hb⟩; have n0_ := Aside0.mk (blk_below (g := gb412) (o := .cells #[.int .i64 a0_0, .int .i64 a0_1, .int .i64 a0_2, .int .i64 a0_3, .int .i64 a0_4, .int .i64 a0_5] 35 (0, 0)) (by (with_reducible repeat (first | refine blk_drewN ?_ _ | refine blk_drew ?_ | refine blk_alloc ?_ _)); exact BK412.out) hb); have n1_ := Aside0.mk (below_step (by repeat (first | (with_reducible first | exact HB.out | apply below_alloc | apply pw_below_drewN | apply below_drew1 | refine below_set ?_ GE412.out) | exact HB.out)) hb); clear BK412; clear HB; have BK412 := n0_; have HB := n1_; clear n0_ n1_; (try clear hb); (try clear hb2); (try clear hk); (try clear hi)))
                                  go_ret
                                  exact ⟨by first | rfl | (simp [errW_none, errW_some] <;> rfl) | (simp [*, errW_none, errW_some] <;> rfl), by repeat (first | (with_reducible first | exact HB.out | apply below_alloc | apply pw_below_drewN | apply below_drew1 | refine below_set ?_ GE412.out) | exact HB.out)⟩
                                · rw [if_neg c133] at H
                                  have c133b0 : decide ((wrap64 (-t423)) ≤ t426) = false := decide_eq_false c133
                                  clear c133
                                  exact absurd ((Option.some.inj H).trans hr) (by decide)
                              · rw [if_neg c132] at H
                                have c132b0 : decide (t423 < a0_4) = false := decide_eq_false c132
                                clear c132
                                exact absurd ((Option.some.inj H).trans hr) (by decide)
                            · rw [if_neg c131] at H
                              have c131b0 : decide (0 ≤ t423) = false := decide_eq_false c131
                              clear c131
                              exact absurd ((Option.some.inj H).trans hr) (by decide)
                          · replace c130 := Bool.eq_false_iff.mpr c130
                            subst c130
                            have H1 : ((biremelaw14_alive.f kj17).bind fun t436 => (some t436)) = some r := by rw [if_neg (show ¬ (false = true) by decide)] at H; exact H
                            clear H
                            have H := H1
                            clear H1
                            replace H := Option.bind_eq_some_iff.mp H
                            obtain ⟨t436, A1440, H⟩ := H
                            replace H : (some t436) = some r := H
                            have A144 := Aside0.mk A1440
                            clear A1440
                            obtain rfl := Option.some.inj H
                            have hcz146_0 : wc.cell? ⟨gb412, 0, none⟩ = some (.int .i64 a0_0) := (blk_cell BK412.out 0).trans rfl
                            have hcz146_1 : wc.cell? ⟨gb412, 1, none⟩ = some (.int .i64 a0_1) := (blk_cell BK412.out 1).trans rfl
                            have hcz146_2 : wc.cell? ⟨gb412, 2, none⟩ = some (.int .i64 a0_2) := (blk_cell BK412.out 2).trans rfl
                            have hcz146_3 : wc.cell? ⟨gb412, 3, none⟩ = some (.int .i64 a0_3) := (blk_cell BK412.out 3).trans rfl
                            have hcz146_4 : wc.cell? ⟨gb412, 4, none⟩ = some (.int .i64 a0_4) := (blk_cell BK412.out 4).trans rfl
                            have hcz146_5 : wc.cell? ⟨gb412, 5, none⟩ = some (.int .i64 a0_5) := (blk_cell BK412.out 5).trans rfl
                            have hfz146_0 := blk_frozen BK412.out 0
                            have hfz146_1 := blk_frozen BK412.out 1
                            have hfz146_2 := blk_frozen BK412.out 2
                            have hfz146_3 := blk_frozen BK412.out 3
                            have hfz146_4 := blk_frozen BK412.out 4
                            have hfz146_5 := blk_frozen BK412.out 5
                            try go_wp2_with (first | (go_at_call 16; (with_reducible refine (biremelaw14_alive.calls kj17  t436 _ A144.out).mono ?_); rintro e w147 ⟨rfl, hb⟩; have n0_ := Aside0.mk (blk_below (g := gb412) (o := .cells #[.int .i64 a0_0, .int .i64 a0_1, .int .i64 a0_2, .int .i64 a0_3, .int .i64 a0_4, .int .i64 a0_5] 35 (0, 0)) (by (with_reducible repeat (first | refine blk_drewN ?_ _ | refine blk_drew ?_ | refine blk_alloc ?_ _)); exact BK412.out) hb); have n1_ := Aside0.mk (below_step (by repeat (first | (with_reducible first | exact HB.out | apply below_alloc | apply pw_below_drewN | apply below_drew1 | refine below_set ?_ GE412.out) | exact HB.out)) hb); clear BK412; clear HB; have BK412 := n0_; have HB := n1_; clear n0_ n1_; (try clear hb); (try clear hb2); (try clear hk); (try clear hi)))
                            go_ret
                            exact ⟨by first | rfl | (simp [errW_none, errW_some] <;> rfl) | (simp [*, errW_none, errW_some] <;> rfl), by repeat (first | (with_reducible first | exact HB.out | apply below_alloc | apply pw_below_drewN | apply below_drew1 | refine below_set ?_ GE412.out) | exact HB.out)⟩
                        · rw [if_neg c129] at H
                          have c129b0 : decide (t420 < a0_4) = false := decide_eq_false c129
                          clear c129
                          exact absurd ((Option.some.inj H).trans hr) (by decide)
                      · rw [if_neg c128] at H
                        have c128b0 : decide (t420 ≤ t426) = false := decide_eq_false c128
                        clear c128
                        exact absurd ((Option.some.inj H).trans hr) (by decide)
                    · rw [if_neg c127] at H
                      have c127b0 : decide (0 ≤ t420) = false := decide_eq_false c127
                      clear c127
                      exact absurd ((Option.some.inj H).trans hr) (by decide)
                  · replace c126 := Bool.eq_false_iff.mpr c126
                    subst c126
                    have H1 : (if t424 = true then (if t423 ≥ 0 then (if t423 < a0_4 then (if (wrap64 (-t423)) ≤ t426 then ((biremelaw14_alive.f kj17).bind fun t437 => (some t437)) else (some false)) else (some false)) else (some false)) else ((biremelaw14_alive.f kj17).bind fun t438 => (some t438))) = some r := by rw [if_neg (show ¬ (false = true) by decide)] at H; exact H
                    clear H
                    have H := H1
                    clear H1
                    by_cases c152 : t424 = true
                    · subst c152
                      have H1 : (if t423 ≥ 0 then (if t423 < a0_4 then (if (wrap64 (-t423)) ≤ t426 then ((biremelaw14_alive.f kj17).bind fun t437 => (some t437)) else (some false)) else (some false)) else (some false)) = some r := by rw [if_pos rfl] at H; exact H
                      clear H
                      have H := H1
                      clear H1
                      by_cases c153 : t423 ≥ 0
                      · rw [if_pos c153] at H
                        have c153b0 : decide (0 ≤ t423) = true := decide_eq_true c153
                        clear c153
                        by_cases c154 : t423 < a0_4
                        · rw [if_pos c154] at H
                          have c154b0 : decide (t423 < a0_4) = true := decide_eq_true c154
                          clear c154
                          by_cases c155 : (wrap64 (-t423)) ≤ t426
                          · rw [if_pos c155] at H
                            have c155b0 : decide ((wrap64 (-t423)) ≤ t426) = true := decide_eq_true c155
                            clear c155
                            replace H := Option.bind_eq_some_iff.mp H
                            obtain ⟨t437, A1560, H⟩ := H
                            replace H : (some t437) = some r := H
                            have A156 := Aside0.mk A1560
                            clear A1560
                            obtain rfl := Option.some.inj H
                            have hcz158_0 : wc.cell? ⟨gb412, 0, none⟩ = some (.int .i64 a0_0) := (blk_cell BK412.out 0).trans rfl
                            have hcz158_1 : wc.cell? ⟨gb412, 1, none⟩ = some (.int .i64 a0_1) := (blk_cell BK412.out 1).trans rfl
                            have hcz158_2 : wc.cell? ⟨gb412, 2, none⟩ = some (.int .i64 a0_2) := (blk_cell BK412.out 2).trans rfl
                            have hcz158_3 : wc.cell? ⟨gb412, 3, none⟩ = some (.int .i64 a0_3) := (blk_cell BK412.out 3).trans rfl
                            have hcz158_4 : wc.cell? ⟨gb412, 4, none⟩ = some (.int .i64 a0_4) := (blk_cell BK412.out 4).trans rfl
                            have hcz158_5 : wc.cell? ⟨gb412, 5, none⟩ = some (.int .i64 a0_5) := (blk_cell BK412.out 5).trans rfl
                            have hfz158_0 := blk_frozen BK412.out 0
                            have hfz158_1 := blk_frozen BK412.out 1
                            have hfz158_2 := blk_frozen BK412.out 2
                            have hfz158_3 := blk_frozen BK412.out 3
                            have hfz158_4 := blk_frozen BK412.out 4
                            have hfz158_5 := blk_frozen BK412.out 5
                            try go_wp2_with (first | (go_at_call 16; (with_reducible refine (biremelaw14_alive.calls kj17  t437 _ A156.out).mono ?_); rintro e w159 ⟨rfl, hb⟩; have n0_ := Aside0.mk (blk_below (g := gb412) (o := .cells #[.int .i64 a0_0, .int .i64 a0_1, .int .i64 a0_2, .int .i64 a0_3, .int .i64 a0_4, .int .i64 a0_5] 35 (0, 0)) (by (with_reducible repeat (first | refine blk_drewN ?_ _ | refine blk_drew ?_ | refine blk_alloc ?_ _)); exact BK412.out) hb); have n1_ := Aside0.mk (below_step (by repeat (first | (with_reducible first | exact HB.out | apply below_alloc | apply pw_below_drewN | apply below_drew1 | refine below_set ?_ GE412.out) | exact HB.out)) hb); clear BK412; clear HB; have BK412 := n0_; have HB := n1_; clear n0_ n1_; (try clear hb); (try clear hb2); (try clear hk); (try clear hi)))
                            go_ret
                            exact ⟨by first | rfl | (simp [errW_none, errW_some] <;> rfl) | (simp [*, errW_none, errW_some] <;> rfl), by repeat (first | (with_reducible first | exact HB.out | apply below_alloc | apply pw_below_drewN | apply below_drew1 | refine below_set ?_ GE412.out) | exact HB.out)⟩
                          · rw [if_neg c155] at H
                            have c155b0 : decide ((wrap64 (-t423)) ≤ t426) = false := decide_eq_false c155
                            clear c155
                            exact absurd ((Option.some.inj H).trans hr) (by decide)
                        · rw [if_neg c154] at H
                          have c154b0 : decide (t423 < a0_4) = false := decide_eq_false c154
                          clear c154
                          exact absurd ((Option.some.inj H).trans hr) (by decide)
                      · rw [if_neg c153] at H
                        have c153b0 : decide (0 ≤ t423) = false := decide_eq_false c153
                        clear c153
                        exact absurd ((Option.some.inj H).trans hr) (by decide)
                    · replace c152 := Bool.eq_false_iff.mpr c152
                      subst c152
                      have H1 : ((biremelaw14_alive.f kj17).bind fun t438 => (some t438)) = some r := by rw [if_neg (show ¬ (false = true) by decide)] at H; exact H
                      clear H
                      have H := H1
                      clear H1
                      replace H := Option.bind_eq_some_iff.mp H
                      obtain ⟨t438, A1650, H⟩ := H
                      replace H : (some t438) = some r := H
                      have A165 := Aside0.mk A1650
                      clear A1650
                      obtain rfl := Option.some.inj H
                      try go_wp2_with (first | (go_at_call 16; (with_reducible refine (biremelaw14_alive.calls kj17  t438 _ A165.out).mono ?_); rintro e w167 ⟨rfl, hb⟩; have n0_ := Aside0.mk (blk_below (g := gb412) (o := .cells #[.int .i64 a0_0, .int .i64 a0_1, .int .i64 a0_2, .int .i64 a0_3, .int .i64 a0_4, .int .i64 a0_5] 35 (0, 0)) (by (with_reducible repeat (first | refine blk_drewN ?_ _ | refine blk_drew ?_ | refine blk_alloc ?_ _)); exact BK412.out) hb); have n1_ := Aside0.mk (below_step (by repeat (first | (with_reducible first | exact HB.out | apply below_alloc | apply pw_below_drewN | apply below_drew1 | refine below_set ?_ GE412.out) | exact HB.out)) hb); clear BK412; clear HB; have BK412 := n0_; have HB := n1_; clear n0_ n1_; (try clear hb); (try clear hb2); (try clear hk); (try clear hi)))
                      go_ret
                      exact ⟨by first | rfl | (simp [errW_none, errW_some] <;> rfl) | (simp [*, errW_none, errW_some] <;> rfl), by repeat (first | (with_reducible first | exact HB.out | apply below_alloc | apply pw_below_drewN | apply below_drew1 | refine below_set ?_ GE412.out) | exact HB.out)⟩

end Go.Proofs.Ytiedehjmhlgicaa.PAll
