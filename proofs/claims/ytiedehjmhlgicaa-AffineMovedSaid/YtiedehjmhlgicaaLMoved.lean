/- The walk of the law AffineMoved: a call of it returns what its plain definition tells, and changes no block that was there before. -/
import Derived.Test.YtiedehjmhlgicaaN6
import Derived.Test.YtiedehjmhlgicaaN7
namespace Go.Proofs.Ytiedehjmhlgicaa.PAll
open Go.RowKit Go.Proofs.YtiedehjmhlgicaaW.PrintWords Go.Proofs.YtiedehjmhlgicaaW.PrintLast Go.Proofs.YtiedehjmhlgicaaW.PrintMore
attribute [local go_sem] max2_int min2_int max_two min_two max_three min_three max_four min_four   -- for this text's walks alone
attribute [local go_sem high] eqA23
set_option linter.unusedVariables false
set_option linter.unusedSimpArgs false

def biremelaw14_AffineMoved.T3 : Bool × List (List Nat × List Nat) := (true, [([], []), ([0], [0]), ([], []), ([2], [2]), ([], []), ([], []), ([4, 1, 0, 1, 4, 5], [1, 4]), ([5, 3, 6, 0, 1, 2, 3, 4, 5, 6], [3, 5])])
def biremelaw14_AffineMoved.B3 : List Nat := [0, 1, 0, 4, 0, 0, 51, 127]
theorem biremelaw14_AffineMoved.tab3 : rtab .any (opsOf Try.f12 3) = biremelaw14_AffineMoved.T3 := by kernel_rfl
theorem biremelaw14_AffineMoved.bits3 : waitsOk biremelaw14_AffineMoved.T3.2 biremelaw14_AffineMoved.B3 = true := by kernel_rfl
set_option maxHeartbeats 8000000 in
set_option maxRecDepth 100000 in
theorem biremelaw14_AffineMoved.calls (k : Nat) (a0_0 : Int) (a0_1 : Int) (a0_2 : Int) (a0_3 : Int) (a0_4 : Int) (a0_5 : Int) (a1 : Int) (a2 : Int) (r : Bool) (hr : r = true) (w : World) (h : biremelaw14_AffineMoved.f k a0_0 a0_1 a0_2 a0_3 a0_4 a0_5 a1 a2 = some r) :
    Calls Try.prog 12 #[.agg #[.int .i64 a0_0, .int .i64 a0_1, .int .i64 a0_2, .int .i64 a0_3, .int .i64 a0_4, .int .i64 a0_5], .int .i64 a1, .int .i64 a2] w fun e w' => e = .returned (.bool r) ∧ Below w.heap.size w w' := by
  have hu35 := Try.underlying35
  have hu33 := Try.underlying33
  have HB := Aside0.mk (Below.refl w.heap.size w)
  have H : (if a1 < (-2147483648) then (biremelaw14_AffineMoved.j0 k a1 a2 true a0_0 a0_1 a0_2 a0_3 a0_4 a0_5) else (biremelaw14_AffineMoved.j0 k a1 a2 (decide (a1 > 2147483648)) a0_0 a0_1 a0_2 a0_3 a0_4 a0_5)) = some r := h
  clear h
  have HC4 := Aside0.mk H
  clear H
  go_enter Try.func12, Try.ntmps12
  go_upto_region 1 with (first | ((with_reducible refine gate_dst (N := 3) rfl ?_); refine box_event ?hg (N := 3) ?hd (cs := #[.int .i64 a0_0, .int .i64 a0_1, .int .i64 a0_2, .int .i64 a0_3, .int .i64 a0_4, .int .i64 a0_5]) (t := 35) ?hr ?_; (case hd => rfl); (case hg => rfl); (case hr => first | (go_simp; done) | (go_simp; rfl)); intro gb380 hg w5 hbox hb; have n0_ := Aside0.mk (below_step (by repeat (first | (with_reducible first | exact HB.out | apply below_alloc | apply pw_below_drewN | apply below_drew1) | exact HB.out)) hb); have n1_ := Aside0.mk (hbox); have n2_ := Aside0.mk ((by rw [hg]; exact (below_size (by repeat (first | (with_reducible first | exact HB.out | apply below_alloc | apply pw_below_drewN | apply below_drew1) | exact HB.out))) : w.heap.size ≤ gb380)); have n3_ := Aside0.mk ((by rw [hg]; exact (below_size (by repeat (first | (with_reducible first | exact HB.out | apply below_alloc | apply pw_below_drewN | apply below_drew1) | exact HB.out))) : w.heap.size ≤ gb380)); clear HB; have HB := n0_; have BK380 := n1_; have GW380 := n2_; have GE380 := n3_; clear n0_ n1_ n2_ n3_; clear hb hbox hg))
  (try simp only [Act.put, List.setIfInBounds_toArray, List.set_cons_zero, List.set_cons_succ])
  go_cut [38] (fun v38 wc => ∃ (kq : Nat) (x38_3 : Bool), v38 = .bool x38_3 ∧ Aside0 (biremelaw14_AffineMoved.j0 kq a1 a2 x38_3 a0_0 a0_1 a0_2 a0_3 a0_4 a0_5 = some r) ∧ Aside0 (kq ≤ k) ∧ Aside0 (wc.heap[gb380]? = some (.cells #[.int .i64 a0_0, .int .i64 a0_1, .int .i64 a0_2, .int .i64 a0_3, .int .i64 a0_4, .int .i64 a0_5] 35 (0, 0))) ∧ Aside0 (Below w.heap.size w wc))
  case first =>
    have H := HC4.out
    clear HC4
    by_cases c6 : a1 < (-2147483648)
    · rw [if_pos c6] at H
      have c6b0 : decide (a1 < (-2147483648)) = true := decide_eq_true c6
      clear c6
      (first | rw [c6b0] | (simp only [i64_w, i32_w]; rw [c6b0]) | skip)
      have H' := Aside0.mk H
      clear H
      go_wp2
      go_meet
      case rel => exact ⟨_, (true), (by first | rfl | (simp; done) | (simp [*]; done)), H', ⟨by first | omega | exact Nat.le_refl _⟩, ⟨by (with_reducible repeat (first | refine blk_drewN ?_ _ | refine blk_drew ?_ | refine blk_alloc ?_ _)); exact BK380.out⟩, ⟨by repeat (first | (with_reducible first | exact HB.out | apply below_alloc | apply pw_below_drewN | apply below_drew1 | refine below_set ?_ GE380.out) | exact HB.out)⟩⟩
    · rw [if_neg c6] at H
      have c6b0 : decide (a1 < (-2147483648)) = false := decide_eq_false c6
      clear c6
      (first | rw [c6b0] | (simp only [i64_w, i32_w]; rw [c6b0]) | skip)
      have H' := Aside0.mk H
      clear H
      go_wp2
      go_meet
      case rel => exact ⟨_, (decide (a1 > 2147483648)), (by first | rfl | (simp; done) | (simp [*]; done)), H', ⟨by first | omega | exact Nat.le_refl _⟩, ⟨by (with_reducible repeat (first | refine blk_drewN ?_ _ | refine blk_drew ?_ | refine blk_alloc ?_ _)); exact BK380.out⟩, ⟨by repeat (first | (with_reducible first | exact HB.out | apply below_alloc | apply pw_below_drewN | apply below_drew1 | refine below_set ?_ GE380.out) | exact HB.out)⟩⟩
  case rest =>
    clear HC4
    try clear c1
    try clear p2
    try clear c6
    try clear c6b0
    obtain ⟨kq, x38_3, rfl, HA, HJ3, BK380, HB⟩ := hcut
    cases kq with
    | zero => exact absurd HA.out (by simp [biremelaw14_AffineMoved.j0])
    | succ kj3 =>
      have H := HA.out
      clear HA
      simp only [biremelaw14_AffineMoved.j0] at H
      by_cases c7 : x38_3 = true
      · subst c7
        have H1 : ((biremelaw14_alive.f kj3).bind fun t381 => (some t381)) = some r := by rw [if_pos rfl] at H; exact H
        clear H
        have H := H1
        clear H1
        replace H := Option.bind_eq_some_iff.mp H
        obtain ⟨t381, A80, H⟩ := H
        replace H : (some t381) = some r := H
        have A8 := Aside0.mk A80
        clear A80
        obtain rfl := Option.some.inj H
        go_wp2_with (first | ((with_reducible refine gate_callee (f := 16) rfl ?_); refine goesL_ (some 39) rfl rfl Try.func16 (by kernel_rfl) rfl #[] rfl (by (try simp only [List.map_toArray, List.map_cons, List.map_nil]); first | done | rfl | (simp only [List.length_drop, List.length_take]; rfl)) ?_; (with_reducible refine (biremelaw14_alive.calls kj3  t381 _ A8.out).mono ?_); rintro e w9 ⟨rfl, hb⟩; refine ⟨_, rfl, ?_⟩; have n0_ := Aside0.mk (blk_below (g := gb380) (o := .cells #[.int .i64 a0_0, .int .i64 a0_1, .int .i64 a0_2, .int .i64 a0_3, .int .i64 a0_4, .int .i64 a0_5] 35 (0, 0)) (by (with_reducible repeat (first | refine blk_drewN ?_ _ | refine blk_drew ?_ | refine blk_alloc ?_ _)); exact BK380.out) hb); have n1_ := Aside0.mk (below_step (by repeat (first | (with_reducible first | exact HB.out | apply below_alloc | apply pw_below_drewN | apply below_drew1 | refine below_set ?_ GE380.out) | exact HB.out)) hb); clear BK380; clear HB; have BK380 := n0_; have HB := n1_; clear n0_ n1_; (try clear hb); (try clear hb2); (try clear hk); (try clear hi)))
        go_ret
        exact ⟨by first | rfl | (simp [errW_none, errW_some] <;> rfl) | (simp [*, errW_none, errW_some] <;> rfl), by repeat (first | (with_reducible first | exact HB.out | apply below_alloc | apply pw_below_drewN | apply below_drew1 | refine below_set ?_ GE380.out) | exact HB.out)⟩
      · replace c7 := Bool.eq_false_iff.mpr c7
        subst c7
        have H1 : ((affine_Meet.f kj3 a0_0 a0_1 a0_2 a0_3 a0_4 a0_5).bind fun bt384 => (if bt384.2.2.2 = 0 then ((affine_Meet.f kj3 (wrap64 (a0_0 + a1)) a0_1 (wrap64 (a0_2 + a1)) a0_3 a0_4 a0_5).bind fun bt389 => (if bt389.2.2.2 = 0 then ((affine_Count.f kj3 a0_0 a0_1 a0_2 a0_3 a0_4 a0_5).bind fun bt394 => ((affine_Count.f kj3 (wrap64 (a0_0 + a1)) a0_1 (wrap64 (a0_2 + a1)) a0_3 a0_4 a0_5).bind fun bt396 => ((affine_Ahead.f kj3 a0_0 a0_1 a0_2 a0_3 a0_4 a2).bind fun bt398 => ((affine_Ahead.f kj3 (wrap64 (a0_0 + a1)) a0_1 (wrap64 (a0_2 + a1)) a0_3 a0_4 a2).bind fun bt401 => ((affine_Behind.f kj3 a0_0 a0_1 a0_2 a0_3 a0_4).bind fun bt404 => ((affine_Behind.f kj3 (wrap64 (a0_0 + a1)) a0_1 (wrap64 (a0_2 + a1)) a0_3 a0_4).bind fun bt407 => (if bt384.1 = bt389.1 then (if bt384.2.1 = bt389.2.1 then (if (bt384.2.2.1 == bt389.2.2.1) = true then (if bt394.1 = bt396.1 then (if bt394.2 = bt396.2 then (if bt398.1 = bt401.1 then (if (bt398.2.1 == bt401.2.1) = true then (if bt398.2.2 = bt401.2.2 then (if bt404.1 = bt407.1 then (if (bt404.2.1 == bt407.2.1) = true then (if bt404.2.2 = bt407.2.2 then ((biremelaw14_alive.f kj3).bind fun t410 => (some t410)) else (some false)) else (some false)) else (some false)) else (some false)) else (some false)) else (some false)) else (some false)) else (some false)) else (some false)) else (some false)) else (some false)))))))) else (if bt389.2.2.2 = 3 then ((biremelaw14_alive.f kj3).bind fun t393 => (some t393)) else (some false)))) else ((biremelaw14_alive.f kj3).bind fun t388 => (some t388)))) = some r := by rw [if_neg (show ¬ (false = true) by decide)] at H; exact H
        clear H
        have H := H1
        clear H1
        replace H := Option.bind_eq_some_iff.mp H
        obtain ⟨⟨t384, t385, t386, t387⟩, A100, H⟩ := H
        replace H : (if t387 = 0 then ((affine_Meet.f kj3 (wrap64 (a0_0 + a1)) a0_1 (wrap64 (a0_2 + a1)) a0_3 a0_4 a0_5).bind fun bt389 => (if bt389.2.2.2 = 0 then ((affine_Count.f kj3 a0_0 a0_1 a0_2 a0_3 a0_4 a0_5).bind fun bt394 => ((affine_Count.f kj3 (wrap64 (a0_0 + a1)) a0_1 (wrap64 (a0_2 + a1)) a0_3 a0_4 a0_5).bind fun bt396 => ((affine_Ahead.f kj3 a0_0 a0_1 a0_2 a0_3 a0_4 a2).bind fun bt398 => ((affine_Ahead.f kj3 (wrap64 (a0_0 + a1)) a0_1 (wrap64 (a0_2 + a1)) a0_3 a0_4 a2).bind fun bt401 => ((affine_Behind.f kj3 a0_0 a0_1 a0_2 a0_3 a0_4).bind fun bt404 => ((affine_Behind.f kj3 (wrap64 (a0_0 + a1)) a0_1 (wrap64 (a0_2 + a1)) a0_3 a0_4).bind fun bt407 => (if t384 = bt389.1 then (if t385 = bt389.2.1 then (if (t386 == bt389.2.2.1) = true then (if bt394.1 = bt396.1 then (if bt394.2 = bt396.2 then (if bt398.1 = bt401.1 then (if (bt398.2.1 == bt401.2.1) = true then (if bt398.2.2 = bt401.2.2 then (if bt404.1 = bt407.1 then (if (bt404.2.1 == bt407.2.1) = true then (if bt404.2.2 = bt407.2.2 then ((biremelaw14_alive.f kj3).bind fun t410 => (some t410)) else (some false)) else (some false)) else (some false)) else (some false)) else (some false)) else (some false)) else (some false)) else (some false)) else (some false)) else (some false)) else (some false)))))))) else (if bt389.2.2.2 = 3 then ((biremelaw14_alive.f kj3).bind fun t393 => (some t393)) else (some false)))) else ((biremelaw14_alive.f kj3).bind fun t388 => (some t388))) = some r := H
        have A10 := Aside0.mk A100
        clear A100
        by_cases c11 : t387 = 0
        · rw [if_pos c11] at H
          have c11b0 : (t387 == 0) = true := beq_iff_eq.mpr c11
          have c11b1 : (t387 != 0) = false := bne_eq_false_iff_eq.mpr c11
          clear c11
          replace H := Option.bind_eq_some_iff.mp H
          obtain ⟨⟨t389, t390, t391, t392⟩, A120, H⟩ := H
          replace H : (if t392 = 0 then ((affine_Count.f kj3 a0_0 a0_1 a0_2 a0_3 a0_4 a0_5).bind fun bt394 => ((affine_Count.f kj3 (wrap64 (a0_0 + a1)) a0_1 (wrap64 (a0_2 + a1)) a0_3 a0_4 a0_5).bind fun bt396 => ((affine_Ahead.f kj3 a0_0 a0_1 a0_2 a0_3 a0_4 a2).bind fun bt398 => ((affine_Ahead.f kj3 (wrap64 (a0_0 + a1)) a0_1 (wrap64 (a0_2 + a1)) a0_3 a0_4 a2).bind fun bt401 => ((affine_Behind.f kj3 a0_0 a0_1 a0_2 a0_3 a0_4).bind fun bt404 => ((affine_Behind.f kj3 (wrap64 (a0_0 + a1)) a0_1 (wrap64 (a0_2 + a1)) a0_3 a0_4).bind fun bt407 => (if t384 = t389 then (if t385 = t390 then (if (t386 == t391) = true then (if bt394.1 = bt396.1 then (if bt394.2 = bt396.2 then (if bt398.1 = bt401.1 then (if (bt398.2.1 == bt401.2.1) = true then (if bt398.2.2 = bt401.2.2 then (if bt404.1 = bt407.1 then (if (bt404.2.1 == bt407.2.1) = true then (if bt404.2.2 = bt407.2.2 then ((biremelaw14_alive.f kj3).bind fun t410 => (some t410)) else (some false)) else (some false)) else (some false)) else (some false)) else (some false)) else (some false)) else (some false)) else (some false)) else (some false)) else (some false)) else (some false)))))))) else (if t392 = 3 then ((biremelaw14_alive.f kj3).bind fun t393 => (some t393)) else (some false))) = some r := H
          have A12 := Aside0.mk A120
          clear A120
          by_cases c13 : t392 = 0
          · rw [if_pos c13] at H
            have c13b0 : (t392 == 0) = true := beq_iff_eq.mpr c13
            have c13b1 : (t392 != 0) = false := bne_eq_false_iff_eq.mpr c13
            clear c13
            replace H := Option.bind_eq_some_iff.mp H
            obtain ⟨⟨t394, t395⟩, A140, H⟩ := H
            replace H : ((affine_Count.f kj3 (wrap64 (a0_0 + a1)) a0_1 (wrap64 (a0_2 + a1)) a0_3 a0_4 a0_5).bind fun bt396 => ((affine_Ahead.f kj3 a0_0 a0_1 a0_2 a0_3 a0_4 a2).bind fun bt398 => ((affine_Ahead.f kj3 (wrap64 (a0_0 + a1)) a0_1 (wrap64 (a0_2 + a1)) a0_3 a0_4 a2).bind fun bt401 => ((affine_Behind.f kj3 a0_0 a0_1 a0_2 a0_3 a0_4).bind fun bt404 => ((affine_Behind.f kj3 (wrap64 (a0_0 + a1)) a0_1 (wrap64 (a0_2 + a1)) a0_3 a0_4).bind fun bt407 => (if t384 = t389 then (if t385 = t390 then (if (t386 == t391) = true then (if t394 = bt396.1 then (if t395 = bt396.2 then (if bt398.1 = bt401.1 then (if (bt398.2.1 == bt401.2.1) = true then (if bt398.2.2 = bt401.2.2 then (if bt404.1 = bt407.1 then (if (bt404.2.1 == bt407.2.1) = true then (if bt404.2.2 = bt407.2.2 then ((biremelaw14_alive.f kj3).bind fun t410 => (some t410)) else (some false)) else (some false)) else (some false)) else (some false)) else (some false)) else (some false)) else (some false)) else (some false)) else (some false)) else (some false)) else (some false))))))) = some r := H
            have A14 := Aside0.mk A140
            clear A140
            replace H := Option.bind_eq_some_iff.mp H
            obtain ⟨⟨t396, t397⟩, A150, H⟩ := H
            replace H : ((affine_Ahead.f kj3 a0_0 a0_1 a0_2 a0_3 a0_4 a2).bind fun bt398 => ((affine_Ahead.f kj3 (wrap64 (a0_0 + a1)) a0_1 (wrap64 (a0_2 + a1)) a0_3 a0_4 a2).bind fun bt401 => ((affine_Behind.f kj3 a0_0 a0_1 a0_2 a0_3 a0_4).bind fun bt404 => ((affine_Behind.f kj3 (wrap64 (a0_0 + a1)) a0_1 (wrap64 (a0_2 + a1)) a0_3 a0_4).bind fun bt407 => (if t384 = t389 then (if t385 = t390 then (if (t386 == t391) = true then (if t394 = t396 then (if t395 = t397 then (if bt398.1 = bt401.1 then (if (bt398.2.1 == bt401.2.1) = true then (if bt398.2.2 = bt401.2.2 then (if bt404.1 = bt407.1 then (if (bt404.2.1 == bt407.2.1) = true then (if bt404.2.2 = bt407.2.2 then ((biremelaw14_alive.f kj3).bind fun t410 => (some t410)) else (some false)) else (some false)) else (some false)) else (some false)) else (some false)) else (some false)) else (some false)) else (some false)) else (some false)) else (some false)) else (some false)))))) = some r := H
            have A15 := Aside0.mk A150
            clear A150
            replace H := Option.bind_eq_some_iff.mp H
            obtain ⟨⟨t398, t399, t400⟩, A160, H⟩ := H
            replace H : ((affine_Ahead.f kj3 (wrap64 (a0_0 + a1)) a0_1 (wrap64 (a0_2 + a1)) a0_3 a0_4 a2).bind fun bt401 => ((affine_Behind.f kj3 a0_0 a0_1 a0_2 a0_3 a0_4).bind fun bt404 => ((affine_Behind.f kj3 (wrap64 (a0_0 + a1)) a0_1 (wrap64 (a0_2 + a1)) a0_3 a0_4).bind fun bt407 => (if t384 = t389 then (if t385 = t390 then (if (t386 == t391) = true then (if t394 = t396 then (if t395 = t397 then (if t398 = bt401.1 then (if (t399 == bt401.2.1) = true then (if t400 = bt401.2.2 then (if bt404.1 = bt407.1 then (if (bt404.2.1 == bt407.2.1) = true then (if bt404.2.2 = bt407.2.2 then ((biremelaw14_alive.f kj3).bind fun t410 => (some t410)) else (some false)) else (some false)) else (some false)) else (some false)) else (some false)) else (some false)) else (some false)) else (some false)) else (some false)) else (some false)) else (some false))))) = some r := H
            have A16 := Aside0.mk A160
            clear A160
            replace H := Option.bind_eq_some_iff.mp H
            obtain ⟨⟨t401, t402, t403⟩, A170, H⟩ := H
            replace H : ((affine_Behind.f kj3 a0_0 a0_1 a0_2 a0_3 a0_4).bind fun bt404 => ((affine_Behind.f kj3 (wrap64 (a0_0 + a1)) a0_1 (wrap64 (a0_2 + a1)) a0_3 a0_4).bind fun bt407 => (if t384 = t389 then (if t385 = t390 then (if (t386 == t391) = true then (if t394 = t396 then (if t395 = t397 then (if t398 = t401 then (if (t399 == t402) = true then (if t400 = t403 then (if bt404.1 = bt407.1 then (if (bt404.2.1 == bt407.2.1) = true then (if bt404.2.2 = bt407.2.2 then ((biremelaw14_alive.f kj3).bind fun t410 => (some t410)) else (some false)) else (some false)) else (some false)) else (some false)) else (some false)) else (some false)) else (some false)) else (some false)) else (some false)) else (some false)) else (some false)))) = some r := H
            have A17 := Aside0.mk A170
            clear A170
            replace H := Option.bind_eq_some_iff.mp H
            obtain ⟨⟨t404, t405, t406⟩, A180, H⟩ := H
            replace H : ((affine_Behind.f kj3 (wrap64 (a0_0 + a1)) a0_1 (wrap64 (a0_2 + a1)) a0_3 a0_4).bind fun bt407 => (if t384 = t389 then (if t385 = t390 then (if (t386 == t391) = true then (if t394 = t396 then (if t395 = t397 then (if t398 = t401 then (if (t399 == t402) = true then (if t400 = t403 then (if t404 = bt407.1 then (if (t405 == bt407.2.1) = true then (if t406 = bt407.2.2 then ((biremelaw14_alive.f kj3).bind fun t410 => (some t410)) else (some false)) else (some false)) else (some false)) else (some false)) else (some false)) else (some false)) else (some false)) else (some false)) else (some false)) else (some false)) else (some false))) = some r := H
            have A18 := Aside0.mk A180
            clear A180
            replace H := Option.bind_eq_some_iff.mp H
            obtain ⟨⟨t407, t408, t409⟩, A190, H⟩ := H
            replace H : (if t384 = t389 then (if t385 = t390 then (if (t386 == t391) = true then (if t394 = t396 then (if t395 = t397 then (if t398 = t401 then (if (t399 == t402) = true then (if t400 = t403 then (if t404 = t407 then (if (t405 == t408) = true then (if t406 = t409 then ((biremelaw14_alive.f kj3).bind fun t410 => (some t410)) else (some false)) else (some false)) else (some false)) else (some false)) else (some false)) else (some false)) else (some false)) else (some false)) else (some false)) else (some false)) else (some false)) = some r := H
            have A19 := Aside0.mk A190
            clear A190
            by_cases c20 : t384 = t389
            · rw [if_pos c20] at H
              have c20b0 : (t384 == t389) = true := beq_iff_eq.mpr c20
              have c20b1 : (t384 != t389) = false := bne_eq_false_iff_eq.mpr c20
              clear c20
              by_cases c21 : t385 = t390
              · rw [if_pos c21] at H
                have c21b0 : (t385 == t390) = true := beq_iff_eq.mpr c21
                have c21b1 : (t385 != t390) = false := bne_eq_false_iff_eq.mpr c21
                clear c21
                by_cases c22 : (t386 == t391) = true
                · rw [if_pos c22] at H
                  have c22b0 : (t386 == t391) = true := c22
                  (try (have c22b1 : decide (t386 = t391) = true := by simpa using c22))
                  (try (have c22b2 : (t386 == t391) = true := by simpa using c22))
                  clear c22
                  by_cases c23 : t394 = t396
                  · rw [if_pos c23] at H
                    have c23b0 : (t394 == t396) = true := beq_iff_eq.mpr c23
                    have c23b1 : (t394 != t396) = false := bne_eq_false_iff_eq.mpr c23
                    clear c23
                    by_cases c24 : t395 = t397
                    · rw [if_pos c24] at H
                      have c24b0 : (t395 == t397) = true := beq_iff_eq.mpr c24
                      have c24b1 : (t395 != t397) = false := bne_eq_false_iff_eq.mpr c24
                      clear c24
                      by_cases c25 : t398 = t401
                      · rw [if_pos c25] at H
                        have c25b0 : (t398 == t401) = true := beq_iff_eq.mpr c25
                        have c25b1 : (t398 != t401) = false := bne_eq_false_iff_eq.mpr c25
                        clear c25
                        by_cases c26 : (t399 == t402) = true
                        · rw [if_pos c26] at H
                          have c26b0 : (t399 == t402) = true := c26
                          (try (have c26b1 : decide (t399 = t402) = true := by simpa using c26))
                          (try (have c26b2 : (t399 == t402) = true := by simpa using c26))
                          clear c26
                          by_cases c27 : t400 = t403
                          · rw [if_pos c27] at H
                            have c27b0 : (t400 == t403) = true := beq_iff_eq.mpr c27
                            have c27b1 : (t400 != t403) = false := bne_eq_false_iff_eq.mpr c27
                            clear c27
                            by_cases c28 : t404 = t407
                            · rw [if_pos c28] at H
                              have c28b0 : (t404 == t407) = true := beq_iff_eq.mpr c28
                              have c28b1 : (t404 != t407) = false := bne_eq_false_iff_eq.mpr c28
                              clear c28
                              by_cases c29 : (t405 == t408) = true
                              · rw [if_pos c29] at H
                                have c29b0 : (t405 == t408) = true := c29
                                (try (have c29b1 : decide (t405 = t408) = true := by simpa using c29))
                                (try (have c29b2 : (t405 == t408) = true := by simpa using c29))
                                clear c29
                                by_cases c30 : t406 = t409
                                · rw [if_pos c30] at H
                                  have c30b0 : (t406 == t409) = true := beq_iff_eq.mpr c30
                                  have c30b1 : (t406 != t409) = false := bne_eq_false_iff_eq.mpr c30
                                  clear c30
                                  replace H := Option.bind_eq_some_iff.mp H
                                  obtain ⟨t410, A310, H⟩ := H
                                  replace H : (some t410) = some r := H
                                  have A31 := Aside0.mk A310
                                  clear A310
                                  obtain rfl := Option.some.inj H
                                  try go_wp2
                                  have n0_ := Aside0.mk (blk_drew BK380.out)
                                  have n1_ := Aside0.mk (below_drew1 HB.out)
                                  clear BK380
                                  clear HB
                                  have BK380 := n0_
                                  have HB := n1_
                                  clear n0_ n1_
                                  refine start_ (n := 8) (S := fun w' => w'.cell? ⟨gb380, 0, none⟩ = some (.int .i64 a0_0) ∧ w'.cell? ⟨gb380, 1, none⟩ = some (.int .i64 a0_1) ∧ w'.cell? ⟨gb380, 2, none⟩ = some (.int .i64 a0_2) ∧ w'.cell? ⟨gb380, 3, none⟩ = some (.int .i64 a0_3) ∧ w'.cell? ⟨gb380, 4, none⟩ = some (.int .i64 a0_4) ∧ w'.cell? ⟨gb380, 5, none⟩ = some (.int .i64 a0_5)) (ds := []) #[false, false, false, false, false, false, false, false] (by kernel_rfl) rfl rfl ⟨(blk_cell BK380.out 0).trans rfl, (blk_cell BK380.out 1).trans rfl, (blk_cell BK380.out 2).trans rfl, (blk_cell BK380.out 3).trans rfl, (blk_cell BK380.out 4).trans rfl, (blk_cell BK380.out 5).trans rfl⟩ (fun hHeld => ?_); refine with_tabW biremelaw14_AffineMoved.tab3 biremelaw14_AffineMoved.bits3 (fun HT_ HW_ => ?_)
                                  generalize wc.drew = w32 at BK380 HB hHeld ⊢
                                  refine pure_ (i := 0) (N := some 40) (v := ?_) (a' := ?_) #[true, false, false, false, false, false, false, false] rfl rfl (any_of HT_.out (by kernel_rfl)) (fun _ _ _ h => h) (Or.inl ⟨by rfl, ?_⟩) ?_ ?_
                                  rotate_left
                                  · intro w'
                                    go_simp
                                    with_reducible rfl
                                  rotate_left
                                  · simp only [Act.put, List.setIfInBounds_toArray, List.set_cons_zero, List.set_cons_succ, i64_w, i32_w]
                                    rfl
                                  refine pure_ (i := 2) (N := some 42) (v := ?_) (a' := ?_) #[true, false, true, false, false, false, false, false] rfl rfl (any_of HT_.out (by kernel_rfl)) (fun _ _ _ h => h) (Or.inl ⟨by rfl, ?_⟩) ?_ ?_
                                  rotate_left
                                  · intro w'
                                    go_simp
                                    with_reducible rfl
                                  rotate_left
                                  · simp only [Act.put, List.setIfInBounds_toArray, List.set_cons_zero, List.set_cons_succ, i64_w, i32_w]
                                    rfl
                                  refine take_ (i := 1) (N := some 41) (v := ?_) (a' := ?_) #[true, true, true, false, false, false, false, false] rfl rfl (take_ofW HT_.out HW_.out (by kernel_rfl)) (fun _ _ _ h => h) (Or.inl ⟨by rfl, ?_⟩) hHeld ?_ ?_
                                  rotate_left
                                  · rintro w' ⟨s0, s1, s2, s3, s4, s5⟩
                                    go_simp
                                    with_reducible rfl
                                  rotate_left
                                  · simp only [Act.put, List.setIfInBounds_toArray, List.set_cons_zero, List.set_cons_succ, i64_w, i32_w]
                                    rfl
                                  refine take_ (i := 3) (N := some 43) (v := ?_) (a' := ?_) #[true, true, true, true, false, false, false, false] rfl rfl (take_ofW HT_.out HW_.out (by kernel_rfl)) (fun _ _ _ h => h) (Or.inl ⟨by rfl, ?_⟩) hHeld ?_ ?_
                                  rotate_left
                                  · rintro w' ⟨s0, s1, s2, s3, s4, s5⟩
                                    go_simp
                                    with_reducible rfl
                                  rotate_left
                                  · simp only [Act.put, List.setIfInBounds_toArray, List.set_cons_zero, List.set_cons_succ, i64_w, i32_w]
                                    rfl
                                  refine join_ (σ := Nat × Nat) 2 #[true, true, true, true, true, true, false, false] (fun s_ => [(7, .pointer (some ⟨s_.1, 0, none⟩)), (8, .pointer (some ⟨s_.2, 0, none⟩))]) (fun s_ w' => (w'.cell? ⟨gb380, 0, none⟩ = some (.int .i64 a0_0) ∧ w'.cell? ⟨gb380, 1, none⟩ = some (.int .i64 a0_1) ∧ w'.cell? ⟨gb380, 2, none⟩ = some (.int .i64 a0_2) ∧ w'.cell? ⟨gb380, 3, none⟩ = some (.int .i64 a0_3) ∧ w'.cell? ⟨gb380, 4, none⟩ = some (.int .i64 a0_4) ∧ w'.cell? ⟨gb380, 5, none⟩ = some (.int .i64 a0_5)) ∧ (w'.heap[gb380]? = some (.cells #[.int .i64 a0_0, .int .i64 a0_1, .int .i64 a0_2, .int .i64 a0_3, .int .i64 a0_4, .int .i64 a0_5] 35 (0, 0))) ∧ (w'.heap[s_.1]? = some (.cells #[.int .i64 0, .int .i64 0] 33 (0, 0))) ∧ (w'.heap[s_.2]? = some (.cells #[.int .i64 0, .int .i64 0] 33 (0, 0))) ∧ (w.heap.size ≤ s_.1) ∧ (w.heap.size ≤ s_.1) ∧ (gb380 ≠ s_.1) ∧ (s_.1 ≠ gb380) ∧ (s_.2 ≠ s_.1) ∧ (s_.1 ≠ s_.2) ∧ (w.heap.size ≤ s_.2) ∧ (w.heap.size ≤ s_.2) ∧ (gb380 ≠ s_.2) ∧ (s_.2 ≠ gb380) ∧ (Below w.heap.size w w')) ?_ ?_
                                  rotate_left
                                  · intro hCont
                                    refine two_ (i := 4) (j := 5) (Ni := some 7) (Nj := some 8) #[true, true, true, true, true, false, false, false] #[true, true, true, true, false, true, false, false] rfl rfl rfl rfl (two_of HT_.out (by kernel_rfl)) (by decide) (by decide) (fun K hK => ?_) (fun K hK => ?_)
                                    · skip
                                      refine box_step ?hg (N := 7) ?hd (cs := #[.int .i64 0, .int .i64 0]) (t := 33) ?hr ?_; (case hd => rfl); (case hg => rfl); (case hr => first | (go_simp; done) | (go_simp; rfl))
                                      intro gb382 hg w33 hbox hb
                                      have n0_ := Aside0.mk (blk_below (g := gb380) (o := .cells #[.int .i64 a0_0, .int .i64 a0_1, .int .i64 a0_2, .int .i64 a0_3, .int .i64 a0_4, .int .i64 a0_5] 35 (0, 0)) (by (with_reducible repeat (first | refine blk_drewN ?_ _ | refine blk_drew ?_ | refine blk_alloc ?_ _)); exact BK380.out) hb)
                                      have n1_ := Aside0.mk (below_step (by repeat (first | (with_reducible first | exact HB.out | apply below_alloc | apply pw_below_drewN | apply below_drew1 | refine below_set ?_ GE380.out) | exact HB.out)) hb)
                                      have n2_ := Aside0.mk (hbox)
                                      have n3_ := Aside0.mk ((by rw [hg]; exact (below_size (by repeat (first | (with_reducible first | exact HB.out | apply below_alloc | apply pw_below_drewN | apply below_drew1 | refine below_set ?_ GE380.out) | exact HB.out))) : w.heap.size ≤ gb382))
                                      have n4_ := Aside0.mk ((by rw [hg]; exact (below_size (by repeat (first | (with_reducible first | exact HB.out | apply below_alloc | apply pw_below_drewN | apply below_drew1 | refine below_set ?_ GE380.out) | exact HB.out))) : w.heap.size ≤ gb382))
                                      have n5_ := Aside0.mk ((by rw [hg]; exact Nat.ne_of_lt (blk_lt (g := gb380) (o := .cells #[.int .i64 a0_0, .int .i64 a0_1, .int .i64 a0_2, .int .i64 a0_3, .int .i64 a0_4, .int .i64 a0_5] 35 (0, 0)) (by (with_reducible repeat (first | refine blk_drewN ?_ _ | refine blk_drew ?_ | refine blk_alloc ?_ _)); exact BK380.out)) : gb380 ≠ gb382))
                                      have n6_ := Aside0.mk ((by rw [hg]; exact Nat.ne_of_gt (blk_lt (g := gb380) (o := .cells #[.int .i64 a0_0, .int .i64 a0_1, .int .i64 a0_2, .int .i64 a0_3, .int .i64 a0_4, .int .i64 a0_5] 35 (0, 0)) (by (with_reducible repeat (first | refine blk_drewN ?_ _ | refine blk_drew ?_ | refine blk_alloc ?_ _)); exact BK380.out)) : gb382 ≠ gb380))
                                      clear BK380
                                      clear HB
                                      have BK380 := n0_
                                      have HB := n1_
                                      have BK382 := n2_
                                      have GW382 := n3_
                                      have GE382 := n4_
                                      have NB380_382 := n5_
                                      have NB382_380 := n6_
                                      clear n0_ n1_ n2_ n3_ n4_ n5_ n6_
                                      clear hb hbox hg
                                      refine hK.out _ _ ⟨(blk_cell BK380.out 0).trans rfl, (blk_cell BK380.out 1).trans rfl, (blk_cell BK380.out 2).trans rfl, (blk_cell BK380.out 3).trans rfl, (blk_cell BK380.out 4).trans rfl, (blk_cell BK380.out 5).trans rfl⟩ (fun hHeld => ?_)
                                      clear hK K
                                      refine norm_ (a' := ?_) ?_ ?_
                                      rotate_left
                                      · show Act.put _ (some 7) _ = _
                                        simp only [Act.put, List.setIfInBounds_toArray, List.set_cons_zero, List.set_cons_succ, i64_w, i32_w]
                                        rfl
                                      refine one_ (i := 5) (N := some 8) #[true, true, true, true, true, true, false, false] rfl rfl (one_of HT_.out (by kernel_rfl)) (by decide) (fun K hK => ?_)
                                      refine box_step ?hg (N := 8) ?hd (cs := #[.int .i64 0, .int .i64 0]) (t := 33) ?hr ?_; (case hd => rfl); (case hg => rfl); (case hr => first | (go_simp; done) | (go_simp; rfl))
                                      intro gb383 hg w34 hbox hb
                                      have n0_ := Aside0.mk (blk_below (g := gb380) (o := .cells #[.int .i64 a0_0, .int .i64 a0_1, .int .i64 a0_2, .int .i64 a0_3, .int .i64 a0_4, .int .i64 a0_5] 35 (0, 0)) (by (with_reducible repeat (first | refine blk_drewN ?_ _ | refine blk_drew ?_ | refine blk_alloc ?_ _)); exact BK380.out) hb)
                                      have n1_ := Aside0.mk (blk_below (g := gb382) (o := .cells #[.int .i64 0, .int .i64 0] 33 (0, 0)) (by (with_reducible repeat (first | refine blk_drewN ?_ _ | refine blk_drew ?_ | refine blk_alloc ?_ _)); exact BK382.out) hb)
                                      have n2_ := Aside0.mk (below_step (by repeat (first | (with_reducible first | exact HB.out | apply below_alloc | apply pw_below_drewN | apply below_drew1 | refine below_set ?_ GE380.out | refine below_set ?_ GE382.out) | exact HB.out)) hb)
                                      have n3_ := Aside0.mk (hbox)
                                      have n4_ := Aside0.mk ((by rw [hg]; exact (below_size (by repeat (first | (with_reducible first | exact HB.out | apply below_alloc | apply pw_below_drewN | apply below_drew1 | refine below_set ?_ GE380.out | refine below_set ?_ GE382.out) | exact HB.out))) : w.heap.size ≤ gb383))
                                      have n5_ := Aside0.mk ((by rw [hg]; exact (below_size (by repeat (first | (with_reducible first | exact HB.out | apply below_alloc | apply pw_below_drewN | apply below_drew1 | refine below_set ?_ GE380.out | refine below_set ?_ GE382.out) | exact HB.out))) : w.heap.size ≤ gb383))
                                      have n6_ := Aside0.mk ((by rw [hg]; exact Nat.ne_of_lt (blk_lt (g := gb380) (o := .cells #[.int .i64 a0_0, .int .i64 a0_1, .int .i64 a0_2, .int .i64 a0_3, .int .i64 a0_4, .int .i64 a0_5] 35 (0, 0)) (by (with_reducible repeat (first | refine blk_drewN ?_ _ | refine blk_drew ?_ | refine blk_alloc ?_ _)); exact BK380.out)) : gb380 ≠ gb383))
                                      have n7_ := Aside0.mk ((by rw [hg]; exact Nat.ne_of_gt (blk_lt (g := gb380) (o := .cells #[.int .i64 a0_0, .int .i64 a0_1, .int .i64 a0_2, .int .i64 a0_3, .int .i64 a0_4, .int .i64 a0_5] 35 (0, 0)) (by (with_reducible repeat (first | refine blk_drewN ?_ _ | refine blk_drew ?_ | refine blk_alloc ?_ _)); exact BK380.out)) : gb383 ≠ gb380))
                                      have n8_ := Aside0.mk ((by rw [hg]; exact Nat.ne_of_lt (blk_lt (g := gb382) (o := .cells #[.int .i64 0, .int .i64 0] 33 (0, 0)) (by (with_reducible repeat (first | refine blk_drewN ?_ _ | refine blk_drew ?_ | refine blk_alloc ?_ _)); exact BK382.out)) : gb382 ≠ gb383))
                                      have n9_ := Aside0.mk ((by rw [hg]; exact Nat.ne_of_gt (blk_lt (g := gb382) (o := .cells #[.int .i64 0, .int .i64 0] 33 (0, 0)) (by (with_reducible repeat (first | refine blk_drewN ?_ _ | refine blk_drew ?_ | refine blk_alloc ?_ _)); exact BK382.out)) : gb383 ≠ gb382))
                                      clear BK380
                                      clear BK382
                                      clear HB
                                      have BK380 := n0_
                                      have BK382 := n1_
                                      have HB := n2_
                                      have BK383 := n3_
                                      have GW383 := n4_
                                      have GE383 := n5_
                                      have NB380_383 := n6_
                                      have NB383_380 := n7_
                                      have NB382_383 := n8_
                                      have NB383_382 := n9_
                                      clear n0_ n1_ n2_ n3_ n4_ n5_ n6_ n7_ n8_ n9_
                                      clear hb hbox hg
                                      refine hK.out _ _ ⟨(blk_cell BK380.out 0).trans rfl, (blk_cell BK380.out 1).trans rfl, (blk_cell BK380.out 2).trans rfl, (blk_cell BK380.out 3).trans rfl, (blk_cell BK380.out 4).trans rfl, (blk_cell BK380.out 5).trans rfl⟩ (fun hHeld => ?_)
                                      clear hK K
                                      refine norm_ (a' := ?_) ?_ ?_
                                      rotate_left
                                      · show Act.put _ (some 8) _ = _
                                        simp only [Act.put, List.setIfInBounds_toArray, List.set_cons_zero, List.set_cons_succ, i64_w, i32_w]
                                        rfl
                                      exact norm_ (by simp only [putAll, Act.put, List.setIfInBounds_toArray, List.set_cons_zero, List.set_cons_succ]) (hCont (gb382, gb383) _ ⟨hHeld, (by (with_reducible repeat (first | refine blk_drewN ?_ _ | refine blk_drew ?_ | refine blk_alloc ?_ _)); exact BK380.out), (by (with_reducible repeat (first | refine blk_drewN ?_ _ | refine blk_drew ?_ | refine blk_alloc ?_ _)); exact BK382.out), (by (with_reducible repeat (first | refine blk_drewN ?_ _ | refine blk_drew ?_ | refine blk_alloc ?_ _)); exact BK383.out), GW382.out, GE382.out, NB380_382.out, NB382_380.out, NB383_382.out, NB382_383.out, GW383.out, GE383.out, NB380_383.out, NB383_380.out, (by repeat (first | (with_reducible first | exact HB.out | apply below_alloc | apply pw_below_drewN | apply below_drew1 | refine below_set ?_ GE380.out | refine below_set ?_ GE382.out | refine below_set ?_ GE383.out) | exact HB.out))⟩)
                                    · skip
                                      refine box_step ?hg (N := 8) ?hd (cs := #[.int .i64 0, .int .i64 0]) (t := 33) ?hr ?_; (case hd => rfl); (case hg => rfl); (case hr => first | (go_simp; done) | (go_simp; rfl))
                                      intro gb383 hg w33 hbox hb
                                      have n0_ := Aside0.mk (blk_below (g := gb380) (o := .cells #[.int .i64 a0_0, .int .i64 a0_1, .int .i64 a0_2, .int .i64 a0_3, .int .i64 a0_4, .int .i64 a0_5] 35 (0, 0)) (by (with_reducible repeat (first | refine blk_drewN ?_ _ | refine blk_drew ?_ | refine blk_alloc ?_ _)); exact BK380.out) hb)
                                      have n1_ := Aside0.mk (below_step (by repeat (first | (with_reducible first | exact HB.out | apply below_alloc | apply pw_below_drewN | apply below_drew1 | refine below_set ?_ GE380.out) | exact HB.out)) hb)
                                      have n2_ := Aside0.mk (hbox)
                                      have n3_ := Aside0.mk ((by rw [hg]; exact (below_size (by repeat (first | (with_reducible first | exact HB.out | apply below_alloc | apply pw_below_drewN | apply below_drew1 | refine below_set ?_ GE380.out) | exact HB.out))) : w.heap.size ≤ gb383))
                                      have n4_ := Aside0.mk ((by rw [hg]; exact (below_size (by repeat (first | (with_reducible first | exact HB.out | apply below_alloc | apply pw_below_drewN | apply below_drew1 | refine below_set ?_ GE380.out) | exact HB.out))) : w.heap.size ≤ gb383))
                                      have n5_ := Aside0.mk ((by rw [hg]; exact Nat.ne_of_lt (blk_lt (g := gb380) (o := .cells #[.int .i64 a0_0, .int .i64 a0_1, .int .i64 a0_2, .int .i64 a0_3, .int .i64 a0_4, .int .i64 a0_5] 35 (0, 0)) (by (with_reducible repeat (first | refine blk_drewN ?_ _ | refine blk_drew ?_ | refine blk_alloc ?_ _)); exact BK380.out)) : gb380 ≠ gb383))
                                      have n6_ := Aside0.mk ((by rw [hg]; exact Nat.ne_of_gt (blk_lt (g := gb380) (o := .cells #[.int .i64 a0_0, .int .i64 a0_1, .int .i64 a0_2, .int .i64 a0_3, .int .i64 a0_4, .int .i64 a0_5] 35 (0, 0)) (by (with_reducible repeat (first | refine blk_drewN ?_ _ | refine blk_drew ?_ | refine blk_alloc ?_ _)); exact BK380.out)) : gb383 ≠ gb380))
                                      clear BK380
                                      clear HB
                                      have BK380 := n0_
                                      have HB := n1_
                                      have BK383 := n2_
                                      have GW383 := n3_
                                      have GE383 := n4_
                                      have NB380_383 := n5_
                                      have NB383_380 := n6_
                                      clear n0_ n1_ n2_ n3_ n4_ n5_ n6_
                                      clear hb hbox hg
                                      refine hK.out _ _ ⟨(blk_cell BK380.out 0).trans rfl, (blk_cell BK380.out 1).trans rfl, (blk_cell BK380.out 2).trans rfl, (blk_cell BK380.out 3).trans rfl, (blk_cell BK380.out 4).trans rfl, (blk_cell BK380.out 5).trans rfl⟩ (fun hHeld => ?_)
                                      clear hK K
                                      refine norm_ (a' := ?_) ?_ ?_
                                      rotate_left
                                      · show Act.put _ (some 8) _ = _
                                        simp only [Act.put, List.setIfInBounds_toArray, List.set_cons_zero, List.set_cons_succ, i64_w, i32_w]
                                        rfl
                                      refine one_ (i := 4) (N := some 7) #[true, true, true, true, true, true, false, false] rfl rfl (one_of HT_.out (by kernel_rfl)) (by decide) (fun K hK => ?_)
                                      refine box_step ?hg (N := 7) ?hd (cs := #[.int .i64 0, .int .i64 0]) (t := 33) ?hr ?_; (case hd => rfl); (case hg => rfl); (case hr => first | (go_simp; done) | (go_simp; rfl))
                                      intro gb382 hg w34 hbox hb
                                      have n0_ := Aside0.mk (blk_below (g := gb380) (o := .cells #[.int .i64 a0_0, .int .i64 a0_1, .int .i64 a0_2, .int .i64 a0_3, .int .i64 a0_4, .int .i64 a0_5] 35 (0, 0)) (by (with_reducible repeat (first | refine blk_drewN ?_ _ | refine blk_drew ?_ | refine blk_alloc ?_ _)); exact BK380.out) hb)
                                      have n1_ := Aside0.mk (blk_below (g := gb383) (o := .cells #[.int .i64 0, .int .i64 0] 33 (0, 0)) (by (with_reducible repeat (first | refine blk_drewN ?_ _ | refine blk_drew ?_ | refine blk_alloc ?_ _)); exact BK383.out) hb)
                                      have n2_ := Aside0.mk (below_step (by repeat (first | (with_reducible first | exact HB.out | apply below_alloc | apply pw_below_drewN | apply below_drew1 | refine below_set ?_ GE380.out | refine below_set ?_ GE383.out) | exact HB.out)) hb)
                                      have n3_ := Aside0.mk (hbox)
                                      have n4_ := Aside0.mk ((by rw [hg]; exact (below_size (by repeat (first | (with_reducible first | exact HB.out | apply below_alloc | apply pw_below_drewN | apply below_drew1 | refine below_set ?_ GE380.out | refine below_set ?_ GE383.out) | exact HB.out))) : w.heap.size ≤ gb382))
                                      have n5_ := Aside0.mk ((by rw [hg]; exact (below_size (by repeat (first | (with_reducible first | exact HB.out | apply below_alloc | apply pw_below_drewN | apply below_drew1 | refine below_set ?_ GE380.out | refine below_set ?_ GE383.out) | exact HB.out))) : w.heap.size ≤ gb382))
                                      have n6_ := Aside0.mk ((by rw [hg]; exact Nat.ne_of_lt (blk_lt (g := gb380) (o := .cells #[.int .i64 a0_0, .int .i64 a0_1, .int .i64 a0_2, .int .i64 a0_3, .int .i64 a0_4, .int .i64 a0_5] 35 (0, 0)) (by (with_reducible repeat (first | refine blk_drewN ?_ _ | refine blk_drew ?_ | refine blk_alloc ?_ _)); exact BK380.out)) : gb380 ≠ gb382))
                                      have n7_ := Aside0.mk ((by rw [hg]; exact Nat.ne_of_gt (blk_lt (g := gb380) (o := .cells #[.int .i64 a0_0, .int .i64 a0_1, .int .i64 a0_2, .int .i64 a0_3, .int .i64 a0_4, .int .i64 a0_5] 35 (0, 0)) (by (with_reducible repeat (first | refine blk_drewN ?_ _ | refine blk_drew ?_ | refine blk_alloc ?_ _)); exact BK380.out)) : gb382 ≠ gb380))
                                      have n8_ := Aside0.mk ((by rw [hg]; exact Nat.ne_of_lt (blk_lt (g := gb383) (o := .cells #[.int .i64 0, .int .i64 0] 33 (0, 0)) (by (with_reducible repeat (first | refine blk_drewN ?_ _ | refine blk_drew ?_ | refine blk_alloc ?_ _)); exact BK383.out)) : gb383 ≠ gb382))
                                      have n9_ := Aside0.mk ((by rw [hg]; exact Nat.ne_of_gt (blk_lt (g := gb383) (o := .cells #[.int .i64 0, .int .i64 0] 33 (0, 0)) (by (with_reducible repeat (first | refine blk_drewN ?_ _ | refine blk_drew ?_ | refine blk_alloc ?_ _)); exact BK383.out)) : gb382 ≠ gb383))
                                      clear BK380
                                      clear BK383
                                      clear HB
                                      have BK380 := n0_
                                      have BK383 := n1_
                                      have HB := n2_
                                      have BK382 := n3_
                                      have GW382 := n4_
                                      have GE382 := n5_
                                      have NB380_382 := n6_
                                      have NB382_380 := n7_
                                      have NB383_382 := n8_
                                      have NB382_383 := n9_
                                      clear n0_ n1_ n2_ n3_ n4_ n5_ n6_ n7_ n8_ n9_
                                      clear hb hbox hg
                                      refine hK.out _ _ ⟨(blk_cell BK380.out 0).trans rfl, (blk_cell BK380.out 1).trans rfl, (blk_cell BK380.out 2).trans rfl, (blk_cell BK380.out 3).trans rfl, (blk_cell BK380.out 4).trans rfl, (blk_cell BK380.out 5).trans rfl⟩ (fun hHeld => ?_)
                                      clear hK K
                                      refine norm_ (a' := ?_) ?_ ?_
                                      rotate_left
                                      · show Act.put _ (some 7) _ = _
                                        simp only [Act.put, List.setIfInBounds_toArray, List.set_cons_zero, List.set_cons_succ, i64_w, i32_w]
                                        rfl
                                      exact norm_ (by simp only [putAll, Act.put, List.setIfInBounds_toArray, List.set_cons_zero, List.set_cons_succ]) (hCont (gb382, gb383) _ ⟨hHeld, (by (with_reducible repeat (first | refine blk_drewN ?_ _ | refine blk_drew ?_ | refine blk_alloc ?_ _)); exact BK380.out), (by (with_reducible repeat (first | refine blk_drewN ?_ _ | refine blk_drew ?_ | refine blk_alloc ?_ _)); exact BK382.out), (by (with_reducible repeat (first | refine blk_drewN ?_ _ | refine blk_drew ?_ | refine blk_alloc ?_ _)); exact BK383.out), GW382.out, GE382.out, NB380_382.out, NB382_380.out, NB383_382.out, NB382_383.out, GW383.out, GE383.out, NB380_383.out, NB383_380.out, (by repeat (first | (with_reducible first | exact HB.out | apply below_alloc | apply pw_below_drewN | apply below_drew1 | refine below_set ?_ GE380.out | refine below_set ?_ GE383.out | refine below_set ?_ GE382.out) | exact HB.out))⟩)
                                  rintro ⟨gb382, gb383⟩ w35 ⟨hS_, h0_, h1_, h2_, h3_, h4_, h5_, h6_, h7_, h8_, h9_, h10_, h11_, h12_, h13_⟩
                                  have n0_ : Aside0 (w35.heap[gb380]? = some (.cells #[.int .i64 a0_0, .int .i64 a0_1, .int .i64 a0_2, .int .i64 a0_3, .int .i64 a0_4, .int .i64 a0_5] 35 (0, 0))) := ⟨h0_⟩
                                  have n1_ : Aside0 (w35.heap[gb382]? = some (.cells #[.int .i64 0, .int .i64 0] 33 (0, 0))) := ⟨h1_⟩
                                  have n2_ : Aside0 (w35.heap[gb383]? = some (.cells #[.int .i64 0, .int .i64 0] 33 (0, 0))) := ⟨h2_⟩
                                  have n3_ : Aside0 (w.heap.size ≤ gb382) := ⟨h3_⟩
                                  have n4_ : Aside0 (w.heap.size ≤ gb382) := ⟨h4_⟩
                                  have n5_ : Aside0 (gb380 ≠ gb382) := ⟨h5_⟩
                                  have n6_ : Aside0 (gb382 ≠ gb380) := ⟨h6_⟩
                                  have n7_ : Aside0 (gb383 ≠ gb382) := ⟨h7_⟩
                                  have n8_ : Aside0 (gb382 ≠ gb383) := ⟨h8_⟩
                                  have n9_ : Aside0 (w.heap.size ≤ gb383) := ⟨h9_⟩
                                  have n10_ : Aside0 (w.heap.size ≤ gb383) := ⟨h10_⟩
                                  have n11_ : Aside0 (gb380 ≠ gb383) := ⟨h11_⟩
                                  have n12_ : Aside0 (gb383 ≠ gb380) := ⟨h12_⟩
                                  have n13_ : Aside0 (Below w.heap.size w w35) := ⟨h13_⟩
                                  clear BK380
                                  clear HB
                                  clear h0_ h1_ h2_ h3_ h4_ h5_ h6_ h7_ h8_ h9_ h10_ h11_ h12_ h13_
                                  have BK380 := n0_
                                  have BK382 := n1_
                                  have BK383 := n2_
                                  have GW382 := n3_
                                  have GE382 := n4_
                                  have NB380_382 := n5_
                                  have NB382_380 := n6_
                                  have NB383_382 := n7_
                                  have NB382_383 := n8_
                                  have GW383 := n9_
                                  have GE383 := n10_
                                  have NB380_383 := n11_
                                  have NB383_380 := n12_
                                  have HB := n13_
                                  clear n0_ n1_ n2_ n3_ n4_ n5_ n6_ n7_ n8_ n9_ n10_ n11_ n12_ n13_
                                  have hHeld : w35.cell? ⟨gb380, 0, none⟩ = some (.int .i64 a0_0) ∧ w35.cell? ⟨gb380, 1, none⟩ = some (.int .i64 a0_1) ∧ w35.cell? ⟨gb380, 2, none⟩ = some (.int .i64 a0_2) ∧ w35.cell? ⟨gb380, 3, none⟩ = some (.int .i64 a0_3) ∧ w35.cell? ⟨gb380, 4, none⟩ = some (.int .i64 a0_4) ∧ w35.cell? ⟨gb380, 5, none⟩ = some (.int .i64 a0_5) := hS_
                                  refine norm_ (a' := ?_) ?_ ?_
                                  rotate_left
                                  · simp only [putAll, Act.put, List.setIfInBounds_toArray, List.set_cons_zero, List.set_cons_succ]
                                    rfl
                                  refine one_ (i := 6) (N := none) #[true, true, true, true, true, true, true, false] rfl rfl (one_of HT_.out (by kernel_rfl)) (by decide) (fun K hK => ?_)
                                  have hs36 : w35.cell? ⟨gb382, 0, none⟩ = some (.int .i64 0) := (blk_cell BK382.out 0).trans rfl
                                  have hfs36 := blk_frozen BK382.out 0
                                  have hns36_0 := NB380_382.out
                                  have hns36_2 := NB383_382.out
                                  have hms36_0 := NB382_380.out
                                  have hms36_2 := NB382_383.out
                                  have hs37 : w35.cell? ⟨gb382, 1, none⟩ = some (.int .i64 0) := (blk_cell BK382.out 1).trans rfl
                                  have hfs37 := blk_frozen BK382.out 1
                                  have hns37_0 := NB380_382.out
                                  have hns37_2 := NB383_382.out
                                  have hms37_0 := NB382_380.out
                                  have hms37_2 := NB382_383.out
                                  refine skip_ (w1 := ?_) (by rfl) rfl ?_ ?_
                                  rotate_left
                                  · go_simp
                                    rfl
                                  refine hK.out _ _ ⟨((cell_far (p := ⟨gb382, _, none⟩) NB380_382.out _).trans (((cell_far (p := ⟨gb382, _, none⟩) NB380_382.out _).trans (hHeld.1)))), ((cell_far (p := ⟨gb382, _, none⟩) NB380_382.out _).trans (((cell_far (p := ⟨gb382, _, none⟩) NB380_382.out _).trans (hHeld.2.1)))), ((cell_far (p := ⟨gb382, _, none⟩) NB380_382.out _).trans (((cell_far (p := ⟨gb382, _, none⟩) NB380_382.out _).trans (hHeld.2.2.1)))), ((cell_far (p := ⟨gb382, _, none⟩) NB380_382.out _).trans (((cell_far (p := ⟨gb382, _, none⟩) NB380_382.out _).trans (hHeld.2.2.2.1)))), ((cell_far (p := ⟨gb382, _, none⟩) NB380_382.out _).trans (((cell_far (p := ⟨gb382, _, none⟩) NB380_382.out _).trans (hHeld.2.2.2.2.1)))), ((cell_far (p := ⟨gb382, _, none⟩) NB380_382.out _).trans (((cell_far (p := ⟨gb382, _, none⟩) NB380_382.out _).trans (hHeld.2.2.2.2.2))))⟩ (fun hHeld => ?_)
                                  clear hK K
                                  refine one_ (i := 7) (N := none) #[true, true, true, true, true, true, true, true] rfl rfl (one_of HT_.out (by kernel_rfl)) (by decide) (fun K hK => ?_)
                                  have hs38 : w35.cell? ⟨gb383, 0, none⟩ = some (.int .i64 0) := (blk_cell BK383.out 0).trans rfl
                                  have hfs38 := blk_frozen BK383.out 0
                                  have hns38_0 := NB380_383.out
                                  have hns38_1 := NB382_383.out
                                  have hms38_0 := NB383_380.out
                                  have hms38_1 := NB383_382.out
                                  have hs39 : w35.cell? ⟨gb383, 1, none⟩ = some (.int .i64 0) := (blk_cell BK383.out 1).trans rfl
                                  have hfs39 := blk_frozen BK383.out 1
                                  have hns39_0 := NB380_383.out
                                  have hns39_1 := NB382_383.out
                                  have hms39_0 := NB383_380.out
                                  have hms39_1 := NB383_382.out
                                  refine skip_ (w1 := ?_) (by rfl) rfl ?_ ?_
                                  rotate_left
                                  · go_simp
                                    rfl
                                  refine hK.out _ _ ⟨((cell_far (p := ⟨gb383, _, none⟩) NB380_383.out _).trans (((cell_far (p := ⟨gb383, _, none⟩) NB380_383.out _).trans (hHeld.1)))), ((cell_far (p := ⟨gb383, _, none⟩) NB380_383.out _).trans (((cell_far (p := ⟨gb383, _, none⟩) NB380_383.out _).trans (hHeld.2.1)))), ((cell_far (p := ⟨gb383, _, none⟩) NB380_383.out _).trans (((cell_far (p := ⟨gb383, _, none⟩) NB380_383.out _).trans (hHeld.2.2.1)))), ((cell_far (p := ⟨gb383, _, none⟩) NB380_383.out _).trans (((cell_far (p := ⟨gb383, _, none⟩) NB380_383.out _).trans (hHeld.2.2.2.1)))), ((cell_far (p := ⟨gb383, _, none⟩) NB380_383.out _).trans (((cell_far (p := ⟨gb383, _, none⟩) NB380_383.out _).trans (hHeld.2.2.2.2.1)))), ((cell_far (p := ⟨gb383, _, none⟩) NB380_383.out _).trans (((cell_far (p := ⟨gb383, _, none⟩) NB380_383.out _).trans (hHeld.2.2.2.2.2))))⟩ (fun hHeld => ?_)
                                  clear hK K
                                  refine done_ (done_of HT_.out (by kernel_rfl)) ?_
                                  have hnb40 := NB382_380.out
                                  have hnc40 := NB380_382.out
                                  have hnb41 := NB382_383.out
                                  have hnc41 := NB383_382.out
                                  have hcz42_0 : w35.cell? ⟨gb382, 0, none⟩ = some (.int .i64 0) := (blk_cell BK382.out 0).trans rfl
                                  have hcz42_1 : w35.cell? ⟨gb382, 1, none⟩ = some (.int .i64 0) := (blk_cell BK382.out 1).trans rfl
                                  have hfz42_0 := blk_frozen BK382.out 0
                                  have hfz42_1 := blk_frozen BK382.out 1
                                  have hnb43 := NB383_380.out
                                  have hnc43 := NB380_383.out
                                  have hcz44_0 : w35.cell? ⟨gb383, 0, none⟩ = some (.int .i64 0) := (blk_cell BK383.out 0).trans rfl
                                  have hcz44_1 : w35.cell? ⟨gb383, 1, none⟩ = some (.int .i64 0) := (blk_cell BK383.out 1).trans rfl
                                  have hfz44_0 := blk_frozen BK383.out 0
                                  have hfz44_1 := blk_frozen BK383.out 1
                                  have hcz45_0 : w35.cell? ⟨gb380, 0, none⟩ = some (.int .i64 a0_0) := (blk_cell BK380.out 0).trans rfl
                                  have hcz45_1 : w35.cell? ⟨gb380, 1, none⟩ = some (.int .i64 a0_1) := (blk_cell BK380.out 1).trans rfl
                                  have hcz45_2 : w35.cell? ⟨gb380, 2, none⟩ = some (.int .i64 a0_2) := (blk_cell BK380.out 2).trans rfl
                                  have hcz45_3 : w35.cell? ⟨gb380, 3, none⟩ = some (.int .i64 a0_3) := (blk_cell BK380.out 3).trans rfl
                                  have hcz45_4 : w35.cell? ⟨gb380, 4, none⟩ = some (.int .i64 a0_4) := (blk_cell BK380.out 4).trans rfl
                                  have hcz45_5 : w35.cell? ⟨gb380, 5, none⟩ = some (.int .i64 a0_5) := (blk_cell BK380.out 5).trans rfl
                                  have hfz45_0 := blk_frozen BK380.out 0
                                  have hfz45_1 := blk_frozen BK380.out 1
                                  have hfz45_2 := blk_frozen BK380.out 2
                                  have hfz45_3 := blk_frozen BK380.out 3
                                  have hfz45_4 := blk_frozen BK380.out 4
                                  have hfz45_5 := blk_frozen BK380.out 5
                                  try go_wp2_with (first | ((with_reducible refine gate_callee (f := 27) rfl ?_); refine goesL_ (some 51) rfl rfl Try.func27 (by kernel_rfl) rfl #[.agg #[.int .i64 a0_0, .int .i64 a0_1], .agg #[.int .i64 a0_2, .int .i64 a0_3], .int .i64 a0_4, .int .i64 a0_5] rfl (by (try simp only [List.map_toArray, List.map_cons, List.map_nil]); first | done | rfl | (simp only [List.length_drop, List.length_take]; rfl)) ?_; (with_reducible refine (affine_Meet.calls kj3 a0_0 a0_1 a0_2 a0_3 a0_4 a0_5 t384 t385 t386 t387 _ A10.out).mono ?_); rintro e w46 ⟨rfl, hb⟩; refine ⟨_, rfl, ?_⟩; have n0_ := Aside0.mk (blk_below (g := gb380) (o := .cells #[.int .i64 a0_0, .int .i64 a0_1, .int .i64 a0_2, .int .i64 a0_3, .int .i64 a0_4, .int .i64 a0_5] 35 (0, 0)) (by (with_reducible repeat (first | refine blk_drewN ?_ _ | refine blk_drew ?_ | refine blk_alloc ?_ _)); refine blk_far ?_ NB380_383.out _; (with_reducible repeat (first | refine blk_drewN ?_ _ | refine blk_drew ?_ | refine blk_alloc ?_ _)); refine blk_far ?_ NB380_383.out _; (with_reducible repeat (first | refine blk_drewN ?_ _ | refine blk_drew ?_ | refine blk_alloc ?_ _)); refine blk_far ?_ NB380_382.out _; (with_reducible repeat (first | refine blk_drewN ?_ _ | refine blk_drew ?_ | refine blk_alloc ?_ _)); refine blk_far ?_ NB380_382.out _; (with_reducible repeat (first | refine blk_drewN ?_ _ | refine blk_drew ?_ | refine blk_alloc ?_ _)); exact BK380.out) hb); have n1_ := Aside0.mk (blk_below (g := gb382) (o := .cells #[.int .i64 a0_0, .int .i64 a0_1] 33 (0, 0)) (by (with_reducible repeat (first | refine blk_drewN ?_ _ | refine blk_drew ?_ | refine blk_alloc ?_ _)); refine blk_far ?_ NB382_383.out _; (with_reducible repeat (first | refine blk_drewN ?_ _ | refine blk_drew ?_ | refine blk_alloc ?_ _)); refine blk_far ?_ NB382_383.out _; (with_reducible repeat (first | refine blk_drewN ?_ _ | refine blk_drew ?_ | refine blk_alloc ?_ _)); refine blk_put (cs := #[.int .i64 a0_0, .int .i64 0]) ?_ 1 _ rfl; (with_reducible repeat (first | refine blk_drewN ?_ _ | refine blk_drew ?_ | refine blk_alloc ?_ _)); refine blk_put (cs := #[.int .i64 0, .int .i64 0]) ?_ 0 _ rfl; (with_reducible repeat (first | refine blk_drewN ?_ _ | refine blk_drew ?_ | refine blk_alloc ?_ _)); exact BK382.out) hb); have n2_ := Aside0.mk (blk_below (g := gb383) (o := .cells #[.int .i64 a0_2, .int .i64 a0_3] 33 (0, 0)) (by (with_reducible repeat (first | refine blk_drewN ?_ _ | refine blk_drew ?_ | refine blk_alloc ?_ _)); refine blk_put (cs := #[.int .i64 a0_2, .int .i64 0]) ?_ 1 _ rfl; (with_reducible repeat (first | refine blk_drewN ?_ _ | refine blk_drew ?_ | refine blk_alloc ?_ _)); refine blk_put (cs := #[.int .i64 0, .int .i64 0]) ?_ 0 _ rfl; (with_reducible repeat (first | refine blk_drewN ?_ _ | refine blk_drew ?_ | refine blk_alloc ?_ _)); refine blk_far ?_ NB383_382.out _; (with_reducible repeat (first | refine blk_drewN ?_ _ | refine blk_drew ?_ | refine blk_alloc ?_ _)); refine blk_far ?_ NB383_382.out _; (with_reducible repeat (first | refine blk_drewN ?_ _ | refine blk_drew ?_ | refine blk_alloc ?_ _)); exact BK383.out) hb); have n3_ := Aside0.mk (below_step (by repeat (first | (with_reducible first | exact HB.out | apply below_alloc | apply pw_below_drewN | apply below_drew1 | refine below_set ?_ GE380.out | refine below_set ?_ GE382.out | refine below_set ?_ GE383.out) | exact HB.out)) hb); clear BK380; clear BK382; clear BK383; clear HB; have BK380 := n0_; have BK382 := n1_; have BK383 := n2_; have HB := n3_; clear n0_ n1_ n2_ n3_; (try clear hb); (try clear hb2); (try clear hk); (try clear hi); have hcz47_0 : w46.cell? ⟨gb382, 0, none⟩ = some (.int .i64 a0_0) := (blk_cell BK382.out 0).trans rfl; have hcz47_1 : w46.cell? ⟨gb382, 1, none⟩ = some (.int .i64 a0_1) := (blk_cell BK382.out 1).trans rfl; have hfz47_0 := blk_frozen BK382.out 0; have hfz47_1 := blk_frozen BK382.out 1; have hcz48_0 : w46.cell? ⟨gb383, 0, none⟩ = some (.int .i64 a0_2) := (blk_cell BK383.out 0).trans rfl; have hcz48_1 : w46.cell? ⟨gb383, 1, none⟩ = some (.int .i64 a0_3) := (blk_cell BK383.out 1).trans rfl; have hfz48_0 := blk_frozen BK383.out 0; have hfz48_1 := blk_frozen BK383.out 1; have hcz49_0 : w46.cell? ⟨gb380, 0, none⟩ = some (.int .i64 a0_0) := (blk_cell BK380.out 0).trans rfl; have hcz49_1 : w46.cell? ⟨gb380, 1, none⟩ = some (.int .i64 a0_1) := (blk_cell BK380.out 1).trans rfl; have hcz49_2 : w46.cell? ⟨gb380, 2, none⟩ = some (.int .i64 a0_2) := (blk_cell BK380.out 2).trans rfl; have hcz49_3 : w46.cell? ⟨gb380, 3, none⟩ = some (.int .i64 a0_3) := (blk_cell BK380.out 3).trans rfl; have hcz49_4 : w46.cell? ⟨gb380, 4, none⟩ = some (.int .i64 a0_4) := (blk_cell BK380.out 4).trans rfl; have hcz49_5 : w46.cell? ⟨gb380, 5, none⟩ = some (.int .i64 a0_5) := (blk_cell BK380.out 5).trans rfl; have hfz49_0 := blk_frozen BK380.out 0; have hfz49_1 := blk_frozen BK380.out 1; have hfz49_2 := blk_frozen BK380.out 2; have hfz49_3 := blk_frozen BK380.out 3; have hfz49_4 := blk_frozen BK380.out 4; have hfz49_5 := blk_frozen BK380.out 5) | ((with_reducible refine gate_callee (f := 27) rfl ?_); refine goesL_ (some 76) rfl rfl Try.func27 (by kernel_rfl) rfl #[.agg #[.int .i64 (wrap64 (a0_0 + a1)), .int .i64 a0_1], .agg #[.int .i64 (wrap64 (a0_2 + a1)), .int .i64 a0_3], .int .i64 a0_4, .int .i64 a0_5] rfl (by (try simp only [List.map_toArray, List.map_cons, List.map_nil]); first | done | rfl | (simp only [List.length_drop, List.length_take]; rfl)) ?_; (with_reducible refine (affine_Meet.calls kj3 (wrap64 (a0_0 + a1)) a0_1 (wrap64 (a0_2 + a1)) a0_3 a0_4 a0_5 t389 t390 t391 t392 _ A12.out).mono ?_); rintro e w50 ⟨rfl, hb⟩; refine ⟨_, rfl, ?_⟩; have n0_ := Aside0.mk (blk_below (g := gb380) (o := .cells #[.int .i64 a0_0, .int .i64 a0_1, .int .i64 a0_2, .int .i64 a0_3, .int .i64 a0_4, .int .i64 a0_5] 35 (0, 0)) (by (with_reducible repeat (first | refine blk_drewN ?_ _ | refine blk_drew ?_ | refine blk_alloc ?_ _)); refine blk_far ?_ NB380_383.out _; (with_reducible repeat (first | refine blk_drewN ?_ _ | refine blk_drew ?_ | refine blk_alloc ?_ _)); refine blk_far ?_ NB380_382.out _; (with_reducible repeat (first | refine blk_drewN ?_ _ | refine blk_drew ?_ | refine blk_alloc ?_ _)); exact BK380.out) hb); have n1_ := Aside0.mk (blk_below (g := gb382) (o := .cells #[.int .i64 (wrap64 (a0_0 + a1)), .int .i64 a0_1] 33 (0, 0)) (by (with_reducible repeat (first | refine blk_drewN ?_ _ | refine blk_drew ?_ | refine blk_alloc ?_ _)); refine blk_far ?_ NB382_383.out _; (with_reducible repeat (first | refine blk_drewN ?_ _ | refine blk_drew ?_ | refine blk_alloc ?_ _)); refine blk_put (cs := #[.int .i64 a0_0, .int .i64 a0_1]) ?_ 0 _ rfl; (with_reducible repeat (first | refine blk_drewN ?_ _ | refine blk_drew ?_ | refine blk_alloc ?_ _)); exact BK382.out) hb); have n2_ := Aside0.mk (blk_below (g := gb383) (o := .cells #[.int .i64 (wrap64 (a0_2 + a1)), .int .i64 a0_3] 33 (0, 0)) (by (with_reducible repeat (first | refine blk_drewN ?_ _ | refine blk_drew ?_ | refine blk_alloc ?_ _)); refine blk_put (cs := #[.int .i64 a0_2, .int .i64 a0_3]) ?_ 0 _ rfl; (with_reducible repeat (first | refine blk_drewN ?_ _ | refine blk_drew ?_ | refine blk_alloc ?_ _)); refine blk_far ?_ NB383_382.out _; (with_reducible repeat (first | refine blk_drewN ?_ _ | refine blk_drew ?_ | refine blk_alloc ?_ _)); exact BK383.out) hb); have n3_ := Aside0.mk (below_step (by repeat (first | (with_reducible first | exact HB.out | apply below_alloc | apply pw_below_drewN | apply below_drew1 | refine below_set ?_ GE380.out | refine below_set ?_ GE382.out | refine below_set ?_ GE383.out) | exact HB.out)) hb); clear BK380; clear BK382; clear BK383; clear HB; have BK380 := n0_; have BK382 := n1_; have BK383 := n2_; have HB := n3_; clear n0_ n1_ n2_ n3_; (try clear hb); (try clear hb2); (try clear hk); (try clear hi); have hcz51_0 : w50.cell? ⟨gb380, 0, none⟩ = some (.int .i64 a0_0) := (blk_cell BK380.out 0).trans rfl; have hcz51_1 : w50.cell? ⟨gb380, 1, none⟩ = some (.int .i64 a0_1) := (blk_cell BK380.out 1).trans rfl; have hcz51_2 : w50.cell? ⟨gb380, 2, none⟩ = some (.int .i64 a0_2) := (blk_cell BK380.out 2).trans rfl; have hcz51_3 : w50.cell? ⟨gb380, 3, none⟩ = some (.int .i64 a0_3) := (blk_cell BK380.out 3).trans rfl; have hcz51_4 : w50.cell? ⟨gb380, 4, none⟩ = some (.int .i64 a0_4) := (blk_cell BK380.out 4).trans rfl; have hcz51_5 : w50.cell? ⟨gb380, 5, none⟩ = some (.int .i64 a0_5) := (blk_cell BK380.out 5).trans rfl; have hfz51_0 := blk_frozen BK380.out 0; have hfz51_1 := blk_frozen BK380.out 1; have hfz51_2 := blk_frozen BK380.out 2; have hfz51_3 := blk_frozen BK380.out 3; have hfz51_4 := blk_frozen BK380.out 4; have hfz51_5 := blk_frozen BK380.out 5) | ((with_reducible refine gate_callee (f := 28) rfl ?_); refine goesL_ (some 97) rfl rfl Try.func28 (by kernel_rfl) rfl #[.agg #[.int .i64 a0_0, .int .i64 a0_1], .agg #[.int .i64 a0_2, .int .i64 a0_3], .int .i64 a0_4, .int .i64 a0_5] rfl (by (try simp only [List.map_toArray, List.map_cons, List.map_nil]); first | done | rfl | (simp only [List.length_drop, List.length_take]; rfl)) ?_; (with_reducible refine (affine_Count.calls kj3 a0_0 a0_1 a0_2 a0_3 a0_4 a0_5 t394 t395 _ A14.out).mono ?_); rintro e w52 ⟨rfl, hb⟩; refine ⟨_, rfl, ?_⟩; have n0_ := Aside0.mk (blk_below (g := gb380) (o := .cells #[.int .i64 a0_0, .int .i64 a0_1, .int .i64 a0_2, .int .i64 a0_3, .int .i64 a0_4, .int .i64 a0_5] 35 (0, 0)) (by (with_reducible repeat (first | refine blk_drewN ?_ _ | refine blk_drew ?_ | refine blk_alloc ?_ _)); exact BK380.out) hb); have n1_ := Aside0.mk (blk_below (g := gb382) (o := .cells #[.int .i64 (wrap64 (a0_0 + a1)), .int .i64 a0_1] 33 (0, 0)) (by (with_reducible repeat (first | refine blk_drewN ?_ _ | refine blk_drew ?_ | refine blk_alloc ?_ _)); exact BK382.out) hb); have n2_ := Aside0.mk (blk_below (g := gb383) (o := .cells #[.int .i64 (wrap64 (a0_2 + a1)), .int .i64 a0_3] 33 (0, 0)) (by (with_reducible repeat (first | refine blk_drewN ?_ _ | refine blk_drew ?_ | refine blk_alloc ?_ _)); exact BK383.out) hb); have n3_ := Aside0.mk (below_step (by repeat (first | (with_reducible first | exact HB.out | apply below_alloc | apply pw_below_drewN | apply below_drew1 | refine below_set ?_ GE380.out | refine below_set ?_ GE382.out | refine below_set ?_ GE383.out) | exact HB.out)) hb); clear BK380; clear BK382; clear BK383; clear HB; have BK380 := n0_; have BK382 := n1_; have BK383 := n2_; have HB := n3_; clear n0_ n1_ n2_ n3_; (try clear hb); (try clear hb2); (try clear hk); (try clear hi); have hcz53_0 : w52.cell? ⟨gb382, 0, none⟩ = some (.int .i64 (wrap64 (a0_0 + a1))) := (blk_cell BK382.out 0).trans rfl; have hcz53_1 : w52.cell? ⟨gb382, 1, none⟩ = some (.int .i64 a0_1) := (blk_cell BK382.out 1).trans rfl; have hfz53_0 := blk_frozen BK382.out 0; have hfz53_1 := blk_frozen BK382.out 1; have hcz54_0 : w52.cell? ⟨gb383, 0, none⟩ = some (.int .i64 (wrap64 (a0_2 + a1))) := (blk_cell BK383.out 0).trans rfl; have hcz54_1 : w52.cell? ⟨gb383, 1, none⟩ = some (.int .i64 a0_3) := (blk_cell BK383.out 1).trans rfl; have hfz54_0 := blk_frozen BK383.out 0; have hfz54_1 := blk_frozen BK383.out 1; have hcz55_0 : w52.cell? ⟨gb380, 0, none⟩ = some (.int .i64 a0_0) := (blk_cell BK380.out 0).trans rfl; have hcz55_1 : w52.cell? ⟨gb380, 1, none⟩ = some (.int .i64 a0_1) := (blk_cell BK380.out 1).trans rfl; have hcz55_2 : w52.cell? ⟨gb380, 2, none⟩ = some (.int .i64 a0_2) := (blk_cell BK380.out 2).trans rfl; have hcz55_3 : w52.cell? ⟨gb380, 3, none⟩ = some (.int .i64 a0_3) := (blk_cell BK380.out 3).trans rfl; have hcz55_4 : w52.cell? ⟨gb380, 4, none⟩ = some (.int .i64 a0_4) := (blk_cell BK380.out 4).trans rfl; have hcz55_5 : w52.cell? ⟨gb380, 5, none⟩ = some (.int .i64 a0_5) := (blk_cell BK380.out 5).trans rfl; have hfz55_0 := blk_frozen BK380.out 0; have hfz55_1 := blk_frozen BK380.out 1; have hfz55_2 := blk_frozen BK380.out 2; have hfz55_3 := blk_frozen BK380.out 3; have hfz55_4 := blk_frozen BK380.out 4; have hfz55_5 := blk_frozen BK380.out 5) | ((with_reducible refine gate_callee (f := 28) rfl ?_); refine goesL_ (some 107) rfl rfl Try.func28 (by kernel_rfl) rfl #[.agg #[.int .i64 (wrap64 (a0_0 + a1)), .int .i64 a0_1], .agg #[.int .i64 (wrap64 (a0_2 + a1)), .int .i64 a0_3], .int .i64 a0_4, .int .i64 a0_5] rfl (by (try simp only [List.map_toArray, List.map_cons, List.map_nil]); first | done | rfl | (simp only [List.length_drop, List.length_take]; rfl)) ?_; (with_reducible refine (affine_Count.calls kj3 (wrap64 (a0_0 + a1)) a0_1 (wrap64 (a0_2 + a1)) a0_3 a0_4 a0_5 t396 t397 _ A15.out).mono ?_); rintro e w56 ⟨rfl, hb⟩; refine ⟨_, rfl, ?_⟩; have n0_ := Aside0.mk (blk_below (g := gb380) (o := .cells #[.int .i64 a0_0, .int .i64 a0_1, .int .i64 a0_2, .int .i64 a0_3, .int .i64 a0_4, .int .i64 a0_5] 35 (0, 0)) (by (with_reducible repeat (first | refine blk_drewN ?_ _ | refine blk_drew ?_ | refine blk_alloc ?_ _)); exact BK380.out) hb); have n1_ := Aside0.mk (blk_below (g := gb382) (o := .cells #[.int .i64 (wrap64 (a0_0 + a1)), .int .i64 a0_1] 33 (0, 0)) (by (with_reducible repeat (first | refine blk_drewN ?_ _ | refine blk_drew ?_ | refine blk_alloc ?_ _)); exact BK382.out) hb); have n2_ := Aside0.mk (blk_below (g := gb383) (o := .cells #[.int .i64 (wrap64 (a0_2 + a1)), .int .i64 a0_3] 33 (0, 0)) (by (with_reducible repeat (first | refine blk_drewN ?_ _ | refine blk_drew ?_ | refine blk_alloc ?_ _)); exact BK383.out) hb); have n3_ := Aside0.mk (below_step (by repeat (first | (with_reducible first | exact HB.out | apply below_alloc | apply pw_below_drewN | apply below_drew1 | refine below_set ?_ GE380.out | refine below_set ?_ GE382.out | refine below_set ?_ GE383.out) | exact HB.out)) hb); clear BK380; clear BK382; clear BK383; clear HB; have BK380 := n0_; have BK382 := n1_; have BK383 := n2_; have HB := n3_; clear n0_ n1_ n2_ n3_; (try clear hb); (try clear hb2); (try clear hk); (try clear hi); have hcz57_0 : w56.cell? ⟨gb380, 0, none⟩ = some (.int .i64 a0_0) := (blk_cell BK380.out 0).trans rfl; have hcz57_1 : w56.cell? ⟨gb380, 1, none⟩ = some (.int .i64 a0_1) := (blk_cell BK380.out 1).trans rfl; have hcz57_2 : w56.cell? ⟨gb380, 2, none⟩ = some (.int .i64 a0_2) := (blk_cell BK380.out 2).trans rfl; have hcz57_3 : w56.cell? ⟨gb380, 3, none⟩ = some (.int .i64 a0_3) := (blk_cell BK380.out 3).trans rfl; have hcz57_4 : w56.cell? ⟨gb380, 4, none⟩ = some (.int .i64 a0_4) := (blk_cell BK380.out 4).trans rfl; have hcz57_5 : w56.cell? ⟨gb380, 5, none⟩ = some (.int .i64 a0_5) := (blk_cell BK380.out 5).trans rfl; have hfz57_0 := blk_frozen BK380.out 0; have hfz57_1 := blk_frozen BK380.out 1; have hfz57_2 := blk_frozen BK380.out 2; have hfz57_3 := blk_frozen BK380.out 3; have hfz57_4 := blk_frozen BK380.out 4; have hfz57_5 := blk_frozen BK380.out 5) | ((with_reducible refine gate_callee (f := 18) rfl ?_); refine goesL_ (some 118) rfl rfl Try.func18 (by kernel_rfl) rfl #[.agg #[.int .i64 a0_0, .int .i64 a0_1], .agg #[.int .i64 a0_2, .int .i64 a0_3], .int .i64 a0_4, .int .i64 a2] rfl (by (try simp only [List.map_toArray, List.map_cons, List.map_nil]); first | done | rfl | (simp only [List.length_drop, List.length_take]; rfl)) ?_; (with_reducible refine (affine_Ahead.calls kj3 a0_0 a0_1 a0_2 a0_3 a0_4 a2 t398 t399 t400 _ A16.out).mono ?_); rintro e w58 ⟨rfl, hb⟩; refine ⟨_, rfl, ?_⟩; have n0_ := Aside0.mk (blk_below (g := gb380) (o := .cells #[.int .i64 a0_0, .int .i64 a0_1, .int .i64 a0_2, .int .i64 a0_3, .int .i64 a0_4, .int .i64 a0_5] 35 (0, 0)) (by (with_reducible repeat (first | refine blk_drewN ?_ _ | refine blk_drew ?_ | refine blk_alloc ?_ _)); exact BK380.out) hb); have n1_ := Aside0.mk (blk_below (g := gb382) (o := .cells #[.int .i64 (wrap64 (a0_0 + a1)), .int .i64 a0_1] 33 (0, 0)) (by (with_reducible repeat (first | refine blk_drewN ?_ _ | refine blk_drew ?_ | refine blk_alloc ?_ _)); exact BK382.out) hb); have n2_ := Aside0.mk (blk_below (g := gb383) (o := .cells #[.int .i64 (wrap64 (a0_2 + a1)), .int .i64 a0_3] 33 (0, 0)) (by (with_reducible repeat (first | refine blk_drewN ?_ _ | refine blk_drew ?_ | refine blk_alloc ?_ _)); exact BK383.out) hb); have n3_ := Aside0.mk (below_step (by repeat (first | (with_reducible first | exact HB.out | apply below_alloc | apply pw_below_drewN | apply below_drew1 | refine below_set ?_ GE380.out | refine below_set ?_ GE382.out | refine below_set ?_ GE383.out) | exact HB.out)) hb); clear BK380; clear BK382; clear BK383; clear HB; have BK380 := n0_; have BK382 := n1_; have BK383 := n2_; have HB := n3_; clear n0_ n1_ n2_ n3_; (try clear hb); (try clear hb2); (try clear hk); (try clear hi); have hcz59_0 : w58.cell? ⟨gb382, 0, none⟩ = some (.int .i64 (wrap64 (a0_0 + a1))) := (blk_cell BK382.out 0).trans rfl; have hcz59_1 : w58.cell? ⟨gb382, 1, none⟩ = some (.int .i64 a0_1) := (blk_cell BK382.out 1).trans rfl; have hfz59_0 := blk_frozen BK382.out 0; have hfz59_1 := blk_frozen BK382.out 1; have hcz60_0 : w58.cell? ⟨gb383, 0, none⟩ = some (.int .i64 (wrap64 (a0_2 + a1))) := (blk_cell BK383.out 0).trans rfl; have hcz60_1 : w58.cell? ⟨gb383, 1, none⟩ = some (.int .i64 a0_3) := (blk_cell BK383.out 1).trans rfl; have hfz60_0 := blk_frozen BK383.out 0; have hfz60_1 := blk_frozen BK383.out 1; have hcz61_0 : w58.cell? ⟨gb380, 0, none⟩ = some (.int .i64 a0_0) := (blk_cell BK380.out 0).trans rfl; have hcz61_1 : w58.cell? ⟨gb380, 1, none⟩ = some (.int .i64 a0_1) := (blk_cell BK380.out 1).trans rfl; have hcz61_2 : w58.cell? ⟨gb380, 2, none⟩ = some (.int .i64 a0_2) := (blk_cell BK380.out 2).trans rfl; have hcz61_3 : w58.cell? ⟨gb380, 3, none⟩ = some (.int .i64 a0_3) := (blk_cell BK380.out 3).trans rfl; have hcz61_4 : w58.cell? ⟨gb380, 4, none⟩ = some (.int .i64 a0_4) := (blk_cell BK380.out 4).trans rfl; have hcz61_5 : w58.cell? ⟨gb380, 5, none⟩ = some (.int .i64 a0_5) := (blk_cell BK380.out 5).trans rfl; have hfz61_0 := blk_frozen BK380.out 0; have hfz61_1 := blk_frozen BK380.out 1; have hfz61_2 := blk_frozen BK380.out 2; have hfz61_3 := blk_frozen BK380.out 3; have hfz61_4 := blk_frozen BK380.out 4; have hfz61_5 := blk_frozen BK380.out 5) | ((with_reducible refine gate_callee (f := 18) rfl ?_); refine goesL_ (some 128) rfl rfl Try.func18 (by kernel_rfl) rfl #[.agg #[.int .i64 (wrap64 (a0_0 + a1)), .int .i64 a0_1], .agg #[.int .i64 (wrap64 (a0_2 + a1)), .int .i64 a0_3], .int .i64 a0_4, .int .i64 a2] rfl (by (try simp only [List.map_toArray, List.map_cons, List.map_nil]); first | done | rfl | (simp only [List.length_drop, List.length_take]; rfl)) ?_; (with_reducible refine (affine_Ahead.calls kj3 (wrap64 (a0_0 + a1)) a0_1 (wrap64 (a0_2 + a1)) a0_3 a0_4 a2 t401 t402 t403 _ A17.out).mono ?_); rintro e w62 ⟨rfl, hb⟩; refine ⟨_, rfl, ?_⟩; have n0_ := Aside0.mk (blk_below (g := gb380) (o := .cells #[.int .i64 a0_0, .int .i64 a0_1, .int .i64 a0_2, .int .i64 a0_3, .int .i64 a0_4, .int .i64 a0_5] 35 (0, 0)) (by (with_reducible repeat (first | refine blk_drewN ?_ _ | refine blk_drew ?_ | refine blk_alloc ?_ _)); exact BK380.out) hb); have n1_ := Aside0.mk (blk_below (g := gb382) (o := .cells #[.int .i64 (wrap64 (a0_0 + a1)), .int .i64 a0_1] 33 (0, 0)) (by (with_reducible repeat (first | refine blk_drewN ?_ _ | refine blk_drew ?_ | refine blk_alloc ?_ _)); exact BK382.out) hb); have n2_ := Aside0.mk (blk_below (g := gb383) (o := .cells #[.int .i64 (wrap64 (a0_2 + a1)), .int .i64 a0_3] 33 (0, 0)) (by (with_reducible repeat (first | refine blk_drewN ?_ _ | refine blk_drew ?_ | refine blk_alloc ?_ _)); exact BK383.out) hb); have n3_ := Aside0.mk (below_step (by repeat (first | (with_reducible first | exact HB.out | apply below_alloc | apply pw_below_drewN | apply below_drew1 | refine below_set ?_ GE380.out | refine below_set ?_ GE382.out | refine below_set ?_ GE383.out) | exact HB.out)) hb); clear BK380; clear BK382; clear BK383; clear HB; have BK380 := n0_; have BK382 := n1_; have BK383 := n2_; have HB := n3_; clear n0_ n1_ n2_ n3_; (try clear hb); (try clear hb2); (try clear hk); (try clear hi); have hcz63_0 : w62.cell? ⟨gb380, 0, none⟩ = some (.int .i64 a0_0) := (blk_cell BK380.out 0).trans rfl; have hcz63_1 : w62.cell? ⟨gb380, 1, none⟩ = some (.int .i64 a0_1) := (blk_cell BK380.out 1).trans rfl; have hcz63_2 : w62.cell? ⟨gb380, 2, none⟩ = some (.int .i64 a0_2) := (blk_cell BK380.out 2).trans rfl; have hcz63_3 : w62.cell? ⟨gb380, 3, none⟩ = some (.int .i64 a0_3) := (blk_cell BK380.out 3).trans rfl; have hcz63_4 : w62.cell? ⟨gb380, 4, none⟩ = some (.int .i64 a0_4) := (blk_cell BK380.out 4).trans rfl; have hcz63_5 : w62.cell? ⟨gb380, 5, none⟩ = some (.int .i64 a0_5) := (blk_cell BK380.out 5).trans rfl; have hfz63_0 := blk_frozen BK380.out 0; have hfz63_1 := blk_frozen BK380.out 1; have hfz63_2 := blk_frozen BK380.out 2; have hfz63_3 := blk_frozen BK380.out 3; have hfz63_4 := blk_frozen BK380.out 4; have hfz63_5 := blk_frozen BK380.out 5) | ((with_reducible refine gate_callee (f := 19) rfl ?_); refine goesL_ (some 139) rfl rfl Try.func19 (by kernel_rfl) rfl #[.agg #[.int .i64 a0_0, .int .i64 a0_1], .agg #[.int .i64 a0_2, .int .i64 a0_3], .int .i64 a0_4] rfl (by (try simp only [List.map_toArray, List.map_cons, List.map_nil]); first | done | rfl | (simp only [List.length_drop, List.length_take]; rfl)) ?_; (with_reducible refine (affine_Behind.calls kj3 a0_0 a0_1 a0_2 a0_3 a0_4 t404 t405 t406 _ A18.out).mono ?_); rintro e w64 ⟨rfl, hb⟩; refine ⟨_, rfl, ?_⟩; have n0_ := Aside0.mk (blk_below (g := gb380) (o := .cells #[.int .i64 a0_0, .int .i64 a0_1, .int .i64 a0_2, .int .i64 a0_3, .int .i64 a0_4, .int .i64 a0_5] 35 (0, 0)) (by (with_reducible repeat (first | refine blk_drewN ?_ _ | refine blk_drew ?_ | refine blk_alloc ?_ _)); exact BK380.out) hb); have n1_ := Aside0.mk (blk_below (g := gb382) (o := .cells #[.int .i64 (wrap64 (a0_0 + a1)), .int .i64 a0_1] 33 (0, 0)) (by (with_reducible repeat (first | refine blk_drewN ?_ _ | refine blk_drew ?_ | refine blk_alloc ?_ _)); exact BK382.out) hb); have n2_ := Aside0.mk (blk_below (g := gb383) (o := .cells #[.int .i64 (wrap64 (a0_2 + a1)), .int .i64 a0_3] 33 (0, 0)) (by (with_reducible repeat (first | refine blk_drewN ?_ _ | refine blk_drew ?_ | refine blk_alloc ?_ _)); exact BK383.out) hb); have n3_ := Aside0.mk (below_step (by repeat (first | (with_reducible first | exact HB.out | apply below_alloc | apply pw_below_drewN | apply below_drew1 | refine below_set ?_ GE380.out | refine below_set ?_ GE382.out | refine below_set ?_ GE383.out) | exact HB.out)) hb); clear BK380; clear BK382; clear BK383; clear HB; have BK380 := n0_; have BK382 := n1_; have BK383 := n2_; have HB := n3_; clear n0_ n1_ n2_ n3_; (try clear hb); (try clear hb2); (try clear hk); (try clear hi); have hcz65_0 : w64.cell? ⟨gb382, 0, none⟩ = some (.int .i64 (wrap64 (a0_0 + a1))) := (blk_cell BK382.out 0).trans rfl; have hcz65_1 : w64.cell? ⟨gb382, 1, none⟩ = some (.int .i64 a0_1) := (blk_cell BK382.out 1).trans rfl; have hfz65_0 := blk_frozen BK382.out 0; have hfz65_1 := blk_frozen BK382.out 1; have hcz66_0 : w64.cell? ⟨gb383, 0, none⟩ = some (.int .i64 (wrap64 (a0_2 + a1))) := (blk_cell BK383.out 0).trans rfl; have hcz66_1 : w64.cell? ⟨gb383, 1, none⟩ = some (.int .i64 a0_3) := (blk_cell BK383.out 1).trans rfl; have hfz66_0 := blk_frozen BK383.out 0; have hfz66_1 := blk_frozen BK383.out 1; have hcz67_0 : w64.cell? ⟨gb380, 0, none⟩ = some (.int .i64 a0_0) := (blk_cell BK380.out 0).trans rfl; have hcz67_1 : w64.cell? ⟨gb380, 1, none⟩ = some (.int .i64 a0_1) := (blk_cell BK380.out 1).trans rfl; have hcz67_2 : w64.cell? ⟨gb380, 2, none⟩ = some (.int .i64 a0_2) := (blk_cell BK380.out 2).trans rfl; have hcz67_3 : w64.cell? ⟨gb380, 3, none⟩ = some (.int .i64 a0_3) := (blk_cell BK380.out 3).trans rfl; have hcz67_4 : w64.cell? ⟨gb380, 4, none⟩ = some (.int .i64 a0_4) := (blk_cell BK380.out 4).trans rfl; have hcz67_5 : w64.cell? ⟨gb380, 5, none⟩ = some (.int .i64 a0_5) := (blk_cell BK380.out 5).trans rfl; have hfz67_0 := blk_frozen BK380.out 0; have hfz67_1 := blk_frozen BK380.out 1; have hfz67_2 := blk_frozen BK380.out 2; have hfz67_3 := blk_frozen BK380.out 3; have hfz67_4 := blk_frozen BK380.out 4; have hfz67_5 := blk_frozen BK380.out 5) | ((with_reducible refine gate_callee (f := 19) rfl ?_); refine goesL_ (some 148) rfl rfl Try.func19 (by kernel_rfl) rfl #[.agg #[.int .i64 (wrap64 (a0_0 + a1)), .int .i64 a0_1], .agg #[.int .i64 (wrap64 (a0_2 + a1)), .int .i64 a0_3], .int .i64 a0_4] rfl (by (try simp only [List.map_toArray, List.map_cons, List.map_nil]); first | done | rfl | (simp only [List.length_drop, List.length_take]; rfl)) ?_; (with_reducible refine (affine_Behind.calls kj3 (wrap64 (a0_0 + a1)) a0_1 (wrap64 (a0_2 + a1)) a0_3 a0_4 t407 t408 t409 _ A19.out).mono ?_); rintro e w68 ⟨rfl, hb⟩; refine ⟨_, rfl, ?_⟩; have n0_ := Aside0.mk (blk_below (g := gb380) (o := .cells #[.int .i64 a0_0, .int .i64 a0_1, .int .i64 a0_2, .int .i64 a0_3, .int .i64 a0_4, .int .i64 a0_5] 35 (0, 0)) (by (with_reducible repeat (first | refine blk_drewN ?_ _ | refine blk_drew ?_ | refine blk_alloc ?_ _)); exact BK380.out) hb); have n1_ := Aside0.mk (blk_below (g := gb382) (o := .cells #[.int .i64 (wrap64 (a0_0 + a1)), .int .i64 a0_1] 33 (0, 0)) (by (with_reducible repeat (first | refine blk_drewN ?_ _ | refine blk_drew ?_ | refine blk_alloc ?_ _)); exact BK382.out) hb); have n2_ := Aside0.mk (blk_below (g := gb383) (o := .cells #[.int .i64 (wrap64 (a0_2 + a1)), .int .i64 a0_3] 33 (0, 0)) (by (with_reducible repeat (first | refine blk_drewN ?_ _ | refine blk_drew ?_ | refine blk_alloc ?_ _)); exact BK383.out) hb); have n3_ := Aside0.mk (below_step (by repeat (first | (with_reducible first | exact HB.out | apply below_alloc | apply pw_below_drewN | apply below_drew1 | refine below_set ?_ GE380.out | refine below_set ?_ GE382.out | refine below_set ?_ GE383.out) | exact HB.out)) hb); clear BK380; clear BK382; clear BK383; clear HB; have BK380 := n0_; have BK382 := n1_; have BK383 := n2_; have HB := n3_; clear n0_ n1_ n2_ n3_; (try clear hb); (try clear hb2); (try clear hk); (try clear hi)) | (go_at_call 16; (with_reducible refine (biremelaw14_alive.calls kj3  t410 _ A31.out).mono ?_); rintro e w69 ⟨rfl, hb⟩; have n0_ := Aside0.mk (blk_below (g := gb380) (o := .cells #[.int .i64 a0_0, .int .i64 a0_1, .int .i64 a0_2, .int .i64 a0_3, .int .i64 a0_4, .int .i64 a0_5] 35 (0, 0)) (by (with_reducible repeat (first | refine blk_drewN ?_ _ | refine blk_drew ?_ | refine blk_alloc ?_ _)); exact BK380.out) hb); have n1_ := Aside0.mk (blk_below (g := gb382) (o := .cells #[.int .i64 (wrap64 (a0_0 + a1)), .int .i64 a0_1] 33 (0, 0)) (by (with_reducible repeat (first | refine blk_drewN ?_ _ | refine blk_drew ?_ | refine blk_alloc ?_ _)); exact BK382.out) hb); have n2_ := Aside0.mk (blk_below (g := gb383) (o := .cells #[.int .i64 (wrap64 (a0_2 + a1)), .int .i64 a0_3] 33 (0, 0)) (by (with_reducible repeat (first | refine blk_drewN ?_ _ | refine blk_drew ?_ | refine blk_alloc ?_ _)); exact BK383.out) hb); have n3_ := Aside0.mk (below_step (by repeat (first | (with_reducible first | exact HB.out | apply below_alloc | apply pw_below_drewN | apply below_drew1 | refine below_set ?_ GE380.out | refine below_set ?_ GE382.out | refine below_set ?_ GE383.out) | exact HB.out)) hb); clear BK380; clear BK382; clear BK383; clear HB; have BK380 := n0_; have BK382 := n1_; have BK383 := n2_; have HB := n3_; clear n0_ n1_ n2_ n3_; (try clear hb); (try clear hb2); (try clear hk); (try clear hi)))
                                  go_ret
                                  exact ⟨by first | rfl | (simp [errW_none, errW_some] <;> rfl) | (simp [*, errW_none, errW_some] <;> rfl), by repeat (first | (with_reducible first | exact HB.out | apply below_alloc | apply pw_below_drewN | apply below_drew1 | refine below_set ?_ GE380.out | refine below_set ?_ GE382.out | refine below_set ?_ GE383.out) | exact HB.out)⟩
                                · rw [if_neg c30] at H
                                  have c30b0 : (t406 == t409) = false := beq_eq_false_iff_ne.mpr c30
                                  have c30b1 : (t406 != t409) = true := bne_iff_ne.mpr c30
                                  exact absurd ((Option.some.inj H).trans hr) (by decide)
                              · rw [if_neg c29] at H
                                have c29b0 : (t405 == t408) = false := by simpa using c29
                                (try (have c29b1 : decide (t405 = t408) = false := by simpa using c29))
                                (try (have c29b2 : (t405 == t408) = false := by simpa using c29))
                                (try (have c29b3 : ¬ (t405 = t408) := by simpa using c29))
                                clear c29
                                exact absurd ((Option.some.inj H).trans hr) (by decide)
                            · rw [if_neg c28] at H
                              have c28b0 : (t404 == t407) = false := beq_eq_false_iff_ne.mpr c28
                              have c28b1 : (t404 != t407) = true := bne_iff_ne.mpr c28
                              exact absurd ((Option.some.inj H).trans hr) (by decide)
                          · rw [if_neg c27] at H
                            have c27b0 : (t400 == t403) = false := beq_eq_false_iff_ne.mpr c27
                            have c27b1 : (t400 != t403) = true := bne_iff_ne.mpr c27
                            exact absurd ((Option.some.inj H).trans hr) (by decide)
                        · rw [if_neg c26] at H
                          have c26b0 : (t399 == t402) = false := by simpa using c26
                          (try (have c26b1 : decide (t399 = t402) = false := by simpa using c26))
                          (try (have c26b2 : (t399 == t402) = false := by simpa using c26))
                          (try (have c26b3 : ¬ (t399 = t402) := by simpa using c26))
                          clear c26
                          exact absurd ((Option.some.inj H).trans hr) (by decide)
                      · rw [if_neg c25] at H
                        have c25b0 : (t398 == t401) = false := beq_eq_false_iff_ne.mpr c25
                        have c25b1 : (t398 != t401) = true := bne_iff_ne.mpr c25
                        exact absurd ((Option.some.inj H).trans hr) (by decide)
                    · rw [if_neg c24] at H
                      have c24b0 : (t395 == t397) = false := beq_eq_false_iff_ne.mpr c24
                      have c24b1 : (t395 != t397) = true := bne_iff_ne.mpr c24
                      exact absurd ((Option.some.inj H).trans hr) (by decide)
                  · rw [if_neg c23] at H
                    have c23b0 : (t394 == t396) = false := beq_eq_false_iff_ne.mpr c23
                    have c23b1 : (t394 != t396) = true := bne_iff_ne.mpr c23
                    exact absurd ((Option.some.inj H).trans hr) (by decide)
                · rw [if_neg c22] at H
                  have c22b0 : (t386 == t391) = false := by simpa using c22
                  (try (have c22b1 : decide (t386 = t391) = false := by simpa using c22))
                  (try (have c22b2 : (t386 == t391) = false := by simpa using c22))
                  (try (have c22b3 : ¬ (t386 = t391) := by simpa using c22))
                  clear c22
                  exact absurd ((Option.some.inj H).trans hr) (by decide)
              · rw [if_neg c21] at H
                have c21b0 : (t385 == t390) = false := beq_eq_false_iff_ne.mpr c21
                have c21b1 : (t385 != t390) = true := bne_iff_ne.mpr c21
                exact absurd ((Option.some.inj H).trans hr) (by decide)
            · rw [if_neg c20] at H
              have c20b0 : (t384 == t389) = false := beq_eq_false_iff_ne.mpr c20
              have c20b1 : (t384 != t389) = true := bne_iff_ne.mpr c20
              exact absurd ((Option.some.inj H).trans hr) (by decide)
          · rw [if_neg c13] at H
            have c13b0 : (t392 == 0) = false := beq_eq_false_iff_ne.mpr c13
            have c13b1 : (t392 != 0) = true := bne_iff_ne.mpr c13
            by_cases c477 : t392 = 3
            · rw [if_pos c477] at H
              have c477b0 : (t392 == 3) = true := beq_iff_eq.mpr c477
              have c477b1 : (t392 != 3) = false := bne_eq_false_iff_eq.mpr c477
              clear c477
              replace H := Option.bind_eq_some_iff.mp H
              obtain ⟨t393, A4780, H⟩ := H
              replace H : (some t393) = some r := H
              have A478 := Aside0.mk A4780
              clear A4780
              obtain rfl := Option.some.inj H
              try go_wp2
              have n0_ := Aside0.mk (blk_drew BK380.out)
              have n1_ := Aside0.mk (below_drew1 HB.out)
              clear BK380
              clear HB
              have BK380 := n0_
              have HB := n1_
              clear n0_ n1_
              refine start_ (n := 8) (S := fun w' => w'.cell? ⟨gb380, 0, none⟩ = some (.int .i64 a0_0) ∧ w'.cell? ⟨gb380, 1, none⟩ = some (.int .i64 a0_1) ∧ w'.cell? ⟨gb380, 2, none⟩ = some (.int .i64 a0_2) ∧ w'.cell? ⟨gb380, 3, none⟩ = some (.int .i64 a0_3) ∧ w'.cell? ⟨gb380, 4, none⟩ = some (.int .i64 a0_4) ∧ w'.cell? ⟨gb380, 5, none⟩ = some (.int .i64 a0_5)) (ds := []) #[false, false, false, false, false, false, false, false] (by kernel_rfl) rfl rfl ⟨(blk_cell BK380.out 0).trans rfl, (blk_cell BK380.out 1).trans rfl, (blk_cell BK380.out 2).trans rfl, (blk_cell BK380.out 3).trans rfl, (blk_cell BK380.out 4).trans rfl, (blk_cell BK380.out 5).trans rfl⟩ (fun hHeld => ?_); refine with_tabW biremelaw14_AffineMoved.tab3 biremelaw14_AffineMoved.bits3 (fun HT_ HW_ => ?_)
              generalize wc.drew = w479 at BK380 HB hHeld ⊢
              refine pure_ (i := 0) (N := some 40) (v := ?_) (a' := ?_) #[true, false, false, false, false, false, false, false] rfl rfl (any_of HT_.out (by kernel_rfl)) (fun _ _ _ h => h) (Or.inl ⟨by rfl, ?_⟩) ?_ ?_
              rotate_left
              · intro w'
                go_simp
                with_reducible rfl
              rotate_left
              · simp only [Act.put, List.setIfInBounds_toArray, List.set_cons_zero, List.set_cons_succ, i64_w, i32_w]
                rfl
              refine pure_ (i := 2) (N := some 42) (v := ?_) (a' := ?_) #[true, false, true, false, false, false, false, false] rfl rfl (any_of HT_.out (by kernel_rfl)) (fun _ _ _ h => h) (Or.inl ⟨by rfl, ?_⟩) ?_ ?_
              rotate_left
              · intro w'
                go_simp
                with_reducible rfl
              rotate_left
              · simp only [Act.put, List.setIfInBounds_toArray, List.set_cons_zero, List.set_cons_succ, i64_w, i32_w]
                rfl
              refine take_ (i := 1) (N := some 41) (v := ?_) (a' := ?_) #[true, true, true, false, false, false, false, false] rfl rfl (take_ofW HT_.out HW_.out (by kernel_rfl)) (fun _ _ _ h => h) (Or.inl ⟨by rfl, ?_⟩) hHeld ?_ ?_
              rotate_left
              · rintro w' ⟨s0, s1, s2, s3, s4, s5⟩
                go_simp
                with_reducible rfl
              rotate_left
              · simp only [Act.put, List.setIfInBounds_toArray, List.set_cons_zero, List.set_cons_succ, i64_w, i32_w]
                rfl
              refine take_ (i := 3) (N := some 43) (v := ?_) (a' := ?_) #[true, true, true, true, false, false, false, false] rfl rfl (take_ofW HT_.out HW_.out (by kernel_rfl)) (fun _ _ _ h => h) (Or.inl ⟨by rfl, ?_⟩) hHeld ?_ ?_
              rotate_left
              · rintro w' ⟨s0, s1, s2, s3, s4, s5⟩
                go_simp
                with_reducible rfl
              rotate_left
              · simp only [Act.put, List.setIfInBounds_toArray, List.set_cons_zero, List.set_cons_succ, i64_w, i32_w]
                rfl
              refine join_ (σ := Nat × Nat) 2 #[true, true, true, true, true, true, false, false] (fun s_ => [(7, .pointer (some ⟨s_.1, 0, none⟩)), (8, .pointer (some ⟨s_.2, 0, none⟩))]) (fun s_ w' => (w'.cell? ⟨gb380, 0, none⟩ = some (.int .i64 a0_0) ∧ w'.cell? ⟨gb380, 1, none⟩ = some (.int .i64 a0_1) ∧ w'.cell? ⟨gb380, 2, none⟩ = some (.int .i64 a0_2) ∧ w'.cell? ⟨gb380, 3, none⟩ = some (.int .i64 a0_3) ∧ w'.cell? ⟨gb380, 4, none⟩ = some (.int .i64 a0_4) ∧ w'.cell? ⟨gb380, 5, none⟩ = some (.int .i64 a0_5)) ∧ (w'.heap[gb380]? = some (.cells #[.int .i64 a0_0, .int .i64 a0_1, .int .i64 a0_2, .int .i64 a0_3, .int .i64 a0_4, .int .i64 a0_5] 35 (0, 0))) ∧ (w'.heap[s_.1]? = some (.cells #[.int .i64 0, .int .i64 0] 33 (0, 0))) ∧ (w'.heap[s_.2]? = some (.cells #[.int .i64 0, .int .i64 0] 33 (0, 0))) ∧ (w.heap.size ≤ s_.1) ∧ (w.heap.size ≤ s_.1) ∧ (gb380 ≠ s_.1) ∧ (s_.1 ≠ gb380) ∧ (s_.2 ≠ s_.1) ∧ (s_.1 ≠ s_.2) ∧ (w.heap.size ≤ s_.2) ∧ (w.heap.size ≤ s_.2) ∧ (gb380 ≠ s_.2) ∧ (s_.2 ≠ gb380) ∧ (Below w.heap.size w w')) ?_ ?_
              rotate_left
              · intro hCont
                refine two_ (i := 4) (j := 5) (Ni := some 7) (Nj := some 8) #[true, true, true, true, true, false, false, false] #[true, true, true, true, false, true, false, false] rfl rfl rfl rfl (two_of HT_.out (by kernel_rfl)) (by decide) (by decide) (fun K hK => ?_) (fun K hK => ?_)
                · skip
                  refine box_step ?hg (N := 7) ?hd (cs := #[.int .i64 0, .int .i64 0]) (t := 33) ?hr ?_; (case hd => rfl); (case hg => rfl); (case hr => first | (go_simp; done) | (go_simp; rfl))
                  intro gb382 hg w480 hbox hb
                  have n0_ := Aside0.mk (blk_below (g := gb380) (o := .cells #[.int .i64 a0_0, .int .i64 a0_1, .int .i64 a0_2, .int .i64 a0_3, .int .i64 a0_4, .int .i64 a0_5] 35 (0, 0)) (by (with_reducible repeat (first | refine blk_drewN ?_ _ | refine blk_drew ?_ | refine blk_alloc ?_ _)); exact BK380.out) hb)
                  have n1_ := Aside0.mk (below_step (by repeat (first | (with_reducible first | exact HB.out | apply below_alloc | apply pw_below_drewN | apply below_drew1 | refine below_set ?_ GE380.out) | exact HB.out)) hb)
                  have n2_ := Aside0.mk (hbox)
                  have n3_ := Aside0.mk ((by rw [hg]; exact (below_size (by repeat (first | (with_reducible first | exact HB.out | apply below_alloc | apply pw_below_drewN | apply below_drew1 | refine below_set ?_ GE380.out) | exact HB.out))) : w.heap.size ≤ gb382))
                  have n4_ := Aside0.mk ((by rw [hg]; exact (below_size (by repeat (first | (with_reducible first | exact HB.out | apply below_alloc | apply pw_below_drewN | apply below_drew1 | refine below_set ?_ GE380.out) | exact HB.out))) : w.heap.size ≤ gb382))
                  have n5_ := Aside0.mk ((by rw [hg]; exact Nat.ne_of_lt (blk_lt (g := gb380) (o := .cells #[.int .i64 a0_0, .int .i64 a0_1, .int .i64 a0_2, .int .i64 a0_3, .int .i64 a0_4, .int .i64 a0_5] 35 (0, 0)) (by (with_reducible repeat (first | refine blk_drewN ?_ _ | refine blk_drew ?_ | refine blk_alloc ?_ _)); exact BK380.out)) : gb380 ≠ gb382))
                  have n6_ := Aside0.mk ((by rw [hg]; exact Nat.ne_of_gt (blk_lt (g := gb380) (o := .cells #[.int .i64 a0_0, .int .i64 a0_1, .int .i64 a0_2, .int .i64 a0_3, .int .i64 a0_4, .int .i64 a0_5] 35 (0, 0)) (by (with_reducible repeat (first | refine blk_drewN ?_ _ | refine blk_drew ?_ | refine blk_alloc ?_ _)); exact BK380.out)) : gb382 ≠ gb380))
                  clear BK380
                  clear HB
                  have BK380 := n0_
                  have HB := n1_
                  have BK382 := n2_
                  have GW382 := n3_
                  have GE382 := n4_
                  have NB380_382 := n5_
                  have NB382_380 := n6_
                  clear n0_ n1_ n2_ n3_ n4_ n5_ n6_
                  clear hb hbox hg
                  refine hK.out _ _ ⟨(blk_cell BK380.out 0).trans rfl, (blk_cell BK380.out 1).trans rfl, (blk_cell BK380.out 2).trans rfl, (blk_cell BK380.out 3).trans rfl, (blk_cell BK380.out 4).trans rfl, (blk_cell BK380.out 5).trans rfl⟩ (fun hHeld => ?_)
                  clear hK K
                  refine norm_ (a' := ?_) ?_ ?_
                  rotate_left
                  · show Act.put _ (some 7) _ = _
                    simp only [Act.put, List.setIfInBounds_toArray, List.set_cons_zero, List.set_cons_succ, i64_w, i32_w]
                    rfl
                  refine one_ (i := 5) (N := some 8) #[true, true, true, true, true, true, false, false] rfl rfl (one_of HT_.out (by kernel_rfl)) (by decide) (fun K hK => ?_)
                  refine box_step ?hg (N := 8) ?hd (cs := #[.int .i64 0, .int .i64 0]) (t := 33) ?hr ?_; (case hd => rfl); (case hg => rfl); (case hr => first | (go_simp; done) | (go_simp; rfl))
                  intro gb383 hg w481 hbox hb
                  have n0_ := Aside0.mk (blk_below (g := gb380) (o := .cells #[.int .i64 a0_0, .int .i64 a0_1, .int .i64 a0_2, .int .i64 a0_3, .int .i64 a0_4, .int .i64 a0_5] 35 (0, 0)) (by (with_reducible repeat (first | refine blk_drewN ?_ _ | refine blk_drew ?_ | refine blk_alloc ?_ _)); exact BK380.out) hb)
                  have n1_ := Aside0.mk (blk_below (g := gb382) (o := .cells #[.int .i64 0, .int .i64 0] 33 (0, 0)) (by (with_reducible repeat (first | refine blk_drewN ?_ _ | refine blk_drew ?_ | refine blk_alloc ?_ _)); exact BK382.out) hb)
                  have n2_ := Aside0.mk (below_step (by repeat (first | (with_reducible first | exact HB.out | apply below_alloc | apply pw_below_drewN | apply below_drew1 | refine below_set ?_ GE380.out | refine below_set ?_ GE382.out) | exact HB.out)) hb)
                  have n3_ := Aside0.mk (hbox)
                  have n4_ := Aside0.mk ((by rw [hg]; exact (below_size (by repeat (first | (with_reducible first | exact HB.out | apply below_alloc | apply pw_below_drewN | apply below_drew1 | refine below_set ?_ GE380.out | refine below_set ?_ GE382.out) | exact HB.out))) : w.heap.size ≤ gb383))
                  have n5_ := Aside0.mk ((by rw [hg]; exact (below_size (by repeat (first | (with_reducible first | exact HB.out | apply below_alloc | apply pw_below_drewN | apply below_drew1 | refine below_set ?_ GE380.out | refine below_set ?_ GE382.out) | exact HB.out))) : w.heap.size ≤ gb383))
                  have n6_ := Aside0.mk ((by rw [hg]; exact Nat.ne_of_lt (blk_lt (g := gb380) (o := .cells #[.int .i64 a0_0, .int .i64 a0_1, .int .i64 a0_2, .int .i64 a0_3, .int .i64 a0_4, .int .i64 a0_5] 35 (0, 0)) (by (with_reducible repeat (first | refine blk_drewN ?_ _ | refine blk_drew ?_ | refine blk_alloc ?_ _)); exact BK380.out)) : gb380 ≠ gb383))
                  have n7_ := Aside0.mk ((by rw [hg]; exact Nat.ne_of_gt (blk_lt (g := gb380) (o := .cells #[.int .i64 a0_0, .int .i64 a0_1, .int .i64 a0_2, .int .i64 a0_3, .int .i64 a0_4, .int .i64 a0_5] 35 (0, 0)) (by (with_reducible repeat (first | refine blk_drewN ?_ _ | refine blk_drew ?_ | refine blk_alloc ?_ _)); exact BK380.out)) : gb383 ≠ gb380))
                  have n8_ := Aside0.mk ((by rw [hg]; exact Nat.ne_of_lt (blk_lt (g := gb382) (o := .cells #[.int .i64 0, .int .i64 0] 33 (0, 0)) (by (with_reducible repeat (first | refine blk_drewN ?_ _ | refine blk_drew ?_ | refine blk_alloc ?_ _)); exact BK382.out)) : gb382 ≠ gb383))
                  have n9_ := Aside0.mk ((by rw [hg]; exact Nat.ne_of_gt (blk_lt (g := gb382) (o := .cells #[.int .i64 0, .int .i64 0] 33 (0, 0)) (by (with_reducible repeat (first | refine blk_drewN ?_ _ | refine blk_drew ?_ | refine blk_alloc ?_ _)); exact BK382.out)) : gb383 ≠ gb382))
                  clear BK380
                  clear BK382
                  clear HB
                  have BK380 := n0_
                  have BK382 := n1_
                  have HB := n2_
                  have BK383 := n3_
                  have GW383 := n4_
                  have GE383 := n5_
                  have NB380_383 := n6_
                  have NB383_380 := n7_
                  have NB382_383 := n8_
                  have NB383_382 := n9_
                  clear n0_ n1_ n2_ n3_ n4_ n5_ n6_ n7_ n8_ n9_
                  clear hb hbox hg
                  refine hK.out _ _ ⟨(blk_cell BK380.out 0).trans rfl, (blk_cell BK380.out 1).trans rfl, (blk_cell BK380.out 2).trans rfl, (blk_cell BK380.out 3).trans rfl, (blk_cell BK380.out 4).trans rfl, (blk_cell BK380.out 5).trans rfl⟩ (fun hHeld => ?_)
                  clear hK K
                  refine norm_ (a' := ?_) ?_ ?_
                  rotate_left
                  · show Act.put _ (some 8) _ = _
                    simp only [Act.put, List.setIfInBounds_toArray, List.set_cons_zero, List.set_cons_succ, i64_w, i32_w]
                    rfl
                  exact norm_ (by simp only [putAll, Act.put, List.setIfInBounds_toArray, List.set_cons_zero, List.set_cons_succ]) (hCont (gb382, gb383) _ ⟨hHeld, (by (with_reducible repeat (first | refine blk_drewN ?_ _ | refine blk_drew ?_ | refine blk_alloc ?_ _)); exact BK380.out), (by (with_reducible repeat (first | refine blk_drewN ?_ _ | refine blk_drew ?_ | refine blk_alloc ?_ _)); exact BK382.out), (by (with_reducible repeat (first | refine blk_drewN ?_ _ | refine blk_drew ?_ | refine blk_alloc ?_ _)); exact BK383.out), GW382.out, GE382.out, NB380_382.out, NB382_380.out, NB383_382.out, NB382_383.out, GW383.out, GE383.out, NB380_383.out, NB383_380.out, (by repeat (first | (with_reducible first | exact HB.out | apply below_alloc | apply pw_below_drewN | apply below_drew1 | refine below_set ?_ GE380.out | refine below_set ?_ GE382.out | refine below_set ?_ GE383.out) | exact HB.out))⟩)
                · skip
                  refine box_step ?hg (N := 8) ?hd (cs := #[.int .i64 0, .int .i64 0]) (t := 33) ?hr ?_; (case hd => rfl); (case hg => rfl); (case hr => first | (go_simp; done) | (go_simp; rfl))
                  intro gb383 hg w480 hbox hb
                  have n0_ := Aside0.mk (blk_below (g := gb380) (o := .cells #[.int .i64 a0_0, .int .i64 a0_1, .int .i64 a0_2, .int .i64 a0_3, .int .i64 a0_4, .int .i64 a0_5] 35 (0, 0)) (by (with_reducible repeat (first | refine blk_drewN ?_ _ | refine blk_drew ?_ | refine blk_alloc ?_ _)); exact BK380.out) hb)
                  have n1_ := Aside0.mk (below_step (by repeat (first | (with_reducible first | exact HB.out | apply below_alloc | apply pw_below_drewN | apply below_drew1 | refine below_set ?_ GE380.out) | exact HB.out)) hb)
                  have n2_ := Aside0.mk (hbox)
                  have n3_ := Aside0.mk ((by rw [hg]; exact (below_size (by repeat (first | (with_reducible first | exact HB.out | apply below_alloc | apply pw_below_drewN | apply below_drew1 | refine below_set ?_ GE380.out) | exact HB.out))) : w.heap.size ≤ gb383))
                  have n4_ := Aside0.mk ((by rw [hg]; exact (below_size (by repeat (first | (with_reducible first | exact HB.out | apply below_alloc | apply pw_below_drewN | apply below_drew1 | refine below_set ?_ GE380.out) | exact HB.out))) : w.heap.size ≤ gb383))
                  have n5_ := Aside0.mk ((by rw [hg]; exact Nat.ne_of_lt (blk_lt (g := gb380) (o := .cells #[.int .i64 a0_0, .int .i64 a0_1, .int .i64 a0_2, .int .i64 a0_3, .int .i64 a0_4, .int .i64 a0_5] 35 (0, 0)) (by (with_reducible repeat (first | refine blk_drewN ?_ _ | refine blk_drew ?_ | refine blk_alloc ?_ _)); exact BK380.out)) : gb380 ≠ gb383))
                  have n6_ := Aside0.mk ((by rw [hg]; exact Nat.ne_of_gt (blk_lt (g := gb380) (o := .cells #[.int .i64 a0_0, .int .i64 a0_1, .int .i64 a0_2, .int .i64 a0_3, .int .i64 a0_4, .int .i64 a0_5] 35 (0, 0)) (by (with_reducible repeat (first | refine blk_drewN ?_ _ | refine blk_drew ?_ | refine blk_alloc ?_ _)); exact BK380.out)) : gb383 ≠ gb380))
                  clear BK380
                  clear HB
                  have BK380 := n0_
                  have HB := n1_
                  have BK383 := n2_
                  have GW383 := n3_
                  have GE383 := n4_
                  have NB380_383 := n5_
                  have NB383_380 := n6_
                  clear n0_ n1_ n2_ n3_ n4_ n5_ n6_
                  clear hb hbox hg
                  refine hK.out _ _ ⟨(blk_cell BK380.out 0).trans rfl, (blk_cell BK380.out 1).trans rfl, (blk_cell BK380.out 2).trans rfl, (blk_cell BK380.out 3).trans rfl, (blk_cell BK380.out 4).trans rfl, (blk_cell BK380.out 5).trans rfl⟩ (fun hHeld => ?_)
                  clear hK K
                  refine norm_ (a' := ?_) ?_ ?_
                  rotate_left
                  · show Act.put _ (some 8) _ = _
                    simp only [Act.put, List.setIfInBounds_toArray, List.set_cons_zero, List.set_cons_succ, i64_w, i32_w]
                    rfl
                  refine one_ (i := 4) (N := some 7) #[true, true, true, true, true, true, false, false] rfl rfl (one_of HT_.out (by kernel_rfl)) (by decide) (fun K hK => ?_)
                  refine box_step ?hg (N := 7) ?hd (cs := #[.int .i64 0, .int .i64 0]) (t := 33) ?hr ?_; (case hd => rfl); (case hg => rfl); (case hr => first | (go_simp; done) | (go_simp; rfl))
                  intro gb382 hg w481 hbox hb
                  have n0_ := Aside0.mk (blk_below (g := gb380) (o := .cells #[.int .i64 a0_0, .int .i64 a0_1, .int .i64 a0_2, .int .i64 a0_3, .int .i64 a0_4, .int .i64 a0_5] 35 (0, 0)) (by (with_reducible repeat (first | refine blk_drewN ?_ _ | refine blk_drew ?_ | refine blk_alloc ?_ _)); exact BK380.out) hb)
                  have n1_ := Aside0.mk (blk_below (g := gb383) (o := .cells #[.int .i64 0, .int .i64 0] 33 (0, 0)) (by (with_reducible repeat (first | refine blk_drewN ?_ _ | refine blk_drew ?_ | refine blk_alloc ?_ _)); exact BK383.out) hb)
                  have n2_ := Aside0.mk (below_step (by repeat (first | (with_reducible first | exact HB.out | apply below_alloc | apply pw_below_drewN | apply below_drew1 | refine below_set ?_ GE380.out | refine below_set ?_ GE383.out) | exact HB.out)) hb)
                  have n3_ := Aside0.mk (hbox)
                  have n4_ := Aside0.mk ((by rw [hg]; exact (below_size (by repeat (first | (with_reducible first | exact HB.out | apply below_alloc | apply pw_below_drewN | apply below_drew1 | refine below_set ?_ GE380.out | refine below_set ?_ GE383.out) | exact HB.out))) : w.heap.size ≤ gb382))
                  have n5_ := Aside0.mk ((by rw [hg]; exact (below_size (by repeat (first | (with_reducible first | exact HB.out | apply below_alloc | apply pw_below_drewN | apply below_drew1 | refine below_set ?_ GE380.out | refine below_set ?_ GE383.out) | exact HB.out))) : w.heap.size ≤ gb382))
                  have n6_ := Aside0.mk ((by rw [hg]; exact Nat.ne_of_lt (blk_lt (g := gb380) (o := .cells #[.int .i64 a0_0, .int .i64 a0_1, .int .i64 a0_2, .int .i64 a0_3, .int .i64 a0_4, .int .i64 a0_5] 35 (0, 0)) (by (with_reducible repeat (first | refine blk_drewN ?_ _ | refine blk_drew ?_ | refine blk_alloc ?_ _)); exact BK380.out)) : gb380 ≠ gb382))
                  have n7_ := Aside0.mk ((by rw [hg]; exact Nat.ne_of_gt (blk_lt (g := gb380) (o := .cells #[.int .i64 a0_0, .int .i64 a0_1, .int .i64 a0_2, .int .i64 a0_3, .int .i64 a0_4, .int .i64 a0_5] 35 (0, 0)) (by (with_reducible repeat (first | refine blk_drewN ?_ _ | refine blk_drew ?_ | refine blk_alloc ?_ _)); exact BK380.out)) : gb382 ≠ gb380))
                  have n8_ := Aside0.mk ((by rw [hg]; exact Nat.ne_of_lt (blk_lt (g := gb383) (o := .cells #[.int .i64 0, .int .i64 0] 33 (0, 0)) (by (with_reducible repeat (first | refine blk_drewN ?_ _ | refine blk_drew ?_ | refine blk_alloc ?_ _)); exact BK383.out)) : gb383 ≠ gb382))
                  have n9_ := Aside0.mk ((by rw [hg]; exact Nat.ne_of_gt (blk_lt (g := gb383) (o := .cells #[.int .i64 0, .int .i64 0] 33 (0, 0)) (by (with_reducible repeat (first | refine blk_drewN ?_ _ | refine blk_drew ?_ | refine blk_alloc ?_ _)); exact BK383.out)) : gb382 ≠ gb383))
                  clear BK380
                  clear BK383
                  clear HB
                  have BK380 := n0_
                  have BK383 := n1_
                  have HB := n2_
                  have BK382 := n3_
                  have GW382 := n4_
                  have GE382 := n5_
                  have NB380_382 := n6_
                  have NB382_380 := n7_
                  have NB383_382 := n8_
                  have NB382_383 := n9_
                  clear n0_ n1_ n2_ n3_ n4_ n5_ n6_ n7_ n8_ n9_
                  clear hb hbox hg
                  refine hK.out _ _ ⟨(blk_cell BK380.out 0).trans rfl, (blk_cell BK380.out 1).trans rfl, (blk_cell BK380.out 2).trans rfl, (blk_cell BK380.out 3).trans rfl, (blk_cell BK380.out 4).trans rfl, (blk_cell BK380.out 5).trans rfl⟩ (fun hHeld => ?_)
                  clear hK K
                  refine norm_ (a' := ?_) ?_ ?_
                  rotate_left
                  · show Act.put _ (some 7) _ = _
                    simp only [Act.put, List.setIfInBounds_toArray, List.set_cons_zero, List.set_cons_succ, i64_w, i32_w]
                    rfl
                  exact norm_ (by simp only [putAll, Act.put, List.setIfInBounds_toArray, List.set_cons_zero, List.set_cons_succ]) (hCont (gb382, gb383) _ ⟨hHeld, (by (with_reducible repeat (first | refine blk_drewN ?_ _ | refine blk_drew ?_ | refine blk_alloc ?_ _)); exact BK380.out), (by (with_reducible repeat (first | refine blk_drewN ?_ _ | refine blk_drew ?_ | refine blk_alloc ?_ _)); exact BK382.out), (by (with_reducible repeat (first | refine blk_drewN ?_ _ | refine blk_drew ?_ | refine blk_alloc ?_ _)); exact BK383.out), GW382.out, GE382.out, NB380_382.out, NB382_380.out, NB383_382.out, NB382_383.out, GW383.out, GE383.out, NB380_383.out, NB383_380.out, (by repeat (first | (with_reducible first | exact HB.out | apply below_alloc | apply pw_below_drewN | apply below_drew1 | refine below_set ?_ GE380.out | refine below_set ?_ GE383.out | refine below_set ?_ GE382.out) | exact HB.out))⟩)
              rintro ⟨gb382, gb383⟩ w482 ⟨hS_, h0_, h1_, h2_, h3_, h4_, h5_, h6_, h7_, h8_, h9_, h10_, h11_, h12_, h13_⟩
              have n0_ : Aside0 (w482.heap[gb380]? = some (.cells #[.int .i64 a0_0, .int .i64 a0_1, .int .i64 a0_2, .int .i64 a0_3, .int .i64 a0_4, .int .i64 a0_5] 35 (0, 0))) := ⟨h0_⟩
              have n1_ : Aside0 (w482.heap[gb382]? = some (.cells #[.int .i64 0, .int .i64 0] 33 (0, 0))) := ⟨h1_⟩
              have n2_ : Aside0 (w482.heap[gb383]? = some (.cells #[.int .i64 0, .int .i64 0] 33 (0, 0))) := ⟨h2_⟩
              have n3_ : Aside0 (w.heap.size ≤ gb382) := ⟨h3_⟩
              have n4_ : Aside0 (w.heap.size ≤ gb382) := ⟨h4_⟩
              have n5_ : Aside0 (gb380 ≠ gb382) := ⟨h5_⟩
              have n6_ : Aside0 (gb382 ≠ gb380) := ⟨h6_⟩
              have n7_ : Aside0 (gb383 ≠ gb382) := ⟨h7_⟩
              have n8_ : Aside0 (gb382 ≠ gb383) := ⟨h8_⟩
              have n9_ : Aside0 (w.heap.size ≤ gb383) := ⟨h9_⟩
              have n10_ : Aside0 (w.heap.size ≤ gb383) := ⟨h10_⟩
              have n11_ : Aside0 (gb380 ≠ gb383) := ⟨h11_⟩
              have n12_ : Aside0 (gb383 ≠ gb380) := ⟨h12_⟩
              have n13_ : Aside0 (Below w.heap.size w w482) := ⟨h13_⟩
              clear BK380
              clear HB
              clear h0_ h1_ h2_ h3_ h4_ h5_ h6_ h7_ h8_ h9_ h10_ h11_ h12_ h13_
              have BK380 := n0_
              have BK382 := n1_
              have BK383 := n2_
              have GW382 := n3_
              have GE382 := n4_
              have NB380_382 := n5_
              have NB382_380 := n6_
              have NB383_382 := n7_
              have NB382_383 := n8_
              have GW383 := n9_
              have GE383 := n10_
              have NB380_383 := n11_
              have NB383_380 := n12_
              have HB := n13_
              clear n0_ n1_ n2_ n3_ n4_ n5_ n6_ n7_ n8_ n9_ n10_ n11_ n12_ n13_
              have hHeld : w482.cell? ⟨gb380, 0, none⟩ = some (.int .i64 a0_0) ∧ w482.cell? ⟨gb380, 1, none⟩ = some (.int .i64 a0_1) ∧ w482.cell? ⟨gb380, 2, none⟩ = some (.int .i64 a0_2) ∧ w482.cell? ⟨gb380, 3, none⟩ = some (.int .i64 a0_3) ∧ w482.cell? ⟨gb380, 4, none⟩ = some (.int .i64 a0_4) ∧ w482.cell? ⟨gb380, 5, none⟩ = some (.int .i64 a0_5) := hS_
              refine norm_ (a' := ?_) ?_ ?_
              rotate_left
              · simp only [putAll, Act.put, List.setIfInBounds_toArray, List.set_cons_zero, List.set_cons_succ]
                rfl
              refine one_ (i := 6) (N := none) #[true, true, true, true, true, true, true, false] rfl rfl (one_of HT_.out (by kernel_rfl)) (by decide) (fun K hK => ?_)
              have hs483 : w482.cell? ⟨gb382, 0, none⟩ = some (.int .i64 0) := (blk_cell BK382.out 0).trans rfl
              have hfs483 := blk_frozen BK382.out 0
              have hns483_0 := NB380_382.out
              have hns483_2 := NB383_382.out
              have hms483_0 := NB382_380.out
              have hms483_2 := NB382_383.out
              have hs484 : w482.cell? ⟨gb382, 1, none⟩ = some (.int .i64 0) := (blk_cell BK382.out 1).trans rfl
              have hfs484 := blk_frozen BK382.out 1
              have hns484_0 := NB380_382.out
              have hns484_2 := NB383_382.out
              have hms484_0 := NB382_380.out
              have hms484_2 := NB382_383.out
              refine skip_ (w1 := ?_) (by rfl) rfl ?_ ?_
              rotate_left
              · go_simp
                rfl
              refine hK.out _ _ ⟨((cell_far (p := ⟨gb382, _, none⟩) NB380_382.out _).trans (((cell_far (p := ⟨gb382, _, none⟩) NB380_382.out _).trans (hHeld.1)))), ((cell_far (p := ⟨gb382, _, none⟩) NB380_382.out _).trans (((cell_far (p := ⟨gb382, _, none⟩) NB380_382.out _).trans (hHeld.2.1)))), ((cell_far (p := ⟨gb382, _, none⟩) NB380_382.out _).trans (((cell_far (p := ⟨gb382, _, none⟩) NB380_382.out _).trans (hHeld.2.2.1)))), ((cell_far (p := ⟨gb382, _, none⟩) NB380_382.out _).trans (((cell_far (p := ⟨gb382, _, none⟩) NB380_382.out _).trans (hHeld.2.2.2.1)))), ((cell_far (p := ⟨gb382, _, none⟩) NB380_382.out _).trans (((cell_far (p := ⟨gb382, _, none⟩) NB380_382.out _).trans (hHeld.2.2.2.2.1)))), ((cell_far (p := ⟨gb382, _, none⟩) NB380_382.out _).trans (((cell_far (p := ⟨gb382, _, none⟩) NB380_382.out _).trans (hHeld.2.2.2.2.2))))⟩ (fun hHeld => ?_)
              clear hK K
              refine one_ (i := 7) (N := none) #[true, true, true, true, true, true, true, true] rfl rfl (one_of HT_.out (by kernel_rfl)) (by decide) (fun K hK => ?_)
              have hs485 : w482.cell? ⟨gb383, 0, none⟩ = some (.int .i64 0) := (blk_cell BK383.out 0).trans rfl
              have hfs485 := blk_frozen BK383.out 0
              have hns485_0 := NB380_383.out
              have hns485_1 := NB382_383.out
              have hms485_0 := NB383_380.out
              have hms485_1 := NB383_382.out
              have hs486 : w482.cell? ⟨gb383, 1, none⟩ = some (.int .i64 0) := (blk_cell BK383.out 1).trans rfl
              have hfs486 := blk_frozen BK383.out 1
              have hns486_0 := NB380_383.out
              have hns486_1 := NB382_383.out
              have hms486_0 := NB383_380.out
              have hms486_1 := NB383_382.out
              refine skip_ (w1 := ?_) (by rfl) rfl ?_ ?_
              rotate_left
              · go_simp
                rfl
              refine hK.out _ _ ⟨((cell_far (p := ⟨gb383, _, none⟩) NB380_383.out _).trans (((cell_far (p := ⟨gb383, _, none⟩) NB380_383.out _).trans (hHeld.1)))), ((cell_far (p := ⟨gb383, _, none⟩) NB380_383.out _).trans (((cell_far (p := ⟨gb383, _, none⟩) NB380_383.out _).trans (hHeld.2.1)))), ((cell_far (p := ⟨gb383, _, none⟩) NB380_383.out _).trans (((cell_far (p := ⟨gb383, _, none⟩) NB380_383.out _).trans (hHeld.2.2.1)))), ((cell_far (p := ⟨gb383, _, none⟩) NB380_383.out _).trans (((cell_far (p := ⟨gb383, _, none⟩) NB380_383.out _).trans (hHeld.2.2.2.1)))), ((cell_far (p := ⟨gb383, _, none⟩) NB380_383.out _).trans (((cell_far (p := ⟨gb383, _, none⟩) NB380_383.out _).trans (hHeld.2.2.2.2.1)))), ((cell_far (p := ⟨gb383, _, none⟩) NB380_383.out _).trans (((cell_far (p := ⟨gb383, _, none⟩) NB380_383.out _).trans (hHeld.2.2.2.2.2))))⟩ (fun hHeld => ?_)
              clear hK K
              refine done_ (done_of HT_.out (by kernel_rfl)) ?_
              have hnb487 := NB382_380.out
              have hnc487 := NB380_382.out
              have hnb488 := NB382_383.out
              have hnc488 := NB383_382.out
              have hcz489_0 : w482.cell? ⟨gb382, 0, none⟩ = some (.int .i64 0) := (blk_cell BK382.out 0).trans rfl
              have hcz489_1 : w482.cell? ⟨gb382, 1, none⟩ = some (.int .i64 0) := (blk_cell BK382.out 1).trans rfl
              have hfz489_0 := blk_frozen BK382.out 0
              have hfz489_1 := blk_frozen BK382.out 1
              have hnb490 := NB383_380.out
              have hnc490 := NB380_383.out
              have hcz491_0 : w482.cell? ⟨gb383, 0, none⟩ = some (.int .i64 0) := (blk_cell BK383.out 0).trans rfl
              have hcz491_1 : w482.cell? ⟨gb383, 1, none⟩ = some (.int .i64 0) := (blk_cell BK383.out 1).trans rfl
              have hfz491_0 := blk_frozen BK383.out 0
              have hfz491_1 := blk_frozen BK383.out 1
              have hcz492_0 : w482.cell? ⟨gb380, 0, none⟩ = some (.int .i64 a0_0) := (blk_cell BK380.out 0).trans rfl
              have hcz492_1 : w482.cell? ⟨gb380, 1, none⟩ = some (.int .i64 a0_1) := (blk_cell BK380.out 1).trans rfl
              have hcz492_2 : w482.cell? ⟨gb380, 2, none⟩ = some (.int .i64 a0_2) := (blk_cell BK380.out 2).trans rfl
              have hcz492_3 : w482.cell? ⟨gb380, 3, none⟩ = some (.int .i64 a0_3) := (blk_cell BK380.out 3).trans rfl
              have hcz492_4 : w482.cell? ⟨gb380, 4, none⟩ = some (.int .i64 a0_4) := (blk_cell BK380.out 4).trans rfl
              have hcz492_5 : w482.cell? ⟨gb380, 5, none⟩ = some (.int .i64 a0_5) := (blk_cell BK380.out 5).trans rfl
              have hfz492_0 := blk_frozen BK380.out 0
              have hfz492_1 := blk_frozen BK380.out 1
              have hfz492_2 := blk_frozen BK380.out 2
              have hfz492_3 := blk_frozen BK380.out 3
              have hfz492_4 := blk_frozen BK380.out 4
              have hfz492_5 := blk_frozen BK380.out 5
              try go_wp2_with (first | ((with_reducible refine gate_callee (f := 27) rfl ?_); refine goesL_ (some 51) rfl rfl Try.func27 (by kernel_rfl) rfl #[.agg #[.int .i64 a0_0, .int .i64 a0_1], .agg #[.int .i64 a0_2, .int .i64 a0_3], .int .i64 a0_4, .int .i64 a0_5] rfl (by (try simp only [List.map_toArray, List.map_cons, List.map_nil]); first | done | rfl | (simp only [List.length_drop, List.length_take]; rfl)) ?_; (with_reducible refine (affine_Meet.calls kj3 a0_0 a0_1 a0_2 a0_3 a0_4 a0_5 t384 t385 t386 t387 _ A10.out).mono ?_); rintro e w493 ⟨rfl, hb⟩; refine ⟨_, rfl, ?_⟩; have n0_ := Aside0.mk (blk_below (g := gb380) (o := .cells #[.int .i64 a0_0, .int .i64 a0_1, .int .i64 a0_2, .int .i64 a0_3, .int .i64 a0_4, .int .i64 a0_5] 35 (0, 0)) (by (with_reducible repeat (first | refine blk_drewN ?_ _ | refine blk_drew ?_ | refine blk_alloc ?_ _)); refine blk_far ?_ NB380_383.out _; (with_reducible repeat (first | refine blk_drewN ?_ _ | refine blk_drew ?_ | refine blk_alloc ?_ _)); refine blk_far ?_ NB380_383.out _; (with_reducible repeat (first | refine blk_drewN ?_ _ | refine blk_drew ?_ | refine blk_alloc ?_ _)); refine blk_far ?_ NB380_382.out _; (with_reducible repeat (first | refine blk_drewN ?_ _ | refine blk_drew ?_ | refine blk_alloc ?_ _)); refine blk_far ?_ NB380_382.out _; (with_reducible repeat (first | refine blk_drewN ?_ _ | refine blk_drew ?_ | refine blk_alloc ?_ _)); exact BK380.out) hb); have n1_ := Aside0.mk (blk_below (g := gb382) (o := .cells #[.int .i64 a0_0, .int .i64 a0_1] 33 (0, 0)) (by (with_reducible repeat (first | refine blk_drewN ?_ _ | refine blk_drew ?_ | refine blk_alloc ?_ _)); refine blk_far ?_ NB382_383.out _; (with_reducible repeat (first | refine blk_drewN ?_ _ | refine blk_drew ?_ | refine blk_alloc ?_ _)); refine blk_far ?_ NB382_383.out _; (with_reducible repeat (first | refine blk_drewN ?_ _ | refine blk_drew ?_ | refine blk_alloc ?_ _)); refine blk_put (cs := #[.int .i64 a0_0, .int .i64 0]) ?_ 1 _ rfl; (with_reducible repeat (first | refine blk_drewN ?_ _ | refine blk_drew ?_ | refine blk_alloc ?_ _)); refine blk_put (cs := #[.int .i64 0, .int .i64 0]) ?_ 0 _ rfl; (with_reducible repeat (first | refine blk_drewN ?_ _ | refine blk_drew ?_ | refine blk_alloc ?_ _)); exact BK382.out) hb); have n2_ := Aside0.mk (blk_below (g := gb383) (o := .cells #[.int .i64 a0_2, .int .i64 a0_3] 33 (0, 0)) (by (with_reducible repeat (first | refine blk_drewN ?_ _ | refine blk_drew ?_ | refine blk_alloc ?_ _)); refine blk_put (cs := #[.int .i64 a0_2, .int .i64 0]) ?_ 1 _ rfl; (with_reducible repeat (first | refine blk_drewN ?_ _ | refine blk_drew ?_ | refine blk_alloc ?_ _)); refine blk_put (cs := #[.int .i64 0, .int .i64 0]) ?_ 0 _ rfl; (with_reducible repeat (first | refine blk_drewN ?_ _ | refine blk_drew ?_ | refine blk_alloc ?_ _)); refine blk_far ?_ NB383_382.out _; (with_reducible repeat (first | refine blk_drewN ?_ _ | refine blk_drew ?_ | refine blk_alloc ?_ _)); refine blk_far ?_ NB383_382.out _; (with_reducible repeat (first | refine blk_drewN ?_ _ | refine blk_drew ?_ | refine blk_alloc ?_ _)); exact BK383.out) hb); have n3_ := Aside0.mk (below_step (by repeat (first | (with_reducible first | exact HB.out | apply below_alloc | apply pw_below_drewN | apply below_drew1 | refine below_set ?_ GE380.out | refine below_set ?_ GE382.out | refine below_set ?_ GE383.out) | exact HB.out)) hb); clear BK380; clear BK382; clear BK383; clear HB; have BK380 := n0_; have BK382 := n1_; have BK383 := n2_; have HB := n3_; clear n0_ n1_ n2_ n3_; (try clear hb); (try clear hb2); (try clear hk); (try clear hi); have hcz494_0 : w493.cell? ⟨gb382, 0, none⟩ = some (.int .i64 a0_0) := (blk_cell BK382.out 0).trans rfl; have hcz494_1 : w493.cell? ⟨gb382, 1, none⟩ = some (.int .i64 a0_1) := (blk_cell BK382.out 1).trans rfl; have hfz494_0 := blk_frozen BK382.out 0; have hfz494_1 := blk_frozen BK382.out 1; have hcz495_0 : w493.cell? ⟨gb383, 0, none⟩ = some (.int .i64 a0_2) := (blk_cell BK383.out 0).trans rfl; have hcz495_1 : w493.cell? ⟨gb383, 1, none⟩ = some (.int .i64 a0_3) := (blk_cell BK383.out 1).trans rfl; have hfz495_0 := blk_frozen BK383.out 0; have hfz495_1 := blk_frozen BK383.out 1; have hcz496_0 : w493.cell? ⟨gb380, 0, none⟩ = some (.int .i64 a0_0) := (blk_cell BK380.out 0).trans rfl; have hcz496_1 : w493.cell? ⟨gb380, 1, none⟩ = some (.int .i64 a0_1) := (blk_cell BK380.out 1).trans rfl; have hcz496_2 : w493.cell? ⟨gb380, 2, none⟩ = some (.int .i64 a0_2) := (blk_cell BK380.out 2).trans rfl; have hcz496_3 : w493.cell? ⟨gb380, 3, none⟩ = some (.int .i64 a0_3) := (blk_cell BK380.out 3).trans rfl; have hcz496_4 : w493.cell? ⟨gb380, 4, none⟩ = some (.int .i64 a0_4) := (blk_cell BK380.out 4).trans rfl; have hcz496_5 : w493.cell? ⟨gb380, 5, none⟩ = some (.int .i64 a0_5) := (blk_cell BK380.out 5).trans rfl; have hfz496_0 := blk_frozen BK380.out 0; have hfz496_1 := blk_frozen BK380.out 1; have hfz496_2 := blk_frozen BK380.out 2; have hfz496_3 := blk_frozen BK380.out 3; have hfz496_4 := blk_frozen BK380.out 4; have hfz496_5 := blk_frozen BK380.out 5) | ((with_reducible refine gate_callee (f := 27) rfl ?_); refine goesL_ (some 76) rfl rfl Try.func27 (by kernel_rfl) rfl #[.agg #[.int .i64 (wrap64 (a0_0 + a1)), .int .i64 a0_1], .agg #[.int .i64 (wrap64 (a0_2 + a1)), .int .i64 a0_3], .int .i64 a0_4, .int .i64 a0_5] rfl (by (try simp only [List.map_toArray, List.map_cons, List.map_nil]); first | done | rfl | (simp only [List.length_drop, List.length_take]; rfl)) ?_; (with_reducible refine (affine_Meet.calls kj3 (wrap64 (a0_0 + a1)) a0_1 (wrap64 (a0_2 + a1)) a0_3 a0_4 a0_5 t389 t390 t391 t392 _ A12.out).mono ?_); rintro e w497 ⟨rfl, hb⟩; refine ⟨_, rfl, ?_⟩; have n0_ := Aside0.mk (blk_below (g := gb380) (o := .cells #[.int .i64 a0_0, .int .i64 a0_1, .int .i64 a0_2, .int .i64 a0_3, .int .i64 a0_4, .int .i64 a0_5] 35 (0, 0)) (by (with_reducible repeat (first | refine blk_drewN ?_ _ | refine blk_drew ?_ | refine blk_alloc ?_ _)); refine blk_far ?_ NB380_383.out _; (with_reducible repeat (first | refine blk_drewN ?_ _ | refine blk_drew ?_ | refine blk_alloc ?_ _)); refine blk_far ?_ NB380_382.out _; (with_reducible repeat (first | refine blk_drewN ?_ _ | refine blk_drew ?_ | refine blk_alloc ?_ _)); exact BK380.out) hb); have n1_ := Aside0.mk (blk_below (g := gb382) (o := .cells #[.int .i64 (wrap64 (a0_0 + a1)), .int .i64 a0_1] 33 (0, 0)) (by (with_reducible repeat (first | refine blk_drewN ?_ _ | refine blk_drew ?_ | refine blk_alloc ?_ _)); refine blk_far ?_ NB382_383.out _; (with_reducible repeat (first | refine blk_drewN ?_ _ | refine blk_drew ?_ | refine blk_alloc ?_ _)); refine blk_put (cs := #[.int .i64 a0_0, .int .i64 a0_1]) ?_ 0 _ rfl; (with_reducible repeat (first | refine blk_drewN ?_ _ | refine blk_drew ?_ | refine blk_alloc ?_ _)); exact BK382.out) hb); have n2_ := Aside0.mk (blk_below (g := gb383) (o := .cells #[.int .i64 (wrap64 (a0_2 + a1)), .int .i64 a0_3] 33 (0, 0)) (by (with_reducible repeat (first | refine blk_drewN ?_ _ | refine blk_drew ?_ | refine blk_alloc ?_ _)); refine blk_put (cs := #[.int .i64 a0_2, .int .i64 a0_3]) ?_ 0 _ rfl; (with_reducible repeat (first | refine blk_drewN ?_ _ | refine blk_drew ?_ | refine blk_alloc ?_ _)); refine blk_far ?_ NB383_382.out _; (with_reducible repeat (first | refine blk_drewN ?_ _ | refine blk_drew ?_ | refine blk_alloc ?_ _)); exact BK383.out) hb); have n3_ := Aside0.mk (below_step (by repeat (first | (with_reducible first | exact HB.out | apply below_alloc | apply pw_below_drewN | apply below_drew1 | refine below_set ?_ GE380.out | refine below_set ?_ GE382.out | refine below_set ?_ GE383.out) | exact HB.out)) hb); clear BK380; clear BK382; clear BK383; clear HB; have BK380 := n0_; have BK382 := n1_; have BK383 := n2_; have HB := n3_; clear n0_ n1_ n2_ n3_; (try clear hb); (try clear hb2); (try clear hk); (try clear hi)) | (go_at_call 16; (with_reducible refine (biremelaw14_alive.calls kj3  t393 _ A478.out).mono ?_); rintro e w498 ⟨rfl, hb⟩; have n0_ := Aside0.mk (blk_below (g := gb380) (o := .cells #[.int .i64 a0_0, .int .i64 a0_1, .int .i64 a0_2, .int .i64 a0_3, .int .i64 a0_4, .int .i64 a0_5] 35 (0, 0)) (by (with_reducible repeat (first | refine blk_drewN ?_ _ | refine blk_drew ?_ | refine blk_alloc ?_ _)); exact BK380.out) hb); have n1_ := Aside0.mk (blk_below (g := gb382) (o := .cells #[.int .i64 (wrap64 (a0_0 + a1)), .int .i64 a0_1] 33 (0, 0)) (by (with_reducible repeat (first | refine blk_drewN ?_ _ | refine blk_drew ?_ | refine blk_alloc ?_ _)); exact BK382.out) hb); have n2_ := Aside0.mk (blk_below (g := gb383) (o := .cells #[.int .i64 (wrap64 (a0_2 + a1)), .int .i64 a0_3] 33 (0, 0)) (by (with_reducible repeat (first | refine blk_drewN ?_ _ | refine blk_drew ?_ | refine blk_alloc ?_ _)); exact BK383.out) hb); have n3_ := Aside0.mk (below_step (by repeat (first | (with_reducible first | exact HB.out | apply below_alloc | apply pw_below_drewN | apply below_drew1 | refine below_set ?_ GE380.out | refine below_set ?_ GE382.out | refine below_set ?_ GE383.out) | exact HB.out)) hb); clear BK380; clear BK382; clear BK383; clear HB; have BK380 := n0_; have BK382 := n1_; have BK383 := n2_; have HB := n3_; clear n0_ n1_ n2_ n3_; (try clear hb); (try clear hb2); (try clear hk); (try clear hi)))
              go_ret
              exact ⟨by first | rfl | (simp [errW_none, errW_some] <;> rfl) | (simp [*, errW_none, errW_some] <;> rfl), by repeat (first | (with_reducible first | exact HB.out | apply below_alloc | apply pw_below_drewN | apply below_drew1 | refine below_set ?_ GE380.out | refine below_set ?_ GE382.out | refine below_set ?_ GE383.out) | exact HB.out)⟩
            · rw [if_neg c477] at H
              have c477b0 : (t392 == 3) = false := beq_eq_false_iff_ne.mpr c477
              have c477b1 : (t392 != 3) = true := bne_iff_ne.mpr c477
              exact absurd ((Option.some.inj H).trans hr) (by decide)
        · rw [if_neg c11] at H
          have c11b0 : (t387 == 0) = false := beq_eq_false_iff_ne.mpr c11
          have c11b1 : (t387 != 0) = true := bne_iff_ne.mpr c11
          replace H := Option.bind_eq_some_iff.mp H
          obtain ⟨t388, A5180, H⟩ := H
          replace H : (some t388) = some r := H
          have A518 := Aside0.mk A5180
          clear A5180
          obtain rfl := Option.some.inj H
          try go_wp2
          have n0_ := Aside0.mk (blk_drew BK380.out)
          have n1_ := Aside0.mk (below_drew1 HB.out)
          clear BK380
          clear HB
          have BK380 := n0_
          have HB := n1_
          clear n0_ n1_
          refine start_ (n := 8) (S := fun w' => w'.cell? ⟨gb380, 0, none⟩ = some (.int .i64 a0_0) ∧ w'.cell? ⟨gb380, 1, none⟩ = some (.int .i64 a0_1) ∧ w'.cell? ⟨gb380, 2, none⟩ = some (.int .i64 a0_2) ∧ w'.cell? ⟨gb380, 3, none⟩ = some (.int .i64 a0_3) ∧ w'.cell? ⟨gb380, 4, none⟩ = some (.int .i64 a0_4) ∧ w'.cell? ⟨gb380, 5, none⟩ = some (.int .i64 a0_5)) (ds := []) #[false, false, false, false, false, false, false, false] (by kernel_rfl) rfl rfl ⟨(blk_cell BK380.out 0).trans rfl, (blk_cell BK380.out 1).trans rfl, (blk_cell BK380.out 2).trans rfl, (blk_cell BK380.out 3).trans rfl, (blk_cell BK380.out 4).trans rfl, (blk_cell BK380.out 5).trans rfl⟩ (fun hHeld => ?_); refine with_tabW biremelaw14_AffineMoved.tab3 biremelaw14_AffineMoved.bits3 (fun HT_ HW_ => ?_)
          generalize wc.drew = w519 at BK380 HB hHeld ⊢
          refine pure_ (i := 0) (N := some 40) (v := ?_) (a' := ?_) #[true, false, false, false, false, false, false, false] rfl rfl (any_of HT_.out (by kernel_rfl)) (fun _ _ _ h => h) (Or.inl ⟨by rfl, ?_⟩) ?_ ?_
          rotate_left
          · intro w'
            go_simp
            with_reducible rfl
          rotate_left
          · simp only [Act.put, List.setIfInBounds_toArray, List.set_cons_zero, List.set_cons_succ, i64_w, i32_w]
            rfl
          refine pure_ (i := 2) (N := some 42) (v := ?_) (a' := ?_) #[true, false, true, false, false, false, false, false] rfl rfl (any_of HT_.out (by kernel_rfl)) (fun _ _ _ h => h) (Or.inl ⟨by rfl, ?_⟩) ?_ ?_
          rotate_left
          · intro w'
            go_simp
            with_reducible rfl
          rotate_left
          · simp only [Act.put, List.setIfInBounds_toArray, List.set_cons_zero, List.set_cons_succ, i64_w, i32_w]
            rfl
          refine take_ (i := 1) (N := some 41) (v := ?_) (a' := ?_) #[true, true, true, false, false, false, false, false] rfl rfl (take_ofW HT_.out HW_.out (by kernel_rfl)) (fun _ _ _ h => h) (Or.inl ⟨by rfl, ?_⟩) hHeld ?_ ?_
          rotate_left
          · rintro w' ⟨s0, s1, s2, s3, s4, s5⟩
            go_simp
            with_reducible rfl
          rotate_left
          · simp only [Act.put, List.setIfInBounds_toArray, List.set_cons_zero, List.set_cons_succ, i64_w, i32_w]
            rfl
          refine take_ (i := 3) (N := some 43) (v := ?_) (a' := ?_) #[true, true, true, true, false, false, false, false] rfl rfl (take_ofW HT_.out HW_.out (by kernel_rfl)) (fun _ _ _ h => h) (Or.inl ⟨by rfl, ?_⟩) hHeld ?_ ?_
          rotate_left
          · rintro w' ⟨s0, s1, s2, s3, s4, s5⟩
            go_simp
            with_reducible rfl
          rotate_left
          · simp only [Act.put, List.setIfInBounds_toArray, List.set_cons_zero, List.set_cons_succ, i64_w, i32_w]
            rfl
          refine join_ (σ := Nat × Nat) 2 #[true, true, true, true, true, true, false, false] (fun s_ => [(7, .pointer (some ⟨s_.1, 0, none⟩)), (8, .pointer (some ⟨s_.2, 0, none⟩))]) (fun s_ w' => (w'.cell? ⟨gb380, 0, none⟩ = some (.int .i64 a0_0) ∧ w'.cell? ⟨gb380, 1, none⟩ = some (.int .i64 a0_1) ∧ w'.cell? ⟨gb380, 2, none⟩ = some (.int .i64 a0_2) ∧ w'.cell? ⟨gb380, 3, none⟩ = some (.int .i64 a0_3) ∧ w'.cell? ⟨gb380, 4, none⟩ = some (.int .i64 a0_4) ∧ w'.cell? ⟨gb380, 5, none⟩ = some (.int .i64 a0_5)) ∧ (w'.heap[gb380]? = some (.cells #[.int .i64 a0_0, .int .i64 a0_1, .int .i64 a0_2, .int .i64 a0_3, .int .i64 a0_4, .int .i64 a0_5] 35 (0, 0))) ∧ (w'.heap[s_.1]? = some (.cells #[.int .i64 0, .int .i64 0] 33 (0, 0))) ∧ (w'.heap[s_.2]? = some (.cells #[.int .i64 0, .int .i64 0] 33 (0, 0))) ∧ (w.heap.size ≤ s_.1) ∧ (w.heap.size ≤ s_.1) ∧ (gb380 ≠ s_.1) ∧ (s_.1 ≠ gb380) ∧ (s_.2 ≠ s_.1) ∧ (s_.1 ≠ s_.2) ∧ (w.heap.size ≤ s_.2) ∧ (w.heap.size ≤ s_.2) ∧ (gb380 ≠ s_.2) ∧ (s_.2 ≠ gb380) ∧ (Below w.heap.size w w')) ?_ ?_
          rotate_left
          · intro hCont
            refine two_ (i := 4) (j := 5) (Ni := some 7) (Nj := some 8) #[true, true, true, true, true, false, false, false] #[true, true, true, true, false, true, false, false] rfl rfl rfl rfl (two_of HT_.out (by kernel_rfl)) (by decide) (by decide) (fun K hK => ?_) (fun K hK => ?_)
            · skip
              refine box_step ?hg (N := 7) ?hd (cs := #[.int .i64 0, .int .i64 0]) (t := 33) ?hr ?_; (case hd => rfl); (case hg => rfl); (case hr => first | (go_simp; done) | (go_simp; rfl))
              intro gb382 hg w520 hbox hb
              have n0_ := Aside0.mk (blk_below (g := gb380) (o := .cells #[.int .i64 a0_0, .int .i64 a0_1, .int .i64 a0_2, .int .i64 a0_3, .int .i64 a0_4, .int .i64 a0_5] 35 (0, 0)) (by (with_reducible repeat (first | refine blk_drewN ?_ _ | refine blk_drew ?_ | refine blk_alloc ?_ _)); exact BK380.out) hb)
              have n1_ := Aside0.mk (below_step (by repeat (first | (with_reducible first | exact HB.out | apply below_alloc | apply pw_below_drewN | apply below_drew1 | refine below_set ?_ GE380.out) | exact HB.out)) hb)
              have n2_ := Aside0.mk (hbox)
              have n3_ := Aside0.mk ((by rw [hg]; exact (below_size (by repeat (first | (with_reducible first | exact HB.out | apply below_alloc | apply pw_below_drewN | apply below_drew1 | refine below_set ?_ GE380.out) | exact HB.out))) : w.heap.size ≤ gb382))
              have n4_ := Aside0.mk ((by rw [hg]; exact (below_size (by repeat (first | (with_reducible first | exact HB.out | apply below_alloc | apply pw_below_drewN | apply below_drew1 | refine below_set ?_ GE380.out) | exact HB.out))) : w.heap.size ≤ gb382))
              have n5_ := Aside0.mk ((by rw [hg]; exact Nat.ne_of_lt (blk_lt (g := gb380) (o := .cells #[.int .i64 a0_0, .int .i64 a0_1, .int .i64 a0_2, .int .i64 a0_3, .int .i64 a0_4, .int .i64 a0_5] 35 (0, 0)) (by (with_reducible repeat (first | refine blk_drewN ?_ _ | refine blk_drew ?_ | refine blk_alloc ?_ _)); exact BK380.out)) : gb380 ≠ gb382))
              have n6_ := Aside0.mk ((by rw [hg]; exact Nat.ne_of_gt (blk_lt (g := gb380) (o := .cells #[.int .i64 a0_0, .int .i64 a0_1, .int .i64 a0_2, .int .i64 a0_3, .int .i64 a0_4, .int .i64 a0_5] 35 (0, 0)) (by (with_reducible repeat (first | refine blk_drewN ?_ _ | refine blk_drew ?_ | refine blk_alloc ?_ _)); exact BK380.out)) : gb382 ≠ gb380))
              clear BK380
              clear HB
              have BK380 := n0_
              have HB := n1_
              have BK382 := n2_
              have GW382 := n3_
              have GE382 := n4_
              have NB380_382 := n5_
              have NB382_380 := n6_
              clear n0_ n1_ n2_ n3_ n4_ n5_ n6_
              clear hb hbox hg
              refine hK.out _ _ ⟨(blk_cell BK380.out 0).trans rfl, (blk_cell BK380.out 1).trans rfl, (blk_cell BK380.out 2).trans rfl, (blk_cell BK380.out 3).trans rfl, (blk_cell BK380.out 4).trans rfl, (blk_cell BK380.out 5).trans rfl⟩ (fun hHeld => ?_)
              clear hK K
              refine norm_ (a' := ?_) ?_ ?_
              rotate_left
              · show Act.put _ (some 7) _ = _
                simp only [Act.put, List.setIfInBounds_toArray, List.set_cons_zero, List.set_cons_succ, i64_w, i32_w]
                rfl
              refine one_ (i := 5) (N := some 8) #[true, true, true, true, true, true, false, false] rfl rfl (one_of HT_.out (by kernel_rfl)) (by decide) (fun K hK => ?_)
              refine box_step ?hg (N := 8) ?hd (cs := #[.int .i64 0, .int .i64 0]) (t := 33) ?hr ?_; (case hd => rfl); (case hg => rfl); (case hr => first | (go_simp; done) | (go_simp; rfl))
              intro gb383 hg w521 hbox hb
              have n0_ := Aside0.mk (blk_below (g := gb380) (o := .cells #[.int .i64 a0_0, .int .i64 a0_1, .int .i64 a0_2, .int .i64 a0_3, .int .i64 a0_4, .int .i64 a0_5] 35 (0, 0)) (by (with_reducible repeat (first | refine blk_drewN ?_ _ | refine blk_drew ?_ | refine blk_alloc ?_ _)); exact BK380.out) hb)
              have n1_ := Aside0.mk (blk_below (g := gb382) (o := .cells #[.int .i64 0, .int .i64 0] 33 (0, 0)) (by (with_reducible repeat (first | refine blk_drewN ?_ _ | refine blk_drew ?_ | refine blk_alloc ?_ _)); exact BK382.out) hb)
              have n2_ := Aside0.mk (below_step (by repeat (first | (with_reducible first | exact HB.out | apply below_alloc | apply pw_below_drewN | apply below_drew1 | refine below_set ?_ GE380.out | refine below_set ?_ GE382.out) | exact HB.out)) hb)
              have n3_ := Aside0.mk (hbox)
              have n4_ := Aside0.mk ((by rw [hg]; exact (below_size (by repeat (first | (with_reducible first | exact HB.out | apply below_alloc | apply pw_below_drewN | apply below_drew1 | refine below_set ?_ GE380.out | refine below_set ?_ GE382.out) | exact HB.out))) : w.heap.size ≤ gb383))
              have n5_ := Aside0.mk ((by rw [hg]; exact (below_size (by repeat (first | (with_reducible first | exact HB.out | apply below_alloc | apply pw_below_drewN | apply below_drew1 | refine below_set ?_ GE380.out | refine below_set ?_ GE382.out) | exact HB.out))) : w.heap.size ≤ gb383))
              have n6_ := Aside0.mk ((by rw [hg]; exact Nat.ne_of_lt (blk_lt (g := gb380) (o := .cells #[.int .i64 a0_0, .int .i64 a0_1, .int .i64 a0_2, .int .i64 a0_3, .int .i64 a0_4, .int .i64 a0_5] 35 (0, 0)) (by (with_reducible repeat (first | refine blk_drewN ?_ _ | refine blk_drew ?_ | refine blk_alloc ?_ _)); exact BK380.out)) : gb380 ≠ gb383))
              have n7_ := Aside0.mk ((by rw [hg]; exact Nat.ne_of_gt (blk_lt (g := gb380) (o := .cells #[.int .i64 a0_0, .int .i64 a0_1, .int .i64 a0_2, .int .i64 a0_3, .int .i64 a0_4, .int .i64 a0_5] 35 (0, 0)) (by (with_reducible repeat (first | refine blk_drewN ?_ _ | refine blk_drew ?_ | refine blk_alloc ?_ _)); exact BK380.out)) : gb383 ≠ gb380))
              have n8_ := Aside0.mk ((by rw [hg]; exact Nat.ne_of_lt (blk_lt (g := gb382) (o := .cells #[.int .i64 0, .int .i64 0] 33 (0, 0)) (by (with_reducible repeat (first | refine blk_drewN ?_ _ | refine blk_drew ?_ | refine blk_alloc ?_ _)); exact BK382.out)) : gb382 ≠ gb383))
              have n9_ := Aside0.mk ((by rw [hg]; exact Nat.ne_of_gt (blk_lt (g := gb382) (o := .cells #[.int .i64 0, .int .i64 0] 33 (0, 0)) (by (with_reducible repeat (first | refine blk_drewN ?_ _ | refine blk_drew ?_ | refine blk_alloc ?_ _)); exact BK382.out)) : gb383 ≠ gb382))
              clear BK380
              clear BK382
              clear HB
              have BK380 := n0_
              have BK382 := n1_
              have HB := n2_
              have BK383 := n3_
              have GW383 := n4_
              have GE383 := n5_
              have NB380_383 := n6_
              have NB383_380 := n7_
              have NB382_383 := n8_
              have NB383_382 := n9_
              clear n0_ n1_ n2_ n3_ n4_ n5_ n6_ n7_ n8_ n9_
              clear hb hbox hg
              refine hK.out _ _ ⟨(blk_cell BK380.out 0).trans rfl, (blk_cell BK380.out 1).trans rfl, (blk_cell BK380.out 2).trans rfl, (blk_cell BK380.out 3).trans rfl, (blk_cell BK380.out 4).trans rfl, (blk_cell BK380.out 5).trans rfl⟩ (fun hHeld => ?_)
              clear hK K
              refine norm_ (a' := ?_) ?_ ?_
              rotate_left
              · show Act.put _ (some 8) _ = _
                simp only [Act.put, List.setIfInBounds_toArray, List.set_cons_zero, List.set_cons_succ, i64_w, i32_w]
                rfl
              exact norm_ (by simp only [putAll, Act.put, List.setIfInBounds_toArray, List.set_cons_zero, List.set_cons_succ]) (hCont (gb382, gb383) _ ⟨hHeld, (by (with_reducible repeat (first | refine blk_drewN ?_ _ | refine blk_drew ?_ | refine blk_alloc ?_ _)); exact BK380.out), (by (with_reducible repeat (first | refine blk_drewN ?_ _ | refine blk_drew ?_ | refine blk_alloc ?_ _)); exact BK382.out), (by (with_reducible repeat (first | refine blk_drewN ?_ _ | refine blk_drew ?_ | refine blk_alloc ?_ _)); exact BK383.out), GW382.out, GE382.out, NB380_382.out, NB382_380.out, NB383_382.out, NB382_383.out, GW383.out, GE383.out, NB380_383.out, NB383_380.out, (by repeat (first | (with_reducible first | exact HB.out | apply below_alloc | apply pw_below_drewN | apply below_drew1 | refine below_set ?_ GE380.out | refine below_set ?_ GE382.out | refine below_set ?_ GE383.out) | exact HB.out))⟩)
            · skip
              refine box_step ?hg (N := 8) ?hd (cs := #[.int .i64 0, .int .i64 0]) (t := 33) ?hr ?_; (case hd => rfl); (case hg => rfl); (case hr => first | (go_simp; done) | (go_simp; rfl))
              intro gb383 hg w520 hbox hb
              have n0_ := Aside0.mk (blk_below (g := gb380) (o := .cells #[.int .i64 a0_0, .int .i64 a0_1, .int .i64 a0_2, .int .i64 a0_3, .int .i64 a0_4, .int .i64 a0_5] 35 (0, 0)) (by (with_reducible repeat (first | refine blk_drewN ?_ _ | refine blk_drew ?_ | refine blk_alloc ?_ _)); exact BK380.out) hb)
              have n1_ := Aside0.mk (below_step (by repeat (first | (with_reducible first | exact HB.out | apply below_alloc | apply pw_below_drewN | apply below_drew1 | refine below_set ?_ GE380.out) | exact HB.out)) hb)
              have n2_ := Aside0.mk (hbox)
              have n3_ := Aside0.mk ((by rw [hg]; exact (below_size (by repeat (first | (with_reducible first | exact HB.out | apply below_alloc | apply pw_below_drewN | apply below_drew1 | refine below_set ?_ GE380.out) | exact HB.out))) : w.heap.size ≤ gb383))
              have n4_ := Aside0.mk ((by rw [hg]; exact (below_size (by repeat (first | (with_reducible first | exact HB.out | apply below_alloc | apply pw_below_drewN | apply below_drew1 | refine below_set ?_ GE380.out) | exact HB.out))) : w.heap.size ≤ gb383))
              have n5_ := Aside0.mk ((by rw [hg]; exact Nat.ne_of_lt (blk_lt (g := gb380) (o := .cells #[.int .i64 a0_0, .int .i64 a0_1, .int .i64 a0_2, .int .i64 a0_3, .int .i64 a0_4, .int .i64 a0_5] 35 (0, 0)) (by (with_reducible repeat (first | refine blk_drewN ?_ _ | refine blk_drew ?_ | refine blk_alloc ?_ _)); exact BK380.out)) : gb380 ≠ gb383))
              have n6_ := Aside0.mk ((by rw [hg]; exact Nat.ne_of_gt (blk_lt (g := gb380) (o := .cells #[.int .i64 a0_0, .int .i64 a0_1, .int .i64 a0_2, .int .i64 a0_3, .int .i64 a0_4, .int .i64 a0_5] 35 (0, 0)) (by (with_reducible repeat (first | refine blk_drewN ?_ _ | refine blk_drew ?_ | refine blk_alloc ?_ _)); exact BK380.out)) : gb383 ≠ gb380))
              clear BK380
              clear HB
              have BK380 := n0_
              have HB := n1_
              have BK383 := n2_
              have GW383 := n3_
              have GE383 := n4_
              have NB380_383 := n5_
              have NB383_380 := n6_
              clear n0_ n1_ n2_ n3_ n4_ n5_ n6_
              clear hb hbox hg
              refine hK.out _ _ ⟨(blk_cell BK380.out 0).trans rfl, (blk_cell BK380.out 1).trans rfl, (blk_cell BK380.out 2).trans rfl, (blk_cell BK380.out 3).trans rfl, (blk_cell BK380.out 4).trans rfl, (blk_cell BK380.out 5).trans rfl⟩ (fun hHeld => ?_)
              clear hK K
              refine norm_ (a' := ?_) ?_ ?_
              rotate_left
              · show Act.put _ (some 8) _ = _
                simp only [Act.put, List.setIfInBounds_toArray, List.set_cons_zero, List.set_cons_succ, i64_w, i32_w]
                rfl
              refine one_ (i := 4) (N := some 7) #[true, true, true, true, true, true, false, false] rfl rfl (one_of HT_.out (by kernel_rfl)) (by decide) (fun K hK => ?_)
              refine box_step ?hg (N := 7) ?hd (cs := #[.int .i64 0, .int .i64 0]) (t := 33) ?hr ?_; (case hd => rfl); (case hg => rfl); (case hr => first | (go_simp; done) | (go_simp; rfl))
              intro gb382 hg w521 hbox hb
              have n0_ := Aside0.mk (blk_below (g := gb380) (o := .cells #[.int .i64 a0_0, .int .i64 a0_1, .int .i64 a0_2, .int .i64 a0_3, .int .i64 a0_4, .int .i64 a0_5] 35 (0, 0)) (by (with_reducible repeat (first | refine blk_drewN ?_ _ | refine blk_drew ?_ | refine blk_alloc ?_ _)); exact BK380.out) hb)
              have n1_ := Aside0.mk (blk_below (g := gb383) (o := .cells #[.int .i64 0, .int .i64 0] 33 (0, 0)) (by (with_reducible repeat (first | refine blk_drewN ?_ _ | refine blk_drew ?_ | refine blk_alloc ?_ _)); exact BK383.out) hb)
              have n2_ := Aside0.mk (below_step (by repeat (first | (with_reducible first | exact HB.out | apply below_alloc | apply pw_below_drewN | apply below_drew1 | refine below_set ?_ GE380.out | refine below_set ?_ GE383.out) | exact HB.out)) hb)
              have n3_ := Aside0.mk (hbox)
              have n4_ := Aside0.mk ((by rw [hg]; exact (below_size (by repeat (first | (with_reducible first | exact HB.out | apply below_alloc | apply pw_below_drewN | apply below_drew1 | refine below_set ?_ GE380.out | refine below_set ?_ GE383.out) | exact HB.out))) : w.heap.size ≤ gb382))
              have n5_ := Aside0.mk ((by rw [hg]; exact (below_size (by repeat (first | (with_reducible first | exact HB.out | apply below_alloc | apply pw_below_drewN | apply below_drew1 | refine below_set ?_ GE380.out | refine below_set ?_ GE383.out) | exact HB.out))) : w.heap.size ≤ gb382))
              have n6_ := Aside0.mk ((by rw [hg]; exact Nat.ne_of_lt (blk_lt (g := gb380) (o := .cells #[.int .i64 a0_0, .int .i64 a0_1, .int .i64 a0_2, .int .i64 a0_3, .int .i64 a0_4, .int .i64 a0_5] 35 (0, 0)) (by (with_reducible repeat (first | refine blk_drewN ?_ _ | refine blk_drew ?_ | refine blk_alloc ?_ _)); exact BK380.out)) : gb380 ≠ gb382))
              have n7_ := Aside0.mk ((by rw [hg]; exact Nat.ne_of_gt (blk_lt (g := gb380) (o := .cells #[.int .i64 a0_0, .int .i64 a0_1, .int .i64 a0_2, .int .i64 a0_3, .int .i64 a0_4, .int .i64 a0_5] 35 (0, 0)) (by (with_reducible repeat (first | refine blk_drewN ?_ _ | refine blk_drew ?_ | refine blk_alloc ?_ _)); exact BK380.out)) : gb382 ≠ gb380))
              have n8_ := Aside0.mk ((by rw [hg]; exact Nat.ne_of_lt (blk_lt (g := gb383) (o := .cells #[.int .i64 0, .int .i64 0] 33 (0, 0)) (by (with_reducible repeat (first | refine blk_drewN ?_ _ | refine blk_drew ?_ | refine blk_alloc ?_ _)); exact BK383.out)) : gb383 ≠ gb382))
              have n9_ := Aside0.mk ((by rw [hg]; exact Nat.ne_of_gt (blk_lt (g := gb383) (o := .cells #[.int .i64 0, .int .i64 0] 33 (0, 0)) (by (with_reducible repeat (first | refine blk_drewN ?_ _ | refine blk_drew ?_ | refine blk_alloc ?_ _)); exact BK383.out)) : gb382 ≠ gb383))
              clear BK380
              clear BK383
              clear HB
              have BK380 := n0_
              have BK383 := n1_
              have HB := n2_
              have BK382 := n3_
              have GW382 := n4_
              have GE382 := n5_
              have NB380_382 := n6_
              have NB382_380 := n7_
              have NB383_382 := n8_
              have NB382_383 := n9_
              clear n0_ n1_ n2_ n3_ n4_ n5_ n6_ n7_ n8_ n9_
              clear hb hbox hg
              refine hK.out _ _ ⟨(blk_cell BK380.out 0).trans rfl, (blk_cell BK380.out 1).trans rfl, (blk_cell BK380.out 2).trans rfl, (blk_cell BK380.out 3).trans rfl, (blk_cell BK380.out 4).trans rfl, (blk_cell BK380.out 5).trans rfl⟩ (fun hHeld => ?_)
              clear hK K
              refine norm_ (a' := ?_) ?_ ?_
              rotate_left
              · show Act.put _ (some 7) _ = _
                simp only [Act.put, List.setIfInBounds_toArray, List.set_cons_zero, List.set_cons_succ, i64_w, i32_w]
                rfl
              exact norm_ (by simp only [putAll, Act.put, List.setIfInBounds_toArray, List.set_cons_zero, List.set_cons_succ]) (hCont (gb382, gb383) _ ⟨hHeld, (by (with_reducible repeat (first | refine blk_drewN ?_ _ | refine blk_drew ?_ | refine blk_alloc ?_ _)); exact BK380.out), (by (with_reducible repeat (first | refine blk_drewN ?_ _ | refine blk_drew ?_ | refine blk_alloc ?_ _)); exact BK382.out), (by (with_reducible repeat (first | refine blk_drewN ?_ _ | refine blk_drew ?_ | refine blk_alloc ?_ _)); exact BK383.out), GW382.out, GE382.out, NB380_382.out, NB382_380.out, NB383_382.out, NB382_383.out, GW383.out, GE383.out, NB380_383.out, NB383_380.out, (by repeat (first | (with_reducible first | exact HB.out | apply below_alloc | apply pw_below_drewN | apply below_drew1 | refine below_set ?_ GE380.out | refine below_set ?_ GE383.out | refine below_set ?_ GE382.out) | exact HB.out))⟩)
          rintro ⟨gb382, gb383⟩ w522 ⟨hS_, h0_, h1_, h2_, h3_, h4_, h5_, h6_, h7_, h8_, h9_, h10_, h11_, h12_, h13_⟩
          have n0_ : Aside0 (w522.heap[gb380]? = some (.cells #[.int .i64 a0_0, .int .i64 a0_1, .int .i64 a0_2, .int .i64 a0_3, .int .i64 a0_4, .int .i64 a0_5] 35 (0, 0))) := ⟨h0_⟩
          have n1_ : Aside0 (w522.heap[gb382]? = some (.cells #[.int .i64 0, .int .i64 0] 33 (0, 0))) := ⟨h1_⟩
          have n2_ : Aside0 (w522.heap[gb383]? = some (.cells #[.int .i64 0, .int .i64 0] 33 (0, 0))) := ⟨h2_⟩
          have n3_ : Aside0 (w.heap.size ≤ gb382) := ⟨h3_⟩
          have n4_ : Aside0 (w.heap.size ≤ gb382) := ⟨h4_⟩
          have n5_ : Aside0 (gb380 ≠ gb382) := ⟨h5_⟩
          have n6_ : Aside0 (gb382 ≠ gb380) := ⟨h6_⟩
          have n7_ : Aside0 (gb383 ≠ gb382) := ⟨h7_⟩
          have n8_ : Aside0 (gb382 ≠ gb383) := ⟨h8_⟩
          have n9_ : Aside0 (w.heap.size ≤ gb383) := ⟨h9_⟩
          have n10_ : Aside0 (w.heap.size ≤ gb383) := ⟨h10_⟩
          have n11_ : Aside0 (gb380 ≠ gb383) := ⟨h11_⟩
          have n12_ : Aside0 (gb383 ≠ gb380) := ⟨h12_⟩
          have n13_ : Aside0 (Below w.heap.size w w522) := ⟨h13_⟩
          clear BK380
          clear HB
          clear h0_ h1_ h2_ h3_ h4_ h5_ h6_ h7_ h8_ h9_ h10_ h11_ h12_ h13_
          have BK380 := n0_
          have BK382 := n1_
          have BK383 := n2_
          have GW382 := n3_
          have GE382 := n4_
          have NB380_382 := n5_
          have NB382_380 := n6_
          have NB383_382 := n7_
          have NB382_383 := n8_
          have GW383 := n9_
          have GE383 := n10_
          have NB380_383 := n11_
          have NB383_380 := n12_
          have HB := n13_
          clear n0_ n1_ n2_ n3_ n4_ n5_ n6_ n7_ n8_ n9_ n10_ n11_ n12_ n13_
          have hHeld : w522.cell? ⟨gb380, 0, none⟩ = some (.int .i64 a0_0) ∧ w522.cell? ⟨gb380, 1, none⟩ = some (.int .i64 a0_1) ∧ w522.cell? ⟨gb380, 2, none⟩ = some (.int .i64 a0_2) ∧ w522.cell? ⟨gb380, 3, none⟩ = some (.int .i64 a0_3) ∧ w522.cell? ⟨gb380, 4, none⟩ = some (.int .i64 a0_4) ∧ w522.cell? ⟨gb380, 5, none⟩ = some (.int .i64 a0_5) := hS_
          refine norm_ (a' := ?_) ?_ ?_
          rotate_left
          · simp only [putAll, Act.put, List.setIfInBounds_toArray, List.set_cons_zero, List.set_cons_succ]
            rfl
          refine one_ (i := 6) (N := none) #[true, true, true, true, true, true, true, false] rfl rfl (one_of HT_.out (by kernel_rfl)) (by decide) (fun K hK => ?_)
          have hs523 : w522.cell? ⟨gb382, 0, none⟩ = some (.int .i64 0) := (blk_cell BK382.out 0).trans rfl
          have hfs523 := blk_frozen BK382.out 0
          have hns523_0 := NB380_382.out
          have hns523_2 := NB383_382.out
          have hms523_0 := NB382_380.out
          have hms523_2 := NB382_383.out
          have hs524 : w522.cell? ⟨gb382, 1, none⟩ = some (.int .i64 0) := (blk_cell BK382.out 1).trans rfl
          have hfs524 := blk_frozen BK382.out 1
          have hns524_0 := NB380_382.out
          have hns524_2 := NB383_382.out
          have hms524_0 := NB382_380.out
          have hms524_2 := NB382_383.out
          refine skip_ (w1 := ?_) (by rfl) rfl ?_ ?_
          rotate_left
          · go_simp
            rfl
          refine hK.out _ _ ⟨((cell_far (p := ⟨gb382, _, none⟩) NB380_382.out _).trans (((cell_far (p := ⟨gb382, _, none⟩) NB380_382.out _).trans (hHeld.1)))), ((cell_far (p := ⟨gb382, _, none⟩) NB380_382.out _).trans (((cell_far (p := ⟨gb382, _, none⟩) NB380_382.out _).trans (hHeld.2.1)))), ((cell_far (p := ⟨gb382, _, none⟩) NB380_382.out _).trans (((cell_far (p := ⟨gb382, _, none⟩) NB380_382.out _).trans (hHeld.2.2.1)))), ((cell_far (p := ⟨gb382, _, none⟩) NB380_382.out _).trans (((cell_far (p := ⟨gb382, _, none⟩) NB380_382.out _).trans (hHeld.2.2.2.1)))), ((cell_far (p := ⟨gb382, _, none⟩) NB380_382.out _).trans (((cell_far (p := ⟨gb382, _, none⟩) NB380_382.out _).trans (hHeld.2.2.2.2.1)))), ((cell_far (p := ⟨gb382, _, none⟩) NB380_382.out _).trans (((cell_far (p := ⟨gb382, _, none⟩) NB380_382.out _).trans (hHeld.2.2.2.2.2))))⟩ (fun hHeld => ?_)
          clear hK K
          refine one_ (i := 7) (N := none) #[true, true, true, true, true, true, true, true] rfl rfl (one_of HT_.out (by kernel_rfl)) (by decide) (fun K hK => ?_)
          have hs525 : w522.cell? ⟨gb383, 0, none⟩ = some (.int .i64 0) := (blk_cell BK383.out 0).trans rfl
          have hfs525 := blk_frozen BK383.out 0
          have hns525_0 := NB380_383.out
          have hns525_1 := NB382_383.out
          have hms525_0 := NB383_380.out
          have hms525_1 := NB383_382.out
          have hs526 : w522.cell? ⟨gb383, 1, none⟩ = some (.int .i64 0) := (blk_cell BK383.out 1).trans rfl
          have hfs526 := blk_frozen BK383.out 1
          have hns526_0 := NB380_383.out
          have hns526_1 := NB382_383.out
          have hms526_0 := NB383_380.out
          have hms526_1 := NB383_382.out
          refine skip_ (w1 := ?_) (by rfl) rfl ?_ ?_
          rotate_left
          · go_simp
            rfl
          refine hK.out _ _ ⟨((cell_far (p := ⟨gb383, _, none⟩) NB380_383.out _).trans (((cell_far (p := ⟨gb383, _, none⟩) NB380_383.out _).trans (hHeld.1)))), ((cell_far (p := ⟨gb383, _, none⟩) NB380_383.out _).trans (((cell_far (p := ⟨gb383, _, none⟩) NB380_383.out _).trans (hHeld.2.1)))), ((cell_far (p := ⟨gb383, _, none⟩) NB380_383.out _).trans (((cell_far (p := ⟨gb383, _, none⟩) NB380_383.out _).trans (hHeld.2.2.1)))), ((cell_far (p := ⟨gb383, _, none⟩) NB380_383.out _).trans (((cell_far (p := ⟨gb383, _, none⟩) NB380_383.out _).trans (hHeld.2.2.2.1)))), ((cell_far (p := ⟨gb383, _, none⟩) NB380_383.out _).trans (((cell_far (p := ⟨gb383, _, none⟩) NB380_383.out _).trans (hHeld.2.2.2.2.1)))), ((cell_far (p := ⟨gb383, _, none⟩) NB380_383.out _).trans (((cell_far (p := ⟨gb383, _, none⟩) NB380_383.out _).trans (hHeld.2.2.2.2.2))))⟩ (fun hHeld => ?_)
          clear hK K
          refine done_ (done_of HT_.out (by kernel_rfl)) ?_
          have hnb527 := NB382_380.out
          have hnc527 := NB380_382.out
          have hnb528 := NB382_383.out
          have hnc528 := NB383_382.out
          have hcz529_0 : w522.cell? ⟨gb382, 0, none⟩ = some (.int .i64 0) := (blk_cell BK382.out 0).trans rfl
          have hcz529_1 : w522.cell? ⟨gb382, 1, none⟩ = some (.int .i64 0) := (blk_cell BK382.out 1).trans rfl
          have hfz529_0 := blk_frozen BK382.out 0
          have hfz529_1 := blk_frozen BK382.out 1
          have hnb530 := NB383_380.out
          have hnc530 := NB380_383.out
          have hcz531_0 : w522.cell? ⟨gb383, 0, none⟩ = some (.int .i64 0) := (blk_cell BK383.out 0).trans rfl
          have hcz531_1 : w522.cell? ⟨gb383, 1, none⟩ = some (.int .i64 0) := (blk_cell BK383.out 1).trans rfl
          have hfz531_0 := blk_frozen BK383.out 0
          have hfz531_1 := blk_frozen BK383.out 1
          have hcz532_0 : w522.cell? ⟨gb380, 0, none⟩ = some (.int .i64 a0_0) := (blk_cell BK380.out 0).trans rfl
          have hcz532_1 : w522.cell? ⟨gb380, 1, none⟩ = some (.int .i64 a0_1) := (blk_cell BK380.out 1).trans rfl
          have hcz532_2 : w522.cell? ⟨gb380, 2, none⟩ = some (.int .i64 a0_2) := (blk_cell BK380.out 2).trans rfl
          have hcz532_3 : w522.cell? ⟨gb380, 3, none⟩ = some (.int .i64 a0_3) := (blk_cell BK380.out 3).trans rfl
          have hcz532_4 : w522.cell? ⟨gb380, 4, none⟩ = some (.int .i64 a0_4) := (blk_cell BK380.out 4).trans rfl
          have hcz532_5 : w522.cell? ⟨gb380, 5, none⟩ = some (.int .i64 a0_5) := (blk_cell BK380.out 5).trans rfl
          have hfz532_0 := blk_frozen BK380.out 0
          have hfz532_1 := blk_frozen BK380.out 1
          have hfz532_2 := blk_frozen BK380.out 2
          have hfz532_3 := blk_frozen BK380.out 3
          have hfz532_4 := blk_frozen BK380.out 4
          have hfz532_5 := blk_frozen BK380.out 5
          try go_wp2_with (first | ((with_reducible refine gate_callee (f := 27) rfl ?_); refine goesL_ (some 51) rfl rfl Try.func27 (by kernel_rfl) rfl #[.agg #[.int .i64 a0_0, .int .i64 a0_1], .agg #[.int .i64 a0_2, .int .i64 a0_3], .int .i64 a0_4, .int .i64 a0_5] rfl (by (try simp only [List.map_toArray, List.map_cons, List.map_nil]); first | done | rfl | (simp only [List.length_drop, List.length_take]; rfl)) ?_; (with_reducible refine (affine_Meet.calls kj3 a0_0 a0_1 a0_2 a0_3 a0_4 a0_5 t384 t385 t386 t387 _ A10.out).mono ?_); rintro e w533 ⟨rfl, hb⟩; refine ⟨_, rfl, ?_⟩; have n0_ := Aside0.mk (blk_below (g := gb380) (o := .cells #[.int .i64 a0_0, .int .i64 a0_1, .int .i64 a0_2, .int .i64 a0_3, .int .i64 a0_4, .int .i64 a0_5] 35 (0, 0)) (by (with_reducible repeat (first | refine blk_drewN ?_ _ | refine blk_drew ?_ | refine blk_alloc ?_ _)); refine blk_far ?_ NB380_383.out _; (with_reducible repeat (first | refine blk_drewN ?_ _ | refine blk_drew ?_ | refine blk_alloc ?_ _)); refine blk_far ?_ NB380_383.out _; (with_reducible repeat (first | refine blk_drewN ?_ _ | refine blk_drew ?_ | refine blk_alloc ?_ _)); refine blk_far ?_ NB380_382.out _; (with_reducible repeat (first | refine blk_drewN ?_ _ | refine blk_drew ?_ | refine blk_alloc ?_ _)); refine blk_far ?_ NB380_382.out _; (with_reducible repeat (first | refine blk_drewN ?_ _ | refine blk_drew ?_ | refine blk_alloc ?_ _)); exact BK380.out) hb); have n1_ := Aside0.mk (blk_below (g := gb382) (o := .cells #[.int .i64 a0_0, .int .i64 a0_1] 33 (0, 0)) (by (with_reducible repeat (first | refine blk_drewN ?_ _ | refine blk_drew ?_ | refine blk_alloc ?_ _)); refine blk_far ?_ NB382_383.out _; (with_reducible repeat (first | refine blk_drewN ?_ _ | refine blk_drew ?_ | refine blk_alloc ?_ _)); refine blk_far ?_ NB382_383.out _; (with_reducible repeat (first | refine blk_drewN ?_ _ | refine blk_drew ?_ | refine blk_alloc ?_ _)); refine blk_put (cs := #[.int .i64 a0_0, .int .i64 0]) ?_ 1 _ rfl; (with_reducible repeat (first | refine blk_drewN ?_ _ | refine blk_drew ?_ | refine blk_alloc ?_ _)); refine blk_put (cs := #[.int .i64 0, .int .i64 0]) ?_ 0 _ rfl; (with_reducible repeat (first | refine blk_drewN ?_ _ | refine blk_drew ?_ | refine blk_alloc ?_ _)); exact BK382.out) hb); have n2_ := Aside0.mk (blk_below (g := gb383) (o := .cells #[.int .i64 a0_2, .int .i64 a0_3] 33 (0, 0)) (by (with_reducible repeat (first | refine blk_drewN ?_ _ | refine blk_drew ?_ | refine blk_alloc ?_ _)); refine blk_put (cs := #[.int .i64 a0_2, .int .i64 0]) ?_ 1 _ rfl; (with_reducible repeat (first | refine blk_drewN ?_ _ | refine blk_drew ?_ | refine blk_alloc ?_ _)); refine blk_put (cs := #[.int .i64 0, .int .i64 0]) ?_ 0 _ rfl; (with_reducible repeat (first | refine blk_drewN ?_ _ | refine blk_drew ?_ | refine blk_alloc ?_ _)); refine blk_far ?_ NB383_382.out _; (with_reducible repeat (first | refine blk_drewN ?_ _ | refine blk_drew ?_ | refine blk_alloc ?_ _)); refine blk_far ?_ NB383_382.out _; (with_reducible repeat (first | refine blk_drewN ?_ _ | refine blk_drew ?_ | refine blk_alloc ?_ _)); exact BK383.out) hb); have n3_ := Aside0.mk (below_step (by repeat (first | (with_reducible first | exact HB.out | apply below_alloc | apply pw_below_drewN | apply below_drew1 | refine below_set ?_ GE380.out | refine below_set ?_ GE382.out | refine below_set ?_ GE383.out) | exact HB.out)) hb); clear BK380; clear BK382; clear BK383; clear HB; have BK380 := n0_; have BK382 := n1_; have BK383 := n2_; have HB := n3_; clear n0_ n1_ n2_ n3_; (try clear hb); (try clear hb2); (try clear hk); (try clear hi)) | ((with_reducible refine gate_callee (f := 16) rfl ?_); refine goesL_ (some 58) rfl rfl Try.func16 (by kernel_rfl) rfl #[] rfl (by (try simp only [List.map_toArray, List.map_cons, List.map_nil]); first | done | rfl | (simp only [List.length_drop, List.length_take]; rfl)) ?_; (with_reducible refine (biremelaw14_alive.calls kj3  t388 _ A518.out).mono ?_); rintro e w534 ⟨rfl, hb⟩; refine ⟨_, rfl, ?_⟩; have n0_ := Aside0.mk (blk_below (g := gb380) (o := .cells #[.int .i64 a0_0, .int .i64 a0_1, .int .i64 a0_2, .int .i64 a0_3, .int .i64 a0_4, .int .i64 a0_5] 35 (0, 0)) (by (with_reducible repeat (first | refine blk_drewN ?_ _ | refine blk_drew ?_ | refine blk_alloc ?_ _)); exact BK380.out) hb); have n1_ := Aside0.mk (blk_below (g := gb382) (o := .cells #[.int .i64 a0_0, .int .i64 a0_1] 33 (0, 0)) (by (with_reducible repeat (first | refine blk_drewN ?_ _ | refine blk_drew ?_ | refine blk_alloc ?_ _)); exact BK382.out) hb); have n2_ := Aside0.mk (blk_below (g := gb383) (o := .cells #[.int .i64 a0_2, .int .i64 a0_3] 33 (0, 0)) (by (with_reducible repeat (first | refine blk_drewN ?_ _ | refine blk_drew ?_ | refine blk_alloc ?_ _)); exact BK383.out) hb); have n3_ := Aside0.mk (below_step (by repeat (first | (with_reducible first | exact HB.out | apply below_alloc | apply pw_below_drewN | apply below_drew1 | refine below_set ?_ GE380.out | refine below_set ?_ GE382.out | refine below_set ?_ GE383.out) | exact HB.out)) hb); clear BK380; clear BK382; clear BK383; clear HB; have BK380 := n0_; have BK382 := n1_; have BK383 := n2_; have HB := n3_; clear n0_ n1_ n2_ n3_; (try clear hb); (try clear hb2); (try clear hk); (try clear hi)))
          go_ret
          exact ⟨by first | rfl | (simp [errW_none, errW_some] <;> rfl) | (simp [*, errW_none, errW_some] <;> rfl), by repeat (first | (with_reducible first | exact HB.out | apply below_alloc | apply pw_below_drewN | apply below_drew1 | refine below_set ?_ GE380.out | refine below_set ?_ GE382.out | refine below_set ?_ GE383.out) | exact HB.out)⟩

end Go.Proofs.Ytiedehjmhlgicaa.PAll
