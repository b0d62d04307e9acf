/- The walk of the law AffineAll: a call of it returns what its plain definition tells, and changes no block that was there before. -/
import Derived.Test.YtiedehjmhlgicaaN6
namespace Go.Proofs.Ytiedehjmhlgicaa.PAll
open Go.RowKit Go.Proofs.YtiedehjmhlgicaaW.PrintWords Go.Proofs.YtiedehjmhlgicaaW.PrintLast Go.Proofs.YtiedehjmhlgicaaW.PrintMore
attribute [local go_sem] max2_int min2_int max_two min_two max_three min_three max_four min_four   -- for this text's walks alone
attribute [local go_sem high] eqA23
set_option linter.unusedVariables false
set_option linter.unusedSimpArgs false

set_option maxHeartbeats 8000000 in
set_option maxRecDepth 100000 in
theorem biremelaw14_AffineAll.calls (k : Nat) (a0 : Int) (a1 : Int) (a2 : Int) (a3 : Int) (a4 : Int) (r : Bool) (w : World) (h : biremelaw14_AffineAll.f k a0 a1 a2 a3 a4 = some r) :
    Calls Try.prog 5 #[.int .i64 a0, .int .i64 a1, .int .i64 a2, .int .i64 a3, .int .i64 a4] w fun e w' => e = .returned (.bool r) ∧ Below w.heap.size w w' := by
  have hu23 := Try.underlying23
  have HB := Aside0.mk (Below.refl w.heap.size w)
  have H : ((biremelaw14_term.f a0).bind fun t316 => ((biremelaw14_term.f a1).bind fun t317 => ((biremelaw14_term.f a2).bind fun t318 => ((biremelaw14_term.f a3).bind fun t319 => ((biremelaw14_term.f a4).bind fun t320 => ((affine_Solve.f k t316 t317 (wrap64 ((wrap64 (t316 * t318)) + (wrap64 (t317 * t319))))).bind fun bt321 => (if bt321.2.2.2.2.2 = 0 then (biremelaw14_AffineAll.j0 k t316 t317 t318 t319 t320 (wrap64 ((wrap64 (t316 * t318)) + (wrap64 (t317 * t319)))) (!bt321.2.2.2.2.1) bt321.1 bt321.2.1 bt321.2.2.1 bt321.2.2.2.1) else (biremelaw14_AffineAll.j0 k t316 t317 t318 t319 t320 (wrap64 ((wrap64 (t316 * t318)) + (wrap64 (t317 * t319)))) true bt321.1 bt321.2.1 bt321.2.2.1 bt321.2.2.2.1)))))))) = some r := h
  clear h
  replace H := Option.bind_eq_some_iff.mp H
  obtain ⟨t316, A60, H⟩ := H
  replace H : ((biremelaw14_term.f a1).bind fun t317 => ((biremelaw14_term.f a2).bind fun t318 => ((biremelaw14_term.f a3).bind fun t319 => ((biremelaw14_term.f a4).bind fun t320 => ((affine_Solve.f k t316 t317 (wrap64 ((wrap64 (t316 * t318)) + (wrap64 (t317 * t319))))).bind fun bt321 => (if bt321.2.2.2.2.2 = 0 then (biremelaw14_AffineAll.j0 k t316 t317 t318 t319 t320 (wrap64 ((wrap64 (t316 * t318)) + (wrap64 (t317 * t319)))) (!bt321.2.2.2.2.1) bt321.1 bt321.2.1 bt321.2.2.1 bt321.2.2.2.1) else (biremelaw14_AffineAll.j0 k t316 t317 t318 t319 t320 (wrap64 ((wrap64 (t316 * t318)) + (wrap64 (t317 * t319)))) true bt321.1 bt321.2.1 bt321.2.2.1 bt321.2.2.2.1))))))) = some r := H
  have A6 := Aside0.mk A60
  clear A60
  replace H := Option.bind_eq_some_iff.mp H
  obtain ⟨t317, A70, H⟩ := H
  replace H : ((biremelaw14_term.f a2).bind fun t318 => ((biremelaw14_term.f a3).bind fun t319 => ((biremelaw14_term.f a4).bind fun t320 => ((affine_Solve.f k t316 t317 (wrap64 ((wrap64 (t316 * t318)) + (wrap64 (t317 * t319))))).bind fun bt321 => (if bt321.2.2.2.2.2 = 0 then (biremelaw14_AffineAll.j0 k t316 t317 t318 t319 t320 (wrap64 ((wrap64 (t316 * t318)) + (wrap64 (t317 * t319)))) (!bt321.2.2.2.2.1) bt321.1 bt321.2.1 bt321.2.2.1 bt321.2.2.2.1) else (biremelaw14_AffineAll.j0 k t316 t317 t318 t319 t320 (wrap64 ((wrap64 (t316 * t318)) + (wrap64 (t317 * t319)))) true bt321.1 bt321.2.1 bt321.2.2.1 bt321.2.2.2.1)))))) = some r := H
  have A7 := Aside0.mk A70
  clear A70
  replace H := Option.bind_eq_some_iff.mp H
  obtain ⟨t318, A80, H⟩ := H
  replace H : ((biremelaw14_term.f a3).bind fun t319 => ((biremelaw14_term.f a4).bind fun t320 => ((affine_Solve.f k t316 t317 (wrap64 ((wrap64 (t316 * t318)) + (wrap64 (t317 * t319))))).bind fun bt321 => (if bt321.2.2.2.2.2 = 0 then (biremelaw14_AffineAll.j0 k t316 t317 t318 t319 t320 (wrap64 ((wrap64 (t316 * t318)) + (wrap64 (t317 * t319)))) (!bt321.2.2.2.2.1) bt321.1 bt321.2.1 bt321.2.2.1 bt321.2.2.2.1) else (biremelaw14_AffineAll.j0 k t316 t317 t318 t319 t320 (wrap64 ((wrap64 (t316 * t318)) + (wrap64 (t317 * t319)))) true bt321.1 bt321.2.1 bt321.2.2.1 bt321.2.2.2.1))))) = some r := H
  have A8 := Aside0.mk A80
  clear A80
  replace H := Option.bind_eq_some_iff.mp H
  obtain ⟨t319, A90, H⟩ := H
  replace H : ((biremelaw14_term.f a4).bind fun t320 => ((affine_Solve.f k t316 t317 (wrap64 ((wrap64 (t316 * t318)) + (wrap64 (t317 * t319))))).bind fun bt321 => (if bt321.2.2.2.2.2 = 0 then (biremelaw14_AffineAll.j0 k t316 t317 t318 t319 t320 (wrap64 ((wrap64 (t316 * t318)) + (wrap64 (t317 * t319)))) (!bt321.2.2.2.2.1) bt321.1 bt321.2.1 bt321.2.2.1 bt321.2.2.2.1) else (biremelaw14_AffineAll.j0 k t316 t317 t318 t319 t320 (wrap64 ((wrap64 (t316 * t318)) + (wrap64 (t317 * t319)))) true bt321.1 bt321.2.1 bt321.2.2.1 bt321.2.2.2.1)))) = some r := H
  have A9 := Aside0.mk A90
  clear A90
  replace H := Option.bind_eq_some_iff.mp H
  obtain ⟨t320, A100, H⟩ := H
  replace H : ((affine_Solve.f k t316 t317 (wrap64 ((wrap64 (t316 * t318)) + (wrap64 (t317 * t319))))).bind fun bt321 => (if bt321.2.2.2.2.2 = 0 then (biremelaw14_AffineAll.j0 k t316 t317 t318 t319 t320 (wrap64 ((wrap64 (t316 * t318)) + (wrap64 (t317 * t319)))) (!bt321.2.2.2.2.1) bt321.1 bt321.2.1 bt321.2.2.1 bt321.2.2.2.1) else (biremelaw14_AffineAll.j0 k t316 t317 t318 t319 t320 (wrap64 ((wrap64 (t316 * t318)) + (wrap64 (t317 * t319)))) true bt321.1 bt321.2.1 bt321.2.2.1 bt321.2.2.2.1))) = some r := H
  have A10 := Aside0.mk A100
  clear A100
  replace H := Option.bind_eq_some_iff.mp H
  obtain ⟨⟨t321, t322, t323, t324, t325, t326⟩, A110, H⟩ := H
  replace H : (if t326 = 0 then (biremelaw14_AffineAll.j0 k t316 t317 t318 t319 t320 (wrap64 ((wrap64 (t316 * t318)) + (wrap64 (t317 * t319)))) (!t325) t321 t322 t323 t324) else (biremelaw14_AffineAll.j0 k t316 t317 t318 t319 t320 (wrap64 ((wrap64 (t316 * t318)) + (wrap64 (t317 * t319)))) true t321 t322 t323 t324)) = some r := H
  have A11 := Aside0.mk A110
  clear A110
  have HC12 := Aside0.mk H
  clear H
  go_enter Try.func5, Try.ntmps5
  go_upto_region 4 with (first | ((with_reducible refine gate_callee (f := 23) rfl ?_); refine goesL_ (some 17) rfl rfl Try.func23 (by kernel_rfl) rfl #[.int .i64 a0] rfl (by (try simp only [List.map_toArray, List.map_cons, List.map_nil]); first | done | rfl | (simp only [List.length_drop, List.length_take]; rfl)) ?_; (with_reducible refine (biremelaw14_term.calls a0 t316 _ A6.out).mono ?_); rintro e w' ⟨rfl, ⟨nd, rfl⟩⟩; refine ⟨_, rfl, ?_⟩) | ((with_reducible refine gate_callee (f := 23) rfl ?_); refine goesL_ (some 19) rfl rfl Try.func23 (by kernel_rfl) rfl #[.int .i64 a1] rfl (by (try simp only [List.map_toArray, List.map_cons, List.map_nil]); first | done | rfl | (simp only [List.length_drop, List.length_take]; rfl)) ?_; (with_reducible refine (biremelaw14_term.calls a1 t317 _ A7.out).mono ?_); rintro e w' ⟨rfl, ⟨nd, rfl⟩⟩; refine ⟨_, rfl, ?_⟩) | ((with_reducible refine gate_callee (f := 23) rfl ?_); refine goesL_ (some 21) rfl rfl Try.func23 (by kernel_rfl) rfl #[.int .i64 a2] rfl (by (try simp only [List.map_toArray, List.map_cons, List.map_nil]); first | done | rfl | (simp only [List.length_drop, List.length_take]; rfl)) ?_; (with_reducible refine (biremelaw14_term.calls a2 t318 _ A8.out).mono ?_); rintro e w' ⟨rfl, ⟨nd, rfl⟩⟩; refine ⟨_, rfl, ?_⟩) | ((with_reducible refine gate_callee (f := 23) rfl ?_); refine goesL_ (some 23) rfl rfl Try.func23 (by kernel_rfl) rfl #[.int .i64 a3] rfl (by (try simp only [List.map_toArray, List.map_cons, List.map_nil]); first | done | rfl | (simp only [List.length_drop, List.length_take]; rfl)) ?_; (with_reducible refine (biremelaw14_term.calls a3 t319 _ A9.out).mono ?_); rintro e w' ⟨rfl, ⟨nd, rfl⟩⟩; refine ⟨_, rfl, ?_⟩) | ((with_reducible refine gate_callee (f := 23) rfl ?_); refine goesL_ (some 25) rfl rfl Try.func23 (by kernel_rfl) rfl #[.int .i64 a4] rfl (by (try simp only [List.map_toArray, List.map_cons, List.map_nil]); first | done | rfl | (simp only [List.length_drop, List.length_take]; rfl)) ?_; (with_reducible refine (biremelaw14_term.calls a4 t320 _ A10.out).mono ?_); rintro e w' ⟨rfl, ⟨nd, rfl⟩⟩; refine ⟨_, rfl, ?_⟩) | ((with_reducible refine gate_callee (f := 14) rfl ?_); refine goesL_ (some 37) rfl rfl Try.func14 (by kernel_rfl) rfl #[.int .i64 t316, .int .i64 t317, .int .i64 (wrap64 ((wrap64 (t316 * t318)) + (wrap64 (t317 * t319))))] rfl (by (try simp only [List.map_toArray, List.map_cons, List.map_nil]); first | done | rfl | (simp only [List.length_drop, List.length_take]; rfl)) ?_; (with_reducible refine (affine_Solve.calls k t316 t317 (wrap64 ((wrap64 (t316 * t318)) + (wrap64 (t317 * t319)))) t321 t322 t323 t324 t325 t326 _ A11.out).mono ?_); rintro e w13 ⟨rfl, hb⟩; refine ⟨_, rfl, ?_⟩; have n0_ := Aside0.mk (below_step (by repeat (first | (with_reducible first | exact HB.out | apply below_alloc | apply pw_below_drewN | apply below_drew1) | exact HB.out)) hb); clear HB; have HB := n0_; clear n0_; (try clear hb); (try clear hb2); (try clear hk); (try clear hi)) | ((with_reducible refine gate_dst (N := 12) rfl ?_); refine box_event ?hg (N := 12) ?hd (cs := #[.int .i64 0, .int .i64 0, .int .i64 0, .int .i64 0]) (t := 23) ?hr ?_; (case hd => rfl); (case hg => rfl); (case hr => first | (go_simp; done) | (go_simp; rfl)); intro gb327 hg w14 hbox hb; have n0_ := Aside0.mk (below_step (by repeat (first | (with_reducible first | exact HB.out | apply below_alloc | apply pw_below_drewN | apply below_drew1) | exact HB.out)) hb); have n1_ := Aside0.mk (hbox); have n2_ := Aside0.mk ((by rw [hg]; exact (below_size (by repeat (first | (with_reducible first | exact HB.out | apply below_alloc | apply pw_below_drewN | apply below_drew1) | exact HB.out))) : w.heap.size ≤ gb327)); have n3_ := Aside0.mk ((by rw [hg]; exact (below_size (by repeat (first | (with_reducible first | exact HB.out | apply below_alloc | apply pw_below_drewN | apply below_drew1) | exact HB.out))) : w.heap.size ≤ gb327)); clear HB; have HB := n0_; have BK327 := n1_; have GW327 := n2_; have GE327 := n3_; clear n0_ n1_ n2_ n3_; clear hb hbox hg; have hcz15_0 : w14.cell? ⟨gb327, 0, none⟩ = some (.int .i64 0) := (blk_cell BK327.out 0).trans rfl; have hcz15_1 : w14.cell? ⟨gb327, 1, none⟩ = some (.int .i64 0) := (blk_cell BK327.out 1).trans rfl; have hcz15_2 : w14.cell? ⟨gb327, 2, none⟩ = some (.int .i64 0) := (blk_cell BK327.out 2).trans rfl; have hcz15_3 : w14.cell? ⟨gb327, 3, none⟩ = some (.int .i64 0) := (blk_cell BK327.out 3).trans rfl; have hfz15_0 := blk_frozen BK327.out 0; have hfz15_1 := blk_frozen BK327.out 1; have hfz15_2 := blk_frozen BK327.out 2; have hfz15_3 := blk_frozen BK327.out 3))
  (try simp only [Act.put, List.setIfInBounds_toArray, List.set_cons_zero, List.set_cons_succ])
  go_cut [46] (fun v46 wc => ∃ (kq : Nat) (x46_11 : Bool), v46 = .bool x46_11 ∧ Aside0 (biremelaw14_AffineAll.j0 kq t316 t317 t318 t319 t320 (wrap64 ((wrap64 (t316 * t318)) + (wrap64 (t317 * t319)))) x46_11 t321 t322 t323 t324 = some r) ∧ Aside0 (kq ≤ k) ∧ Aside0 (wc.heap[gb327]? = some (.cells #[.int .i64 t321, .int .i64 t322, .int .i64 t323, .int .i64 t324] 23 (0, 0))) ∧ Aside0 (Below w.heap.size w wc))
  case first =>
    have H := HC12.out
    clear HC12
    by_cases c16 : t326 = 0
    · rw [if_pos c16] at H
      have c16b0 : (t326 == 0) = true := beq_iff_eq.mpr c16
      have c16b1 : (t326 != 0) = false := bne_eq_false_iff_eq.mpr c16
      clear c16
      (first | rw [c16b0] | (simp only [i64_w, i32_w]; rw [c16b0]) | skip)
      have H' := Aside0.mk H
      clear H
      go_wp2
      go_meet
      case rel => exact ⟨_, (!t325), (by first | rfl | (simp; done) | (simp [*]; done)), H', ⟨by first | omega | exact Nat.le_refl _⟩, ⟨by (with_reducible repeat (first | refine blk_drewN ?_ _ | refine blk_drew ?_ | refine blk_alloc ?_ _)); refine blk_put (cs := #[.int .i64 t321, .int .i64 t322, .int .i64 t323, .int .i64 0]) ?_ 3 _ rfl; (with_reducible repeat (first | refine blk_drewN ?_ _ | refine blk_drew ?_ | refine blk_alloc ?_ _)); refine blk_put (cs := #[.int .i64 t321, .int .i64 t322, .int .i64 0, .int .i64 0]) ?_ 2 _ rfl; (with_reducible repeat (first | refine blk_drewN ?_ _ | refine blk_drew ?_ | refine blk_alloc ?_ _)); refine blk_put (cs := #[.int .i64 t321, .int .i64 0, .int .i64 0, .int .i64 0]) ?_ 1 _ rfl; (with_reducible repeat (first | refine blk_drewN ?_ _ | refine blk_drew ?_ | refine blk_alloc ?_ _)); refine blk_put (cs := #[.int .i64 0, .int .i64 0, .int .i64 0, .int .i64 0]) ?_ 0 _ rfl; (with_reducible repeat (first | refine blk_drewN ?_ _ | refine blk_drew ?_ | refine blk_alloc ?_ _)); exact BK327.out⟩, ⟨by repeat (first | (with_reducible first | exact HB.out | apply below_alloc | apply pw_below_drewN | apply below_drew1 | refine below_set ?_ GE327.out) | exact HB.out)⟩⟩
    · rw [if_neg c16] at H
      have c16b0 : (t326 == 0) = false := beq_eq_false_iff_ne.mpr c16
      have c16b1 : (t326 != 0) = true := bne_iff_ne.mpr c16
      (first | rw [c16b0] | (simp only [i64_w, i32_w]; rw [c16b0]) | skip)
      have H' := Aside0.mk H
      clear H
      go_wp2
      go_meet
      case rel => exact ⟨_, (true), (by first | rfl | (simp; done) | (simp [*]; done)), H', ⟨by first | omega | exact Nat.le_refl _⟩, ⟨by (with_reducible repeat (first | refine blk_drewN ?_ _ | refine blk_drew ?_ | refine blk_alloc ?_ _)); refine blk_put (cs := #[.int .i64 t321, .int .i64 t322, .int .i64 t323, .int .i64 0]) ?_ 3 _ rfl; (with_reducible repeat (first | refine blk_drewN ?_ _ | refine blk_drew ?_ | refine blk_alloc ?_ _)); refine blk_put (cs := #[.int .i64 t321, .int .i64 t322, .int .i64 0, .int .i64 0]) ?_ 2 _ rfl; (with_reducible repeat (first | refine blk_drewN ?_ _ | refine blk_drew ?_ | refine blk_alloc ?_ _)); refine blk_put (cs := #[.int .i64 t321, .int .i64 0, .int .i64 0, .int .i64 0]) ?_ 1 _ rfl; (with_reducible repeat (first | refine blk_drewN ?_ _ | refine blk_drew ?_ | refine blk_alloc ?_ _)); refine blk_put (cs := #[.int .i64 0, .int .i64 0, .int .i64 0, .int .i64 0]) ?_ 0 _ rfl; (with_reducible repeat (first | refine blk_drewN ?_ _ | refine blk_drew ?_ | refine blk_alloc ?_ _)); exact BK327.out⟩, ⟨by repeat (first | (with_reducible first | exact HB.out | apply below_alloc | apply pw_below_drewN | apply below_drew1 | refine below_set ?_ GE327.out) | exact HB.out)⟩⟩
  case rest =>
    clear HC12
    try clear c1
    try clear c2
    try clear p2
    try clear c5
    try clear p6
    try clear c14
    try clear c16
    try clear c16b0
    try clear c16b1
    try clear hcz15_0
    try clear hcz15_1
    try clear hcz15_2
    try clear hcz15_3
    try clear hfz15_0
    try clear hfz15_1
    try clear hfz15_2
    try clear hfz15_3
    obtain ⟨kq, x46_11, rfl, HA, HJ11, BK327, HB⟩ := hcut
    cases kq with
    | zero => exact absurd HA.out (by simp [biremelaw14_AffineAll.j0])
    | succ kj11 =>
      have H := HA.out
      clear HA
      simp only [biremelaw14_AffineAll.j0] at H
      by_cases c17 : x46_11 = true
      · subst c17
        have H1 : (some false) = some r := by rw [if_pos rfl] at H; exact H
        clear H
        have H := H1
        clear H1
        obtain rfl := Option.some.inj H
        go_wp2
        go_ret
        exact ⟨by first | rfl | (simp [errW_none, errW_some] <;> rfl) | (simp [*, errW_none, errW_some] <;> rfl), by repeat (first | (with_reducible first | exact HB.out | apply below_alloc | apply pw_below_drewN | apply below_drew1 | refine below_set ?_ GE327.out) | exact HB.out)⟩
      · replace c17 := Bool.eq_false_iff.mpr c17
        subst c17
        have H1 : (if t316 = 0 then (biremelaw14_AffineAll.j1 kj11 t316 t317 t318 t319 t320 (wrap64 ((wrap64 (t316 * t318)) + (wrap64 (t317 * t319)))) (t317 == 0) t321 t322 t323 t324) else (biremelaw14_AffineAll.j1 kj11 t316 t317 t318 t319 t320 (wrap64 ((wrap64 (t316 * t318)) + (wrap64 (t317 * t319)))) false t321 t322 t323 t324)) = some r := by rw [if_neg (show ¬ (false = true) by decide)] at H; exact H
        clear H
        have H := H1
        clear H1
        have HC18 := Aside0.mk H
        clear H
        go_upto_region 6 with (fail)
        go_cut [52] (fun v52 wc => ∃ (kq : Nat) (x52_17 : Bool), v52 = .bool x52_17 ∧ Aside0 (biremelaw14_AffineAll.j1 kq t316 t317 t318 t319 t320 (wrap64 ((wrap64 (t316 * t318)) + (wrap64 (t317 * t319)))) x52_17 t321 t322 t323 t324 = some r) ∧ Aside0 (kq ≤ kj11) ∧ Aside0 (wc.heap[gb327]? = some (.cells #[.int .i64 t321, .int .i64 t322, .int .i64 t323, .int .i64 t324] 23 (0, 0))) ∧ Aside0 (Below w.heap.size w wc))
        case first =>
          have H := HC18.out
          clear HC18
          by_cases c19 : t316 = 0
          · rw [if_pos c19] at H
            have c19b0 : (t316 == 0) = true := beq_iff_eq.mpr c19
            have c19b1 : (t316 != 0) = false := bne_eq_false_iff_eq.mpr c19
            clear c19
            (first | rw [c19b0] | (simp only [i64_w, i32_w]; rw [c19b0]) | skip)
            have H' := Aside0.mk H
            clear H
            go_wp2
            go_meet
            case rel => exact ⟨_, ((t317 == 0)), (by first | rfl | (simp; done) | (simp [*]; done)), H', ⟨by have := HJ11.out; first | omega | exact Nat.le_refl _⟩, ⟨by (with_reducible repeat (first | refine blk_drewN ?_ _ | refine blk_drew ?_ | refine blk_alloc ?_ _)); exact BK327.out⟩, ⟨by repeat (first | (with_reducible first | exact HB.out | apply below_alloc | apply pw_below_drewN | apply below_drew1 | refine below_set ?_ GE327.out) | exact HB.out)⟩⟩
          · rw [if_neg c19] at H
            have c19b0 : (t316 == 0) = false := beq_eq_false_iff_ne.mpr c19
            have c19b1 : (t316 != 0) = true := bne_iff_ne.mpr c19
            (first | rw [c19b0] | (simp only [i64_w, i32_w]; rw [c19b0]) | skip)
            have H' := Aside0.mk H
            clear H
            go_wp2
            go_meet
            case rel => exact ⟨_, (false), (by first | rfl | (simp; done) | (simp [*]; done)), H', ⟨by have := HJ11.out; first | omega | exact Nat.le_refl _⟩, ⟨by (with_reducible repeat (first | refine blk_drewN ?_ _ | refine blk_drew ?_ | refine blk_alloc ?_ _)); exact BK327.out⟩, ⟨by repeat (first | (with_reducible first | exact HB.out | apply below_alloc | apply pw_below_drewN | apply below_drew1 | refine below_set ?_ GE327.out) | exact HB.out)⟩⟩
        case rest =>
          clear HC18
          try clear c1
          try clear c2
          try clear p2
          try clear c5
          try clear p6
          try clear c14
          try clear c16
          try clear c16b0
          try clear c16b1
          try clear c17
          try clear c19
          try clear c19b0
          try clear c19b1
          try clear hcz15_0
          try clear hcz15_1
          try clear hcz15_2
          try clear hcz15_3
          try clear hfz15_0
          try clear hfz15_1
          try clear hfz15_2
          try clear hfz15_3
          try clear p2
          try clear p6
          obtain ⟨kq, x52_17, rfl, HA, HJ17, BK327, HB⟩ := hcut
          cases kq with
          | zero => exact absurd HA.out (by simp [biremelaw14_AffineAll.j1])
          | succ kj17 =>
            have H := HA.out
            clear HA
            simp only [biremelaw14_AffineAll.j1] at H
            by_cases c20 : x52_17 = true
            · subst c20
              have H1 : (if (t321 == 0 && (t322 == 0 && (t323 == 0 && (t324 == 0)))) = true then ((biremelaw14_alive.f kj17).bind fun t328 => (some t328)) else (some false)) = some r := by rw [if_pos rfl] at H; exact H
              clear H
              have H := H1
              clear H1
              by_cases c21 : (t321 == 0 && (t322 == 0 && (t323 == 0 && (t324 == 0)))) = true
              · rw [if_pos c21] at H
                have c21b0 : (t321 == 0 && (t322 == 0 && (t323 == 0 && (t324 == 0)))) = true := c21
                (try (have c21b1 : decide (t321 = 0 && (t322 == 0 && (t323 == 0 && (t324 == 0)))) = true := by simpa using c21))
                (try (have c21b2 : (t321 == 0 && (t322 == 0 && (t323 == 0 && (t324 == 0)))) = true := by simpa using c21))
                clear c21
                replace H := Option.bind_eq_some_iff.mp H
                obtain ⟨t328, A220, H⟩ := H
                replace H : (some t328) = some r := H
                have A22 := Aside0.mk A220
                clear A220
                obtain rfl := Option.some.inj H
                have hcz23_0 : wc.cell? ⟨gb327, 0, none⟩ = some (.int .i64 t321) := (blk_cell BK327.out 0).trans rfl
                have hcz23_1 : wc.cell? ⟨gb327, 1, none⟩ = some (.int .i64 t322) := (blk_cell BK327.out 1).trans rfl
                have hcz23_2 : wc.cell? ⟨gb327, 2, none⟩ = some (.int .i64 t323) := (blk_cell BK327.out 2).trans rfl
                have hcz23_3 : wc.cell? ⟨gb327, 3, none⟩ = some (.int .i64 t324) := (blk_cell BK327.out 3).trans rfl
                have hfz23_0 := blk_frozen BK327.out 0
                have hfz23_1 := blk_frozen BK327.out 1
                have hfz23_2 := blk_frozen BK327.out 2
                have hfz23_3 := blk_frozen BK327.out 3
                go_wp2_with (first | (go_at_call 16; (with_reducible refine (biremelaw14_alive.calls kj17  t328 _ A22.out).mono ?_); rintro e w24 ⟨rfl, hb⟩; have n0_ := Aside0.mk (blk_below (g := gb327) (o := .cells #[.int .i64 t321, .int .i64 t322, .int .i64 t323, .int .i64 t324] 23 (0, 0)) (by (with_reducible repeat (first | refine blk_drewN ?_ _ | refine blk_drew ?_ | refine blk_alloc ?_ _)); exact BK327.out) hb); have n1_ := Aside0.mk (below_step (by repeat (first | (with_reducible first | exact HB.out | apply below_alloc | apply pw_below_drewN | apply below_drew1 | refine below_set ?_ GE327.out) | exact HB.out)) hb); clear BK327; clear HB; have BK327 := n0_; have HB := n1_; clear n0_ n1_; (try clear hb); (try clear hb2); (try clear hk); (try clear hi)))
                go_ret
                exact ⟨by first | rfl | (simp [errW_none, errW_some] <;> rfl) | (simp [*, errW_none, errW_some] <;> rfl), by repeat (first | (with_reducible first | exact HB.out | apply below_alloc | apply pw_below_drewN | apply below_drew1 | refine below_set ?_ GE327.out) | exact HB.out)⟩
              · rw [if_neg c21] at H
                have c21b0 : (t321 == 0 && (t322 == 0 && (t323 == 0 && (t324 == 0)))) = false := by simpa using c21
                (try (have c21b1 : decide (t321 = 0 && (t322 == 0 && (t323 == 0 && (t324 == 0)))) = false := by simpa using c21))
                (try (have c21b2 : (t321 == 0 && (t322 == 0 && (t323 == 0 && (t324 == 0)))) = false := by simpa using c21))
                (try (have c21b3 : ¬ (t321 = 0 && (t322 == 0 && (t323 == 0 && (t324 == 0)))) := by simpa using c21))
                clear c21
                obtain rfl := Option.some.inj H
                have hcz25_0 : wc.cell? ⟨gb327, 0, none⟩ = some (.int .i64 t321) := (blk_cell BK327.out 0).trans rfl
                have hcz25_1 : wc.cell? ⟨gb327, 1, none⟩ = some (.int .i64 t322) := (blk_cell BK327.out 1).trans rfl
                have hcz25_2 : wc.cell? ⟨gb327, 2, none⟩ = some (.int .i64 t323) := (blk_cell BK327.out 2).trans rfl
                have hcz25_3 : wc.cell? ⟨gb327, 3, none⟩ = some (.int .i64 t324) := (blk_cell BK327.out 3).trans rfl
                have hfz25_0 := blk_frozen BK327.out 0
                have hfz25_1 := blk_frozen BK327.out 1
                have hfz25_2 := blk_frozen BK327.out 2
                have hfz25_3 := blk_frozen BK327.out 3
                go_wp2
                go_ret
                exact ⟨by first | rfl | (simp [errW_none, errW_some] <;> rfl) | (simp [*, errW_none, errW_some] <;> rfl), by repeat (first | (with_reducible first | exact HB.out | apply below_alloc | apply pw_below_drewN | apply below_drew1 | refine below_set ?_ GE327.out) | exact HB.out)⟩
            · replace c20 := Bool.eq_false_iff.mpr c20
              subst c20
              have H1 : (if (wrap64 ((wrap64 (t316 * (wrap64 (t321 + (wrap64 (t322 * t320)))))) + (wrap64 (t317 * (wrap64 (t323 + (wrap64 (t324 * t320)))))))) = (wrap64 ((wrap64 (t316 * t318)) + (wrap64 (t317 * t319)))) then (if t322 = 0 then (if t324 = 0 then (if (wrap64 (t321 + (wrap64 (t322 * 0)))) = t318 then (if (wrap64 (t323 + (wrap64 (t324 * 0)))) = t319 then ((biremelaw14_alive.f kj17).bind fun t329 => (some t329)) else (some false)) else (some false)) else (if (wrap64 (t321 + (wrap64 (t322 * (wrap64 (Int.tdiv (wrap64 (t319 - t323)) t324)))))) = t318 then (if (wrap64 (t323 + (wrap64 (t324 * (wrap64 (Int.tdiv (wrap64 (t319 - t323)) t324)))))) = t319 then ((biremelaw14_alive.f kj17).bind fun t330 => (some t330)) else (some false)) else (some false))) else (if (wrap64 (t321 + (wrap64 (t322 * (wrap64 (Int.tdiv (wrap64 (t318 - t321)) t322)))))) = t318 then (if (wrap64 (t323 + (wrap64 (t324 * (wrap64 (Int.tdiv (wrap64 (t318 - t321)) t322)))))) = t319 then (if t321 ≥ 0 then (if t321 < t322 then ((biremelaw14_alive.f kj17).bind fun t331 => (some t331)) else (some false)) else (some false)) else (some false)) else (some false))) else (some false)) = some r := by rw [if_neg (show ¬ (false = true) by decide)] at H; exact H
              clear H
              have H := H1
              clear H1
              by_cases c26 : (wrap64 ((wrap64 (t316 * (wrap64 (t321 + (wrap64 (t322 * t320)))))) + (wrap64 (t317 * (wrap64 (t323 + (wrap64 (t324 * t320)))))))) = (wrap64 ((wrap64 (t316 * t318)) + (wrap64 (t317 * t319))))
              · rw [if_pos c26] at H
                have c26b0 : ((wrap64 ((wrap64 (t316 * (wrap64 (t321 + (wrap64 (t322 * t320)))))) + (wrap64 (t317 * (wrap64 (t323 + (wrap64 (t324 * t320)))))))) == (wrap64 ((wrap64 (t316 * t318)) + (wrap64 (t317 * t319))))) = true := beq_iff_eq.mpr c26
                have c26b1 : ((wrap64 ((wrap64 (t316 * (wrap64 (t321 + (wrap64 (t322 * t320)))))) + (wrap64 (t317 * (wrap64 (t323 + (wrap64 (t324 * t320)))))))) != (wrap64 ((wrap64 (t316 * t318)) + (wrap64 (t317 * t319))))) = false := bne_eq_false_iff_eq.mpr c26
                clear c26
                by_cases c27 : t322 = 0
                · rw [if_pos c27] at H
                  have c27b0 : (t322 == 0) = true := beq_iff_eq.mpr c27
                  have c27b1 : (t322 != 0) = false := bne_eq_false_iff_eq.mpr c27
                  clear c27
                  by_cases c28 : t324 = 0
                  · rw [if_pos c28] at H
                    have c28b0 : (t324 == 0) = true := beq_iff_eq.mpr c28
                    have c28b1 : (t324 != 0) = false := bne_eq_false_iff_eq.mpr c28
                    clear c28
                    by_cases c29 : (wrap64 (t321 + (wrap64 (t322 * 0)))) = t318
                    · rw [if_pos c29] at H
                      have c29b0 : ((wrap64 (t321 + (wrap64 (t322 * 0)))) == t318) = true := beq_iff_eq.mpr c29
                      have c29b1 : ((wrap64 (t321 + (wrap64 (t322 * 0)))) != t318) = false := bne_eq_false_iff_eq.mpr c29
                      clear c29
                      simp only [Int.mul_zero, show wrap64 0 = 0 by unfold wrap64; decide, Int.add_zero] at c29b0 c29b1
                      by_cases c30 : (wrap64 (t323 + (wrap64 (t324 * 0)))) = t319
                      · rw [if_pos c30] at H
                        have c30b0 : ((wrap64 (t323 + (wrap64 (t324 * 0)))) == t319) = true := beq_iff_eq.mpr c30
                        have c30b1 : ((wrap64 (t323 + (wrap64 (t324 * 0)))) != t319) = false := bne_eq_false_iff_eq.mpr c30
                        clear c30
                        simp only [Int.mul_zero, show wrap64 0 = 0 by unfold wrap64; decide, Int.add_zero] at c30b0 c30b1
                        replace H := Option.bind_eq_some_iff.mp H
                        obtain ⟨t329, A310, H⟩ := H
                        replace H : (some t329) = some r := H
                        have A31 := Aside0.mk A310
                        clear A310
                        obtain rfl := Option.some.inj H
                        have hcz32_0 : wc.cell? ⟨gb327, 0, none⟩ = some (.int .i64 t321) := (blk_cell BK327.out 0).trans rfl
                        have hcz32_1 : wc.cell? ⟨gb327, 1, none⟩ = some (.int .i64 t322) := (blk_cell BK327.out 1).trans rfl
                        have hcz32_2 : wc.cell? ⟨gb327, 2, none⟩ = some (.int .i64 t323) := (blk_cell BK327.out 2).trans rfl
                        have hcz32_3 : wc.cell? ⟨gb327, 3, none⟩ = some (.int .i64 t324) := (blk_cell BK327.out 3).trans rfl
                        have hfz32_0 := blk_frozen BK327.out 0
                        have hfz32_1 := blk_frozen BK327.out 1
                        have hfz32_2 := blk_frozen BK327.out 2
                        have hfz32_3 := blk_frozen BK327.out 3
                        go_wp2_with (first | (go_at_call 16; (with_reducible refine (biremelaw14_alive.calls kj17  t329 _ A31.out).mono ?_); rintro e w33 ⟨rfl, hb⟩; have n0_ := Aside0.mk (blk_below (g := gb327) (o := .cells #[.int .i64 t321, .int .i64 t322, .int .i64 t323, .int .i64 t324] 23 (0, 0)) (by (with_reducible repeat (first | refine blk_drewN ?_ _ | refine blk_drew ?_ | refine blk_alloc ?_ _)); exact BK327.out) hb); have n1_ := Aside0.mk (below_step (by repeat (first | (with_reducible first | exact HB.out | apply below_alloc | apply pw_below_drewN | apply below_drew1 | refine below_set ?_ GE327.out) | exact HB.out)) hb); clear BK327; clear HB; have BK327 := n0_; have HB := n1_; clear n0_ n1_; (try clear hb); (try clear hb2); (try clear hk); (try clear hi)))
                        go_ret
                        exact ⟨by first | rfl | (simp [errW_none, errW_some] <;> rfl) | (simp [*, errW_none, errW_some] <;> rfl), by repeat (first | (with_reducible first | exact HB.out | apply below_alloc | apply pw_below_drewN | apply below_drew1 | refine below_set ?_ GE327.out) | exact HB.out)⟩
                      · rw [if_neg c30] at H
                        have c30b0 : ((wrap64 (t323 + (wrap64 (t324 * 0)))) == t319) = false := beq_eq_false_iff_ne.mpr c30
                        have c30b1 : ((wrap64 (t323 + (wrap64 (t324 * 0)))) != t319) = true := bne_iff_ne.mpr c30
                        simp only [Int.mul_zero, show wrap64 0 = 0 by unfold wrap64; decide, Int.add_zero] at c30b0 c30b1
                        obtain rfl := Option.some.inj H
                        have hcz34_0 : wc.cell? ⟨gb327, 0, none⟩ = some (.int .i64 t321) := (blk_cell BK327.out 0).trans rfl
                        have hcz34_1 : wc.cell? ⟨gb327, 1, none⟩ = some (.int .i64 t322) := (blk_cell BK327.out 1).trans rfl
                        have hcz34_2 : wc.cell? ⟨gb327, 2, none⟩ = some (.int .i64 t323) := (blk_cell BK327.out 2).trans rfl
                        have hcz34_3 : wc.cell? ⟨gb327, 3, none⟩ = some (.int .i64 t324) := (blk_cell BK327.out 3).trans rfl
                        have hfz34_0 := blk_frozen BK327.out 0
                        have hfz34_1 := blk_frozen BK327.out 1
                        have hfz34_2 := blk_frozen BK327.out 2
                        have hfz34_3 := blk_frozen BK327.out 3
                        go_wp2
                        go_ret
                        exact ⟨by first | rfl | (simp [errW_none, errW_some] <;> rfl) | (simp [*, errW_none, errW_some] <;> rfl), by repeat (first | (with_reducible first | exact HB.out | apply below_alloc | apply pw_below_drewN | apply below_drew1 | refine below_set ?_ GE327.out) | exact HB.out)⟩
                    · rw [if_neg c29] at H
                      have c29b0 : ((wrap64 (t321 + (wrap64 (t322 * 0)))) == t318) = false := beq_eq_false_iff_ne.mpr c29
                      have c29b1 : ((wrap64 (t321 + (wrap64 (t322 * 0)))) != t318) = true := bne_iff_ne.mpr c29
                      simp only [Int.mul_zero, show wrap64 0 = 0 by unfold wrap64; decide, Int.add_zero] at c29b0 c29b1
                      obtain rfl := Option.some.inj H
                      have hcz35_0 : wc.cell? ⟨gb327, 0, none⟩ = some (.int .i64 t321) := (blk_cell BK327.out 0).trans rfl
                      have hcz35_1 : wc.cell? ⟨gb327, 1, none⟩ = some (.int .i64 t322) := (blk_cell BK327.out 1).trans rfl
                      have hcz35_2 : wc.cell? ⟨gb327, 2, none⟩ = some (.int .i64 t323) := (blk_cell BK327.out 2).trans rfl
                      have hcz35_3 : wc.cell? ⟨gb327, 3, none⟩ = some (.int .i64 t324) := (blk_cell BK327.out 3).trans rfl
                      have hfz35_0 := blk_frozen BK327.out 0
                      have hfz35_1 := blk_frozen BK327.out 1
                      have hfz35_2 := blk_frozen BK327.out 2
                      have hfz35_3 := blk_frozen BK327.out 3
                      go_wp2
                      go_ret
                      exact ⟨by first | rfl | (simp [errW_none, errW_some] <;> rfl) | (simp [*, errW_none, errW_some] <;> rfl), by repeat (first | (with_reducible first | exact HB.out | apply below_alloc | apply pw_below_drewN | apply below_drew1 | refine below_set ?_ GE327.out) | exact HB.out)⟩
                  · rw [if_neg c28] at H
                    have c28b0 : (t324 == 0) = false := beq_eq_false_iff_ne.mpr c28
                    have c28b1 : (t324 != 0) = true := bne_iff_ne.mpr c28
                    by_cases c36 : (wrap64 (t321 + (wrap64 (t322 * (wrap64 (Int.tdiv (wrap64 (t319 - t323)) t324)))))) = t318
                    · rw [if_pos c36] at H
                      have c36b0 : ((wrap64 (t321 + (wrap64 (t322 * (wrap64 (Int.tdiv (wrap64 (t319 - t323)) t324)))))) == t318) = true := beq_iff_eq.mpr c36
                      have c36b1 : ((wrap64 (t321 + (wrap64 (t322 * (wrap64 (Int.tdiv (wrap64 (t319 - t323)) t324)))))) != t318) = false := bne_eq_false_iff_eq.mpr c36
                      clear c36
                      by_cases c37 : (wrap64 (t323 + (wrap64 (t324 * (wrap64 (Int.tdiv (wrap64 (t319 - t323)) t324)))))) = t319
                      · rw [if_pos c37] at H
                        have c37b0 : ((wrap64 (t323 + (wrap64 (t324 * (wrap64 (Int.tdiv (wrap64 (t319 - t323)) t324)))))) == t319) = true := beq_iff_eq.mpr c37
                        have c37b1 : ((wrap64 (t323 + (wrap64 (t324 * (wrap64 (Int.tdiv (wrap64 (t319 - t323)) t324)))))) != t319) = false := bne_eq_false_iff_eq.mpr c37
                        clear c37
                        replace H := Option.bind_eq_some_iff.mp H
                        obtain ⟨t330, A380, H⟩ := H
                        replace H : (some t330) = some r := H
                        have A38 := Aside0.mk A380
                        clear A380
                        obtain rfl := Option.some.inj H
                        have hcz39_0 : wc.cell? ⟨gb327, 0, none⟩ = some (.int .i64 t321) := (blk_cell BK327.out 0).trans rfl
                        have hcz39_1 : wc.cell? ⟨gb327, 1, none⟩ = some (.int .i64 t322) := (blk_cell BK327.out 1).trans rfl
                        have hcz39_2 : wc.cell? ⟨gb327, 2, none⟩ = some (.int .i64 t323) := (blk_cell BK327.out 2).trans rfl
                        have hcz39_3 : wc.cell? ⟨gb327, 3, none⟩ = some (.int .i64 t324) := (blk_cell BK327.out 3).trans rfl
                        have hfz39_0 := blk_frozen BK327.out 0
                        have hfz39_1 := blk_frozen BK327.out 1
                        have hfz39_2 := blk_frozen BK327.out 2
                        have hfz39_3 := blk_frozen BK327.out 3
                        go_wp2_with (first | (go_at_call 16; (with_reducible refine (biremelaw14_alive.calls kj17  t330 _ A38.out).mono ?_); rintro e w40 ⟨rfl, hb⟩; have n0_ := Aside0.mk (blk_below (g := gb327) (o := .cells #[.int .i64 t321, .int .i64 t322, .int .i64 t323, .int .i64 t324] 23 (0, 0)) (by (with_reducible repeat (first | refine blk_drewN ?_ _ | refine blk_drew ?_ | refine blk_alloc ?_ _)); exact BK327.out) hb); have n1_ := Aside0.mk (below_step (by repeat (first | (with_reducible first | exact HB.out | apply below_alloc | apply pw_below_drewN | apply below_drew1 | refine below_set ?_ GE327.out) | exact HB.out)) hb); clear BK327; clear HB; have BK327 := n0_; have HB := n1_; clear n0_ n1_; (try clear hb); (try clear hb2); (try clear hk); (try clear hi)))
                        go_ret
                        exact ⟨by first | rfl | (simp [errW_none, errW_some] <;> rfl) | (simp [*, errW_none, errW_some] <;> rfl), by repeat (first | (with_reducible first | exact HB.out | apply below_alloc | apply pw_below_drewN | apply below_drew1 | refine below_set ?_ GE327.out) | exact HB.out)⟩
                      · rw [if_neg c37] at H
                        have c37b0 : ((wrap64 (t323 + (wrap64 (t324 * (wrap64 (Int.tdiv (wrap64 (t319 - t323)) t324)))))) == t319) = false := beq_eq_false_iff_ne.mpr c37
                        have c37b1 : ((wrap64 (t323 + (wrap64 (t324 * (wrap64 (Int.tdiv (wrap64 (t319 - t323)) t324)))))) != t319) = true := bne_iff_ne.mpr c37
                        obtain rfl := Option.some.inj H
                        have hcz41_0 : wc.cell? ⟨gb327, 0, none⟩ = some (.int .i64 t321) := (blk_cell BK327.out 0).trans rfl
                        have hcz41_1 : wc.cell? ⟨gb327, 1, none⟩ = some (.int .i64 t322) := (blk_cell BK327.out 1).trans rfl
                        have hcz41_2 : wc.cell? ⟨gb327, 2, none⟩ = some (.int .i64 t323) := (blk_cell BK327.out 2).trans rfl
                        have hcz41_3 : wc.cell? ⟨gb327, 3, none⟩ = some (.int .i64 t324) := (blk_cell BK327.out 3).trans rfl
                        have hfz41_0 := blk_frozen BK327.out 0
                        have hfz41_1 := blk_frozen BK327.out 1
                        have hfz41_2 := blk_frozen BK327.out 2
                        have hfz41_3 := blk_frozen BK327.out 3
                        go_wp2
                        go_ret
                        exact ⟨by first | rfl | (simp [errW_none, errW_some] <;> rfl) | (simp [*, errW_none, errW_some] <;> rfl), by repeat (first | (with_reducible first | exact HB.out | apply below_alloc | apply pw_below_drewN | apply below_drew1 | refine below_set ?_ GE327.out) | exact HB.out)⟩
                    · rw [if_neg c36] at H
                      have c36b0 : ((wrap64 (t321 + (wrap64 (t322 * (wrap64 (Int.tdiv (wrap64 (t319 - t323)) t324)))))) == t318) = false := beq_eq_false_iff_ne.mpr c36
                      have c36b1 : ((wrap64 (t321 + (wrap64 (t322 * (wrap64 (Int.tdiv (wrap64 (t319 - t323)) t324)))))) != t318) = true := bne_iff_ne.mpr c36
                      obtain rfl := Option.some.inj H
                      have hcz42_0 : wc.cell? ⟨gb327, 0, none⟩ = some (.int .i64 t321) := (blk_cell BK327.out 0).trans rfl
                      have hcz42_1 : wc.cell? ⟨gb327, 1, none⟩ = some (.int .i64 t322) := (blk_cell BK327.out 1).trans rfl
                      have hcz42_2 : wc.cell? ⟨gb327, 2, none⟩ = some (.int .i64 t323) := (blk_cell BK327.out 2).trans rfl
                      have hcz42_3 : wc.cell? ⟨gb327, 3, none⟩ = some (.int .i64 t324) := (blk_cell BK327.out 3).trans rfl
                      have hfz42_0 := blk_frozen BK327.out 0
                      have hfz42_1 := blk_frozen BK327.out 1
                      have hfz42_2 := blk_frozen BK327.out 2
                      have hfz42_3 := blk_frozen BK327.out 3
                      go_wp2
                      go_ret
                      exact ⟨by first | rfl | (simp [errW_none, errW_some] <;> rfl) | (simp [*, errW_none, errW_some] <;> rfl), by repeat (first | (with_reducible first | exact HB.out | apply below_alloc | apply pw_below_drewN | apply below_drew1 | refine below_set ?_ GE327.out) | exact HB.out)⟩
                · rw [if_neg c27] at H
                  have c27b0 : (t322 == 0) = false := beq_eq_false_iff_ne.mpr c27
                  have c27b1 : (t322 != 0) = true := bne_iff_ne.mpr c27
                  by_cases c43 : (wrap64 (t321 + (wrap64 (t322 * (wrap64 (Int.tdiv (wrap64 (t318 - t321)) t322)))))) = t318
                  · rw [if_pos c43] at H
                    have c43b0 : ((wrap64 (t321 + (wrap64 (t322 * (wrap64 (Int.tdiv (wrap64 (t318 - t321)) t322)))))) == t318) = true := beq_iff_eq.mpr c43
                    have c43b1 : ((wrap64 (t321 + (wrap64 (t322 * (wrap64 (Int.tdiv (wrap64 (t318 - t321)) t322)))))) != t318) = false := bne_eq_false_iff_eq.mpr c43
                    clear c43
                    by_cases c44 : (wrap64 (t323 + (wrap64 (t324 * (wrap64 (Int.tdiv (wrap64 (t318 - t321)) t322)))))) = t319
                    · rw [if_pos c44] at H
                      have c44b0 : ((wrap64 (t323 + (wrap64 (t324 * (wrap64 (Int.tdiv (wrap64 (t318 - t321)) t322)))))) == t319) = true := beq_iff_eq.mpr c44
                      have c44b1 : ((wrap64 (t323 + (wrap64 (t324 * (wrap64 (Int.tdiv (wrap64 (t318 - t321)) t322)))))) != t319) = false := bne_eq_false_iff_eq.mpr c44
                      clear c44
                      by_cases c45 : t321 ≥ 0
                      · rw [if_pos c45] at H
                        have c45b0 : decide (0 ≤ t321) = true := decide_eq_true c45
                        clear c45
                        by_cases c46 : t321 < t322
                        · rw [if_pos c46] at H
                          have c46b0 : decide (t321 < t322) = true := decide_eq_true c46
                          clear c46
                          replace H := Option.bind_eq_some_iff.mp H
                          obtain ⟨t331, A470, H⟩ := H
                          replace H : (some t331) = some r := H
                          have A47 := Aside0.mk A470
                          clear A470
                          obtain rfl := Option.some.inj H
                          have hcz48_0 : wc.cell? ⟨gb327, 0, none⟩ = some (.int .i64 t321) := (blk_cell BK327.out 0).trans rfl
                          have hcz48_1 : wc.cell? ⟨gb327, 1, none⟩ = some (.int .i64 t322) := (blk_cell BK327.out 1).trans rfl
                          have hcz48_2 : wc.cell? ⟨gb327, 2, none⟩ = some (.int .i64 t323) := (blk_cell BK327.out 2).trans rfl
                          have hcz48_3 : wc.cell? ⟨gb327, 3, none⟩ = some (.int .i64 t324) := (blk_cell BK327.out 3).trans rfl
                          have hfz48_0 := blk_frozen BK327.out 0
                          have hfz48_1 := blk_frozen BK327.out 1
                          have hfz48_2 := blk_frozen BK327.out 2
                          have hfz48_3 := blk_frozen BK327.out 3
                          go_wp2_with (first | (go_at_call 16; (with_reducible refine (biremelaw14_alive.calls kj17  t331 _ A47.out).mono ?_); rintro e w49 ⟨rfl, hb⟩; have n0_ := Aside0.mk (blk_below (g := gb327) (o := .cells #[.int .i64 t321, .int .i64 t322, .int .i64 t323, .int .i64 t324] 23 (0, 0)) (by (with_reducible repeat (first | refine blk_drewN ?_ _ | refine blk_drew ?_ | refine blk_alloc ?_ _)); exact BK327.out) hb); have n1_ := Aside0.mk (below_step (by repeat (first | (with_reducible first | exact HB.out | apply below_alloc | apply pw_below_drewN | apply below_drew1 | refine below_set ?_ GE327.out) | exact HB.out)) hb); clear BK327; clear HB; have BK327 := n0_; have HB := n1_; clear n0_ n1_; (try clear hb); (try clear hb2); (try clear hk); (try clear hi)))
                          go_ret
                          exact ⟨by first | rfl | (simp [errW_none, errW_some] <;> rfl) | (simp [*, errW_none, errW_some] <;> rfl), by repeat (first | (with_reducible first | exact HB.out | apply below_alloc | apply pw_below_drewN | apply below_drew1 | refine below_set ?_ GE327.out) | exact HB.out)⟩
                        · rw [if_neg c46] at H
                          have c46b0 : decide (t321 < t322) = false := decide_eq_false c46
                          clear c46
                          obtain rfl := Option.some.inj H
                          have hcz50_0 : wc.cell? ⟨gb327, 0, none⟩ = some (.int .i64 t321) := (blk_cell BK327.out 0).trans rfl
                          have hcz50_1 : wc.cell? ⟨gb327, 1, none⟩ = some (.int .i64 t322) := (blk_cell BK327.out 1).trans rfl
                          have hcz50_2 : wc.cell? ⟨gb327, 2, none⟩ = some (.int .i64 t323) := (blk_cell BK327.out 2).trans rfl
                          have hcz50_3 : wc.cell? ⟨gb327, 3, none⟩ = some (.int .i64 t324) := (blk_cell BK327.out 3).trans rfl
                          have hfz50_0 := blk_frozen BK327.out 0
                          have hfz50_1 := blk_frozen BK327.out 1
                          have hfz50_2 := blk_frozen BK327.out 2
                          have hfz50_3 := blk_frozen BK327.out 3
                          go_wp2
                          go_ret
                          exact ⟨by first | rfl | (simp [errW_none, errW_some] <;> rfl) | (simp [*, errW_none, errW_some] <;> rfl), by repeat (first | (with_reducible first | exact HB.out | apply below_alloc | apply pw_below_drewN | apply below_drew1 | refine below_set ?_ GE327.out) | exact HB.out)⟩
                      · rw [if_neg c45] at H
                        have c45b0 : decide (0 ≤ t321) = false := decide_eq_false c45
                        clear c45
                        obtain rfl := Option.some.inj H
                        have hcz51_0 : wc.cell? ⟨gb327, 0, none⟩ = some (.int .i64 t321) := (blk_cell BK327.out 0).trans rfl
                        have hcz51_1 : wc.cell? ⟨gb327, 1, none⟩ = some (.int .i64 t322) := (blk_cell BK327.out 1).trans rfl
                        have hcz51_2 : wc.cell? ⟨gb327, 2, none⟩ = some (.int .i64 t323) := (blk_cell BK327.out 2).trans rfl
                        have hcz51_3 : wc.cell? ⟨gb327, 3, none⟩ = some (.int .i64 t324) := (blk_cell BK327.out 3).trans rfl
                        have hfz51_0 := blk_frozen BK327.out 0
                        have hfz51_1 := blk_frozen BK327.out 1
                        have hfz51_2 := blk_frozen BK327.out 2
                        have hfz51_3 := blk_frozen BK327.out 3
                        go_wp2
                        go_ret
                        exact ⟨by first | rfl | (simp [errW_none, errW_some] <;> rfl) | (simp [*, errW_none, errW_some] <;> rfl), by repeat (first | (with_reducible first | exact HB.out | apply below_alloc | apply pw_below_drewN | apply below_drew1 | refine below_set ?_ GE327.out) | exact HB.out)⟩
                    · rw [if_neg c44] at H
                      have c44b0 : ((wrap64 (t323 + (wrap64 (t324 * (wrap64 (Int.tdiv (wrap64 (t318 - t321)) t322)))))) == t319) = false := beq_eq_false_iff_ne.mpr c44
                      have c44b1 : ((wrap64 (t323 + (wrap64 (t324 * (wrap64 (Int.tdiv (wrap64 (t318 - t321)) t322)))))) != t319) = true := bne_iff_ne.mpr c44
                      obtain rfl := Option.some.inj H
                      have hcz52_0 : wc.cell? ⟨gb327, 0, none⟩ = some (.int .i64 t321) := (blk_cell BK327.out 0).trans rfl
                      have hcz52_1 : wc.cell? ⟨gb327, 1, none⟩ = some (.int .i64 t322) := (blk_cell BK327.out 1).trans rfl
                      have hcz52_2 : wc.cell? ⟨gb327, 2, none⟩ = some (.int .i64 t323) := (blk_cell BK327.out 2).trans rfl
                      have hcz52_3 : wc.cell? ⟨gb327, 3, none⟩ = some (.int .i64 t324) := (blk_cell BK327.out 3).trans rfl
                      have hfz52_0 := blk_frozen BK327.out 0
                      have hfz52_1 := blk_frozen BK327.out 1
                      have hfz52_2 := blk_frozen BK327.out 2
                      have hfz52_3 := blk_frozen BK327.out 3
                      go_wp2
                      go_ret
                      exact ⟨by first | rfl | (simp [errW_none, errW_some] <;> rfl) | (simp [*, errW_none, errW_some] <;> rfl), by repeat (first | (with_reducible first | exact HB.out | apply below_alloc | apply pw_below_drewN | apply below_drew1 | refine below_set ?_ GE327.out) | exact HB.out)⟩
                  · rw [if_neg c43] at H
                    have c43b0 : ((wrap64 (t321 + (wrap64 (t322 * (wrap64 (Int.tdiv (wrap64 (t318 - t321)) t322)))))) == t318) = false := beq_eq_false_iff_ne.mpr c43
                    have c43b1 : ((wrap64 (t321 + (wrap64 (t322 * (wrap64 (Int.tdiv (wrap64 (t318 - t321)) t322)))))) != t318) = true := bne_iff_ne.mpr c43
                    obtain rfl := Option.some.inj H
                    have hcz53_0 : wc.cell? ⟨gb327, 0, none⟩ = some (.int .i64 t321) := (blk_cell BK327.out 0).trans rfl
                    have hcz53_1 : wc.cell? ⟨gb327, 1, none⟩ = some (.int .i64 t322) := (blk_cell BK327.out 1).trans rfl
                    have hcz53_2 : wc.cell? ⟨gb327, 2, none⟩ = some (.int .i64 t323) := (blk_cell BK327.out 2).trans rfl
                    have hcz53_3 : wc.cell? ⟨gb327, 3, none⟩ = some (.int .i64 t324) := (blk_cell BK327.out 3).trans rfl
                    have hfz53_0 := blk_frozen BK327.out 0
                    have hfz53_1 := blk_frozen BK327.out 1
                    have hfz53_2 := blk_frozen BK327.out 2
                    have hfz53_3 := blk_frozen BK327.out 3
                    go_wp2
                    go_ret
                    exact ⟨by first | rfl | (simp [errW_none, errW_some] <;> rfl) | (simp [*, errW_none, errW_some] <;> rfl), by repeat (first | (with_reducible first | exact HB.out | apply below_alloc | apply pw_below_drewN | apply below_drew1 | refine below_set ?_ GE327.out) | exact HB.out)⟩
              · rw [if_neg c26] at H
                have c26b0 : ((wrap64 ((wrap64 (t316 * (wrap64 (t321 + (wrap64 (t322 * t320)))))) + (wrap64 (t317 * (wrap64 (t323 + (wrap64 (t324 * t320)))))))) == (wrap64 ((wrap64 (t316 * t318)) + (wrap64 (t317 * t319))))) = false := beq_eq_false_iff_ne.mpr c26
                have c26b1 : ((wrap64 ((wrap64 (t316 * (wrap64 (t321 + (wrap64 (t322 * t320)))))) + (wrap64 (t317 * (wrap64 (t323 + (wrap64 (t324 * t320)))))))) != (wrap64 ((wrap64 (t316 * t318)) + (wrap64 (t317 * t319))))) = true := bne_iff_ne.mpr c26
                obtain rfl := Option.some.inj H
                have hcz54_0 : wc.cell? ⟨gb327, 0, none⟩ = some (.int .i64 t321) := (blk_cell BK327.out 0).trans rfl
                have hcz54_1 : wc.cell? ⟨gb327, 1, none⟩ = some (.int .i64 t322) := (blk_cell BK327.out 1).trans rfl
                have hcz54_2 : wc.cell? ⟨gb327, 2, none⟩ = some (.int .i64 t323) := (blk_cell BK327.out 2).trans rfl
                have hcz54_3 : wc.cell? ⟨gb327, 3, none⟩ = some (.int .i64 t324) := (blk_cell BK327.out 3).trans rfl
                have hfz54_0 := blk_frozen BK327.out 0
                have hfz54_1 := blk_frozen BK327.out 1
                have hfz54_2 := blk_frozen BK327.out 2
                have hfz54_3 := blk_frozen BK327.out 3
                go_wp2
                go_ret
                exact ⟨by first | rfl | (simp [errW_none, errW_some] <;> rfl) | (simp [*, errW_none, errW_some] <;> rfl), by repeat (first | (with_reducible first | exact HB.out | apply below_alloc | apply pw_below_drewN | apply below_drew1 | refine below_set ?_ GE327.out) | exact HB.out)⟩


end Go.Proofs.Ytiedehjmhlgicaa.PAll
