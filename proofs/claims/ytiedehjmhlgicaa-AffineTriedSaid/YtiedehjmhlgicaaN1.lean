/- A call of solve returns what its plain definition tells, and changes no block that was there before. -/
import Derived.Test.YtiedehjmhlgicaaQ
namespace Go.Proofs.Ytiedehjmhlgicaa.PAll
open Go.RowKit Go.Proofs.YtiedehjmhlgicaaW.PrintWords Go.Proofs.YtiedehjmhlgicaaW.PrintLast Go.Proofs.YtiedehjmhlgicaaW.PrintMore

theorem hab_of {a b : Int} (hz : ¬ (a = 0 ∧ b = 0)) : (a == 0) = false ∨ (a == 0) = true ∧ (b == 0) = false := by
  by_cases ha : a = 0
  · exact .inr ⟨by simpa using ha, by simp; intro hb; exact hz ⟨ha, hb⟩⟩
  · exact .inl (by simpa using ha)

set_option maxHeartbeats 400000 in
theorem solve_zero (c : Int) (w : World) :
    Calls Try.prog 34 #[.int .i64 0, .int .i64 0, .int .i64 c] w fun e w' => e = .returned (.tuple #[.agg #[.int .i64 0, .int .i64 0, .int .i64 0, .int .i64 0], .bool (c == 0)]) ∧ Below w.heap.size w w' := by
  go_enter Try.func34, Try.ntmps34
  go_wp2
  refine bodyPost_ret (v := .tuple #[.agg #[.int .i64 0, .int .i64 0, .int .i64 0, .int .i64 0], .bool (c == 0)]) (by simp [results, Try.results34, go_sem]) rfl ⟨rfl, ?_⟩
  repeat (with_reducible first | exact Below.refl _ _ | apply below_alloc | apply pw_below_drewN | apply below_drew1 | refine below_set ?_ (by simp))

set_option maxHeartbeats 400000 in
theorem solve_no (a b c g x y : Int) (w : World) (hab : (a == 0) = false ∨ (a == 0) = true ∧ (b == 0) = false) (k : Nat) (h : affine_euclid.f k a b = some (g, x, y)) (hg : ¬ g = 0) (hc : (Int.tmod c g != 0) = true) :
    Calls Try.prog 34 #[.int .i64 a, .int .i64 b, .int .i64 c] w fun e w' => e = .returned (.tuple #[.agg #[.int .i64 0, .int .i64 0, .int .i64 0, .int .i64 0], .bool false]) ∧ Below w.heap.size w w' := by
  have H := Aside0.mk h
  clear h
  have hg' : (g == 0) = false := by simpa using hg
  rcases hab with ha | ⟨ha, hb⟩
  all_goals
    go_enter Try.func34, Try.ntmps34
    go_wp2_with (go_at_call 49; (with_reducible refine (affine_euclid.calls k a b g x y _ H.out).mono ?_); rintro e w' ⟨rfl, ⟨nd, rfl⟩⟩)
    refine bodyPost_ret (v := .tuple #[.agg #[.int .i64 0, .int .i64 0, .int .i64 0, .int .i64 0], .bool false]) (by simp [results, Try.results34, go_sem]) rfl ⟨rfl, ?_⟩
    repeat (with_reducible first | exact Below.refl _ _ | apply below_alloc | apply pw_below_drewN | apply below_drew1 | refine below_set ?_ (by simp))

set_option maxHeartbeats 1000000 in
theorem solve_line (a b c g x y A B C : Int) (w : World) (hab : (a == 0) = false ∨ (a == 0) = true ∧ (b == 0) = false) (k : Nat) (h : affine_euclid.f k a b = some (g, x, y)) (hg : ¬ g = 0) (hc : (Int.tmod c g != 0) = false)
    (hA : wrap64 (Int.tdiv a g) = A) (hB : wrap64 (Int.tdiv b g) = B) (hC : wrap64 (Int.tdiv c g) = C) (hB0 : (B == 0) = true) (hA0 : ¬ A = 0) :
    Calls Try.prog 34 #[.int .i64 a, .int .i64 b, .int .i64 c] w fun e w' => e = .returned (.tuple #[.agg #[.int .i64 (wrap64 (Int.tdiv C A)), .int .i64 0, .int .i64 0, .int .i64 1], .bool true]) ∧ Below w.heap.size w w' := by
  have H := Aside0.mk h
  clear h
  have hg' : (g == 0) = false := by simpa using hg
  have hA' : (A == 0) = false := by simpa using hA0
  rcases hab with ha | ⟨ha, hb⟩
  all_goals
    go_enter Try.func34, Try.ntmps34
    go_wp2_with (go_at_call 49; (with_reducible refine (affine_euclid.calls k a b g x y _ H.out).mono ?_); rintro e w' ⟨rfl, ⟨nd, rfl⟩⟩)
    go_quiet (fail)
    rw [hA, hB, hC]
    clear hA hB hC
    go_wp2
    refine bodyPost_ret (v := .tuple #[.agg #[.int .i64 (wrap64 (Int.tdiv C A)), .int .i64 0, .int .i64 0, .int .i64 1], .bool true]) (by simp [results, Try.results34, go_sem]) rfl ⟨rfl, ?_⟩
    repeat (with_reducible first | exact Below.refl _ _ | apply below_alloc | apply pw_below_drewN | apply below_drew1 | refine below_set ?_ (by simp))

set_option maxHeartbeats 2000000 in
theorem solve_neg (a b c g x y A B C m r u1 u2 u3 t1 t2 t3 Y : Int) (w : World) (hab : (a == 0) = false ∨ (a == 0) = true ∧ (b == 0) = false) (k : Nat) (h : affine_euclid.f k a b = some (g, x, y)) (hg : ¬ g = 0) (hc : (Int.tmod c g != 0) = false)
    (hA : wrap64 (Int.tdiv a g) = A) (hB : wrap64 (Int.tdiv b g) = B) (hC : wrap64 (Int.tdiv c g) = C) (hB0 : (B == 0) = false) (hBn : decide (B < 0) = true)
    (h1 : affine_abs.f B = some m) (h2 : affine_rest.f A m = some r) (h3 : affine_gcd.f k r m = some (u1, u2, u3)) (h4 : affine_rest.f u2 m = some t1) (h5 : affine_rest.f C m = some t2) (h6 : affine_rest.f (wrap64 (t1 * t2)) m = some t3)
    (h7 : affine_whole.f A t3 B C = some Y) :
    Calls Try.prog 34 #[.int .i64 a, .int .i64 b, .int .i64 c] w fun e w' => e = .returned (.tuple #[.agg #[.int .i64 t3, .int .i64 (wrap64 (-B)), .int .i64 Y, .int .i64 A], .bool true]) ∧ Below w.heap.size w w' := by
  have H := Aside0.mk h
  clear h
  have H1 := Aside0.mk h1; clear h1
  have H2 := Aside0.mk h2; clear h2
  have H3 := Aside0.mk h3; clear h3
  have H4 := Aside0.mk h4; clear h4
  have H5 := Aside0.mk h5; clear h5
  have H6 := Aside0.mk h6; clear h6
  have H7 := Aside0.mk h7; clear h7
  have hg' : (g == 0) = false := by simpa using hg
  rcases hab with ha | ⟨ha, hb⟩
  all_goals
    go_enter Try.func34, Try.ntmps34
    go_wp2_with (go_at_call 49; (with_reducible refine (affine_euclid.calls k a b g x y _ H.out).mono ?_); rintro e w' ⟨rfl, ⟨nd, rfl⟩⟩)
    go_quiet (fail)
    rw [hA, hB, hC]
    clear hA hB hC
    go_wp2_with fail
    refine (affine_abs.calls B m _ H1.out).mono ?_; rintro e w' ⟨rfl, ⟨nd, rfl⟩⟩
    go_wp2_with fail
    refine (affine_rest.calls A m r _ H2.out).mono ?_; rintro e w' ⟨rfl, ⟨nd, rfl⟩⟩
    go_wp2_with fail
    refine (affine_gcd.calls k r m u1 u2 u3 _ H3.out).mono ?_; rintro e w' ⟨rfl, ⟨nd, rfl⟩⟩
    go_wp2_with fail
    refine (affine_rest.calls u2 m t1 _ H4.out).mono ?_; rintro e w' ⟨rfl, ⟨nd, rfl⟩⟩
    go_wp2_with fail
    refine (affine_rest.calls C m t2 _ H5.out).mono ?_; rintro e w' ⟨rfl, ⟨nd, rfl⟩⟩
    go_wp2_with fail
    refine (affine_rest.calls (wrap64 (t1 * t2)) m t3 _ H6.out).mono ?_; rintro e w' ⟨rfl, ⟨nd, rfl⟩⟩
    go_wp2_with fail
    refine (affine_whole.calls A t3 B C Y _ H7.out).mono ?_; rintro e w' ⟨rfl, ⟨nd, rfl⟩⟩
    go_wp2_with fail
    refine bodyPost_ret (v := .tuple #[.agg #[.int .i64 t3, .int .i64 (wrap64 (-B)), .int .i64 Y, .int .i64 A], .bool true]) (by simp [results, Try.results34, go_sem]) rfl ⟨rfl, ?_⟩
    repeat (with_reducible first | exact Below.refl _ _ | apply below_alloc | apply pw_below_drewN | apply below_drew1 | refine below_set ?_ (by simp))

set_option maxHeartbeats 2000000 in
theorem solve_pos (a b c g x y A B C m r u1 u2 u3 t1 t2 t3 Y : Int) (w : World) (hab : (a == 0) = false ∨ (a == 0) = true ∧ (b == 0) = false) (k : Nat) (h : affine_euclid.f k a b = some (g, x, y)) (hg : ¬ g = 0) (hc : (Int.tmod c g != 0) = false)
    (hA : wrap64 (Int.tdiv a g) = A) (hB : wrap64 (Int.tdiv b g) = B) (hC : wrap64 (Int.tdiv c g) = C) (hB0 : (B == 0) = false) (hBn : decide (B < 0) = false)
    (h1 : affine_abs.f B = some m) (h2 : affine_rest.f A m = some r) (h3 : affine_gcd.f k r m = some (u1, u2, u3)) (h4 : affine_rest.f u2 m = some t1) (h5 : affine_rest.f C m = some t2) (h6 : affine_rest.f (wrap64 (t1 * t2)) m = some t3)
    (h7 : affine_whole.f A t3 B C = some Y) :
    Calls Try.prog 34 #[.int .i64 a, .int .i64 b, .int .i64 c] w fun e w' => e = .returned (.tuple #[.agg #[.int .i64 t3, .int .i64 B, .int .i64 Y, .int .i64 (wrap64 (-A))], .bool true]) ∧ Below w.heap.size w w' := by
  have H := Aside0.mk h
  clear h
  have H1 := Aside0.mk h1; clear h1
  have H2 := Aside0.mk h2; clear h2
  have H3 := Aside0.mk h3; clear h3
  have H4 := Aside0.mk h4; clear h4
  have H5 := Aside0.mk h5; clear h5
  have H6 := Aside0.mk h6; clear h6
  have H7 := Aside0.mk h7; clear h7
  have hg' : (g == 0) = false := by simpa using hg
  rcases hab with ha | ⟨ha, hb⟩
  all_goals
    go_enter Try.func34, Try.ntmps34
    go_wp2_with (go_at_call 49; (with_reducible refine (affine_euclid.calls k a b g x y _ H.out).mono ?_); rintro e w' ⟨rfl, ⟨nd, rfl⟩⟩)
    go_quiet (fail)
    rw [hA, hB, hC]
    clear hA hB hC
    go_wp2_with fail
    refine (affine_abs.calls B m _ H1.out).mono ?_; rintro e w' ⟨rfl, ⟨nd, rfl⟩⟩
    go_wp2_with fail
    refine (affine_rest.calls A m r _ H2.out).mono ?_; rintro e w' ⟨rfl, ⟨nd, rfl⟩⟩
    go_wp2_with fail
    refine (affine_gcd.calls k r m u1 u2 u3 _ H3.out).mono ?_; rintro e w' ⟨rfl, ⟨nd, rfl⟩⟩
    go_wp2_with fail
    refine (affine_rest.calls u2 m t1 _ H4.out).mono ?_; rintro e w' ⟨rfl, ⟨nd, rfl⟩⟩
    go_wp2_with fail
    refine (affine_rest.calls C m t2 _ H5.out).mono ?_; rintro e w' ⟨rfl, ⟨nd, rfl⟩⟩
    go_wp2_with fail
    refine (affine_rest.calls (wrap64 (t1 * t2)) m t3 _ H6.out).mono ?_; rintro e w' ⟨rfl, ⟨nd, rfl⟩⟩
    go_wp2_with fail
    refine (affine_whole.calls A t3 B C Y _ H7.out).mono ?_; rintro e w' ⟨rfl, ⟨nd, rfl⟩⟩
    go_wp2_with fail
    refine bodyPost_ret (v := .tuple #[.agg #[.int .i64 t3, .int .i64 B, .int .i64 Y, .int .i64 (wrap64 (-A))], .bool true]) (by simp [results, Try.results34, go_sem]) rfl ⟨rfl, ?_⟩
    repeat (with_reducible first | exact Below.refl _ _ | apply below_alloc | apply pw_below_drewN | apply below_drew1 | refine below_set ?_ (by simp))

theorem affine_solve.calls (k : Nat) (a0 a1 a2 r1 r2 r3 r4 : Int) (r5 : Bool) (w : World) (h : affine_solve.f k a0 a1 a2 = some (r1, r2, r3, r4, r5)) :
    Calls Try.prog 34 #[.int .i64 a0, .int .i64 a1, .int .i64 a2] w fun e w' => e = .returned (.tuple #[.agg #[.int .i64 r1, .int .i64 r2, .int .i64 r3, .int .i64 r4], .bool r5]) ∧ Below w.heap.size w w' := by
  by_cases hz : a0 = 0 ∧ a1 = 0
  · obtain ⟨rfl, rfl⟩ := hz
    unfold affine_solve.f at h
    rw [if_pos rfl] at h
    cases k with
    | zero => exact absurd h (by simp [affine_solve.j0])
    | succ k =>
      simp only [affine_solve.j0] at h
      rw [if_pos (by rfl)] at h
      simp only [Option.some.injEq, Prod.mk.injEq] at h
      obtain ⟨rfl, rfl, rfl, rfl, rfl⟩ := h
      exact solve_zero a2 w
  · have hab := hab_of hz
    have hf : affine_solve.f k a0 a1 a2 = affine_solve.j0 k a0 a1 a2 false := by
      unfold affine_solve.f
      split
      · have : (a1 == 0) = false := by simp; omega
        rw [this]
      · rfl
    rw [hf] at h
    clear hf hz
    cases k with
    | zero => exact absurd h (by simp [affine_solve.j0])
    | succ k =>
      simp only [affine_solve.j0] at h
      rw [if_neg (by simp)] at h
      obtain ⟨⟨g, x, y⟩, he, h⟩ := Option.bind_eq_some_iff.mp h
      dsimp only at h
      by_cases hg : g = 0
      · rw [if_pos hg] at h; cases h
      rw [if_neg hg] at h
      by_cases hc : Int.tmod a2 g = 0
      · rw [if_pos hc] at h
        by_cases hB : wrap64 (Int.tdiv a1 g) = 0
        · rw [if_pos hB] at h
          by_cases hA : wrap64 (Int.tdiv a0 g) = 0
          · rw [if_pos hA] at h; cases h
          rw [if_neg hA] at h
          simp only [Option.some.injEq, Prod.mk.injEq] at h
          obtain ⟨rfl, rfl, rfl, rfl, rfl⟩ := h
          exact solve_line a0 a1 a2 g x y _ _ _ w hab k he hg (by simpa using hc) rfl rfl rfl (by simpa using hB) hA
        · rw [if_neg hB] at h
          obtain ⟨m, h1, h⟩ := Option.bind_eq_some_iff.mp h
          obtain ⟨r, h2, h⟩ := Option.bind_eq_some_iff.mp h
          obtain ⟨⟨u1, u2, u3⟩, h3, h⟩ := Option.bind_eq_some_iff.mp h
          obtain ⟨t1, h4, h⟩ := Option.bind_eq_some_iff.mp h
          obtain ⟨t2, h5, h⟩ := Option.bind_eq_some_iff.mp h
          obtain ⟨t3, h6, h⟩ := Option.bind_eq_some_iff.mp h
          dsimp only at h h4
          by_cases hn : wrap64 (Int.tdiv a1 g) < 0
          · rw [if_pos hn] at h
            obtain ⟨Y, h7, h⟩ := Option.bind_eq_some_iff.mp h
            simp only [Option.some.injEq, Prod.mk.injEq] at h
            obtain ⟨rfl, rfl, rfl, rfl, rfl⟩ := h
            exact solve_neg a0 a1 a2 g x y _ _ _ m r u1 u2 u3 t1 t2 t3 Y w hab k he hg (by simpa using hc) rfl rfl rfl (by simpa using hB) (by simpa using hn) h1 h2 h3 h4 h5 h6 h7
          · rw [if_neg hn] at h
            obtain ⟨Y, h7, h⟩ := Option.bind_eq_some_iff.mp h
            simp only [Option.some.injEq, Prod.mk.injEq] at h
            obtain ⟨rfl, rfl, rfl, rfl, rfl⟩ := h
            exact solve_pos a0 a1 a2 g x y _ _ _ m r u1 u2 u3 t1 t2 t3 Y w hab k he hg (by simpa using hc) rfl rfl rfl (by simpa using hB) (by simpa using hn) h1 h2 h3 h4 h5 h6 h7
      · rw [if_neg hc] at h
        simp only [Option.some.injEq, Prod.mk.injEq] at h
        obtain ⟨rfl, rfl, rfl, rfl, rfl⟩ := h
        exact solve_no a0 a1 a2 g x y w hab k he hg (by simpa using hc)
end Go.Proofs.Ytiedehjmhlgicaa.PAll
