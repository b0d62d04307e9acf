/- The reference for two lines, and the laws that compare with it, as plain mathematics. -/
import Derived.Test.YtiedehjmhlgicaaM5
set_option maxHeartbeats 2000000
set_option linter.unusedVariables false
set_option linter.unusedSimpArgs false
namespace Go.Proofs.Ytiedehjmhlgicaa.PAll.Aff
open Go.RowKit Go.Proofs.YtiedehjmhlgicaaW.PrintWords Go.Proofs.YtiedehjmhlgicaaW.PrintLast Go.Proofs.YtiedehjmhlgicaaW.PrintMore
/-- What the reference's family of pairs tells. -/
inductive Fam (pb ps qb qs n m : Int) : Bool → Bool → Bool → Int → Int → Int → Int → Int → Int → Prop
  | none (A O : Bool) (I DI J DJ F T : Int) : (∀ i j, ¬ Pair pb ps qb qs n m i j) → Fam pb ps qb qs n m true A O I DI J DJ F T
  | all (I DI J DJ F T : Int) : 0 < n → 0 < m → (∀ i j, Pair pb ps qb qs n m i j ↔ 0 ≤ i ∧ i < n ∧ 0 ≤ j ∧ j < m) → Fam pb ps qb qs n m false true false I DI J DJ F T
  | one (I DI J DJ F T : Int) : 0 ≤ I → I < n → 0 < m → (∀ i j, Pair pb ps qb qs n m i j ↔ i = I ∧ 0 ≤ j ∧ j < m) → Fam pb ps qb qs n m false false true I DI J DJ F T
  | line (I DI J DJ F T : Int) : 0 ≤ I → I < DI → DI.natAbs ≤ 2147483648 → J.natAbs ≤ 8589934592 → DJ.natAbs ≤ 2147483648 → 0 ≤ F → F ≤ T → T ≤ n →
      (∀ i j, Pair pb ps qb qs n m i j ↔ ∃ k, F ≤ k ∧ k ≤ T ∧ i = I + DI * k ∧ j = J + DJ * k) → Fam pb ps qb qs n m false false false I DI J DJ F T
theorem fdiv_abs2 {a m : Int} {B : Nat} (hm : 0 < m) (ha : a.natAbs ≤ B) : (a.fdiv m).natAbs ≤ B + 1 := by
  have h1 : a.fdiv m ≤ (B : Int) := by
    apply Classical.byContradiction
    intro h
    have h2 := (le_fdiv_pos (a := a) (s := m) (k := B + 1) hm).mp (by omega)
    have h3 : 1 * ((B : Int) + 1) ≤ m * (B + 1) := Int.mul_le_mul_of_nonneg_right (by omega) (by omega)
    omega
  have h4 : -(B : Int) - 1 ≤ a.fdiv m := by
    rw [le_fdiv_pos hm]
    have h3 : m * (-(B : Int) - 1) ≤ 1 * (-(B : Int) - 1) := Int.mul_le_mul_of_nonpos_right (by omega) (by omega)
    omega
  omega
theorem up_abs {a m : Int} {B : Nat} (hm : 0 < m) (ha : a.natAbs ≤ B) : (-((-a).fdiv m)).natAbs ≤ B + 1 := by
  have := fdiv_abs2 (a := -a) (B := B) hm (by omega)
  omega
theorem Of_line {pb ps qb qs n m X DX Y DY : Int} (hs : Sol ps (-qs) (qb - pb) X DX Y DY true) (hq : -qs ≠ 0) (z2 : DX.natAbs ≤ 2147483648) (z3 : Y.natAbs ≤ 8589934592) (z4 : DY.natAbs ≤ 2147483648)
    {F T : Int} (hF : 0 ≤ F) (h : ∀ k, F ≤ k ∧ k ≤ T ↔ 0 ≤ X + DX * k ∧ X + DX * k < n ∧ 0 ≤ Y + DY * k ∧ Y + DY * k < m) :
    Fam pb ps qb qs n m (decide (F > T)) false false X DX Y DY F T := by
  obtain ⟨l1, l2, _⟩ := hs.least hq rfl
  have pairs : ∀ i j, Pair pb ps qb qs n m i j ↔ ∃ k, F ≤ k ∧ k ≤ T ∧ i = X + DX * k ∧ j = Y + DY * k := by
    intro i j
    constructor
    · intro hp
      unfold Pair at hp
      obtain ⟨k, rfl, rfl⟩ := hs.all (.inr hq) rfl (i := i) (j := j) (by rw [Int.neg_mul]; omega)
      have := (h k).mpr ⟨hp.1, hp.2.1, hp.2.2.1, hp.2.2.2.1⟩
      exact ⟨k, this.1, this.2, rfl, rfl⟩
    · rintro ⟨k, k1, k2, rfl, rfl⟩
      have h1 := (h k).mp ⟨k1, k2⟩
      have h2 := hs.each (.inr hq) rfl k
      rw [Int.neg_mul] at h2
      exact ⟨h1.1, h1.2.1, h1.2.2.1, h1.2.2.2, by omega⟩
  by_cases hFT : F > T
  · rw [decide_eq_true hFT]
    refine .none _ _ _ _ _ _ _ _ fun i j hp => ?_
    obtain ⟨k, k1, k2, _⟩ := (pairs i j).mp hp
    omega
  · rw [decide_eq_false hFT]
    have hT := (h T).mp ⟨by omega, Int.le_refl _⟩
    exact .line _ _ _ _ _ _ l1 l2 z2 z3 z4 hF (by omega) (k_small (by omega) l1 l2 hT.1 hT.2.1).2 pairs
theorem Of_eval {pb ps qb qs n m : Int} (hg : Good pb ps qb qs [n, m]) (hn : 0 ≤ n) (hm : 0 ≤ m) :
    ∃ N A O I DI J DJ F T, (∀ k, 2147483800 < k → biremeref14_Of.f k pb ps qb qs n m = some (N, A, O, I, DI, J, DJ, F, T, n, m)) ∧ Fam pb ps qb qs n m N A O I DI J DJ F T := by
  obtain ⟨b1, b2, b3, b4, b5, b6⟩ := hg.two
  have hc : (qb - pb).natAbs ≤ 4294967296 := by clear b2 b4 b5 b6; omega
  have hq : (-qs).natAbs ≤ 2147483648 := by clear b1 b2 b3 b5 b6 hc; omega
  obtain ⟨X, DX, Y, DY, ok, he, hs⟩ := refSolve_eval (a := ps) (b := -qs) (c := qb - pb) b2 hq hc
  obtain ⟨z1, z2, z3, z4⟩ := hs.sizes b2 hq hc
  have v1 : wrap64 (-qs) = -qs := w64n (Nat.le_trans hq (by decide))
  have v2 : wrap64 (qb - pb) = qb - pb := w64n (Nat.le_trans hc (by decide))
  clear b1 b2 b3 b4 hc hq
  by_cases hx : ok = false ∨ n = 0 ∨ m = 0
  · have e : ∀ k, 2147483800 < k → biremeref14_Of.f k pb ps qb qs n m = biremeref14_Of.j0 k n m true pb ps qb qs false false false 0 0 0 0 0 0 n m X DX Y DY := by
      intro k hk
      unfold biremeref14_Of.f
      rw [v1, v2, he k (by omega)]
      simp only [Option.bind_some]
      cases ho : ok
      · rw [if_neg (by decide)]
      · rw [if_pos rfl]
        by_cases h0 : n = 0
        · rw [if_pos h0]
        · rw [if_neg h0]
          have : m = 0 := by rcases hx with h | h | h; rw [ho] at h; cases h; exact absurd h h0; exact h
          subst this
          rfl
    refine ⟨true, false, false, 0, 0, 0, 0, 0, 0, fun k hk => ?_, .none _ _ _ _ _ _ _ _ fun i j hp => ?_⟩
    · rw [e k hk]
      obtain ⟨k, rfl⟩ : ∃ q, k = q + 1 := ⟨k - 1, by omega⟩
      simp only [biremeref14_Of.j0]
      rw [if_pos trivial]
    · unfold Pair at hp
      rcases hx with h | h | h
      · by_cases hz : ps = 0 ∧ -qs = 0
        · have h1 := (hs.zero hz.1 hz.2).2.2.2.2
          have h2 : qs = 0 := by omega
          have h3 := hp.2.2.2.2
          rw [hz.1, h2, Int.zero_mul, Int.zero_mul] at h3
          have := h1.mpr (by omega)
          rw [h] at this; cases this
        · refine (hs.no (by omega) h).2.2.2.2 i j ?_
          rw [Int.neg_mul]; omega
      · omega
      · omega
  · obtain ⟨rfl, hn0, hm0⟩ : ok = true ∧ n ≠ 0 ∧ m ≠ 0 := by
      refine ⟨?_, fun h => hx (.inr (.inl h)), fun h => hx (.inr (.inr h))⟩
      cases h : ok
      · exact absurd (.inl h) hx
      · rfl
    have e : ∀ k, 2147483800 < k → biremeref14_Of.f k pb ps qb qs n m = biremeref14_Of.j0 k n m false pb ps qb qs false false false 0 0 0 0 0 0 n m X DX Y DY := by
      intro k hk
      unfold biremeref14_Of.f
      rw [v1, v2, he k (by omega)]
      simp only [Option.bind_some]
      rw [if_pos trivial, if_neg hn0, show (m == 0) = false by simpa using hm0]
    by_cases hz : ps = 0 ∧ qs = 0
    · refine ⟨false, true, false, 0, 0, 0, 0, 0, 0, fun k hk => ?_, .all _ _ _ _ _ _ (by omega) (by omega) fun i j => ?_⟩
      · rw [e k hk]
        obtain ⟨k, rfl⟩ : ∃ q, k = q + 1 := ⟨k - 1, by omega⟩
        simp only [biremeref14_Of.j0]
        rw [if_neg (by decide), if_pos hz.1, if_pos hz.2]
      · have h1 := ((hs.zero hz.1 (by omega)).2.2.2.2).mp rfl
        unfold Pair
        rw [hz.1, hz.2, Int.zero_mul, Int.zero_mul]
        omega
    · have e1 : ∀ k, 2147483800 < k → biremeref14_Of.f k pb ps qb qs n m = biremeref14_Of.j1 (k - 1) n m qb qs false false false 0 0 0 0 0 0 n m X DX Y DY := by
        intro k hk
        rw [e k hk]
        obtain ⟨k, rfl⟩ : ∃ q, k = q + 1 := ⟨k - 1, by omega⟩
        simp only [biremeref14_Of.j0]
        rw [if_neg (by decide)]
        by_cases h0 : ps = 0
        · rw [if_pos h0, if_neg (by omega)]; rfl
        · rw [if_neg h0]; rfl
      clear e
      by_cases hq0 : qs = 0
      · have hl := hs.line (by omega) (by omega) rfl
        have h1 := (hs.one (by omega) rfl).1
        have pairs : ∀ i j, Pair pb ps qb qs n m i j → i = X := by
          intro i j hp
          unfold Pair at hp
          obtain ⟨k, hi, _⟩ := hs.all (by omega) rfl (i := i) (j := j) (by rw [Int.neg_mul]; omega)
          rw [hi, hl.1, Int.zero_mul, Int.add_zero]
        have e2 : ∀ k, 2147483800 < k → biremeref14_Of.f k pb ps qb qs n m = if X < 0 then some (true, false, true, X, DX, Y, DY, 0, 0, n, m) else some (decide (X ≥ n), false, true, X, DX, Y, DY, 0, 0, n, m) := by
          intro k hk
          rw [e1 k hk]
          obtain ⟨k, rfl⟩ : ∃ q, k = q + 2 := ⟨k - 2, by omega⟩
          simp only [Nat.add_succ_sub_one, biremeref14_Of.j1]
          rw [if_pos hq0]
        by_cases hX : X < 0
        · refine ⟨_, _, _, _, _, _, _, _, _, fun k hk => by rw [e2 k hk, if_pos hX], .none _ _ _ _ _ _ _ _ fun i j hp => ?_⟩
          have := pairs i j hp
          unfold Pair at hp
          omega
        · by_cases hX' : X ≥ n
          · refine ⟨_, _, _, _, _, _, _, _, _, fun k hk => by rw [e2 k hk, if_neg hX, decide_eq_true hX'], .none _ _ _ _ _ _ _ _ fun i j hp => ?_⟩
            have := pairs i j hp
            unfold Pair at hp
            omega
          · refine ⟨_, _, _, _, _, _, _, _, _, fun k hk => by rw [e2 k hk, if_neg hX, decide_eq_false hX'], .one _ _ _ _ _ _ (by omega) (by omega) (by omega) fun i j => ⟨fun hp => ⟨pairs i j hp, hp.2.2.1, hp.2.2.2.1⟩, ?_⟩⟩
            rintro ⟨rfl, hj0, hj1⟩
            refine ⟨by omega, by omega, hj0, hj1, ?_⟩
            rw [hq0] at h1 ⊢
            rw [Int.neg_zero, Int.zero_mul] at h1
            rw [Int.zero_mul]
            omega
      · have hq : -qs ≠ 0 := by omega
        obtain ⟨l1, l2, _⟩ := hs.least hq rfl
        have hd : 0 < DX := by omega
        have s1 : (n - 1 - X).natAbs ≤ 8589934592 := by clear z2 z3 z4 b6; omega
        have s2 : (m - 1 - Y).natAbs ≤ 17179869184 := by clear z1 z2 z4 b5 s1; omega
        have s3 : (Y - (m - 1)).natAbs ≤ 17179869184 := by clear z1 z2 z4 b5 s1; omega
        have i1 : ∀ k, 0 ≤ X + DX * k ↔ 0 ≤ k := by
          intro k
          constructor
          · intro h
            apply Classical.byContradiction
            intro hk
            have : DX * k ≤ DX * (-1) := Int.mul_le_mul_of_nonneg_left (by omega) (by omega)
            omega
          · intro h
            have : 0 ≤ DX * k := Int.mul_nonneg (by omega) h
            omega
        have i2 : ∀ k, k ≤ (n - 1 - X).fdiv DX ↔ X + DX * k < n := fun k => by rw [le_fdiv_pos hd]; omega
        have w1 : wrap64 (n - 1) = n - 1 := w64n (by clear z1 z2 z3 z4 b6 s1 s2 s3; omega)
        have w2 : wrap64 (n - 1 - X) = n - 1 - X := w64n (Nat.le_trans s1 (by decide))
        have w3 : wrap64 (m - 1) = m - 1 := w64n (by clear z1 z2 z3 z4 b5 s1 s2 s3; omega)
        have w4 : wrap64 (m - 1 - Y) = m - 1 - Y := w64n (Nat.le_trans s2 (by decide))
        have w5 : wrap64 (Y - (m - 1)) = Y - (m - 1) := w64n (Nat.le_trans s3 (by decide))
        have w6 : wrap64 (-Y) = -Y := w64n (by clear z1 z2 z4 b5 b6 s1 s2 s3; omega)
        have w7 : wrap64 (-DY) = -DY := w64n (by clear z1 z2 z3 b5 b6 s1 s2 s3; omega)
        have d1 := down_eval (a := n - 1 - X) (m := DX) hd (by clear z1 z3 z4 b5 b6 s1 s2 s3; omega) (Nat.le_trans s1 (by decide))
        by_cases hy0 : DY = 0
        · -- j does not move
          by_cases hY : Y < 0 ∨ Y ≥ m
          · refine ⟨true, false, false, X, DX, Y, DY, 0, (n - 1 - X).fdiv DX, fun k hk => ?_, .none _ _ _ _ _ _ _ _ fun i j hp => ?_⟩
            · rw [e1 k hk]
              obtain ⟨k, rfl⟩ : ∃ q, k = q + 2 := ⟨k - 2, by omega⟩
              simp only [Nat.add_succ_sub_one, biremeref14_Of.j1]
              rw [if_neg hq0, w1, w2, d1]
              simp only [Option.bind_some]
              rw [if_pos hy0]
              by_cases h : Y < 0
              · rw [if_pos h]
              · rw [if_neg h, if_pos (by omega)]
            · unfold Pair at hp
              obtain ⟨k, hi, hj⟩ := hs.all (.inr hq) rfl (i := i) (j := j) (by rw [Int.neg_mul]; omega)
              rw [hy0, Int.zero_mul] at hj
              omega
          · refine ⟨decide (0 > (n - 1 - X).fdiv DX), false, false, X, DX, Y, DY, 0, (n - 1 - X).fdiv DX, fun k hk => ?_, Of_line hs hq z2 z3 z4 (Int.le_refl _) fun k => ?_⟩
            · rw [e1 k hk]
              obtain ⟨k, rfl⟩ : ∃ q, k = q + 2 := ⟨k - 2, by omega⟩
              simp only [Nat.add_succ_sub_one, biremeref14_Of.j1]
              rw [if_neg hq0, w1, w2, d1]
              simp only [Option.bind_some]
              rw [if_pos hy0, if_neg (by omega), if_neg (by omega)]
            · rw [i1, i2, hy0, Int.zero_mul]
              omega
        · by_cases hy1 : DY > 0
          · have d2 := up_eval (a := -Y) (m := DY) hy1 (by clear z1 z2 z3 b5 b6 s1 s2 s3; omega) (by clear z1 z2 z4 b5 b6 s1 s2 s3; omega)
            have d3 := down_eval (a := m - 1 - Y) (m := DY) hy1 (by clear z1 z2 z3 b5 b6 s1 s2 s3; omega) (Nat.le_trans s2 (by decide))
            refine ⟨_, false, false, X, DX, Y, DY, mx 0 (-((- -Y).fdiv DY)), mn ((n - 1 - X).fdiv DX) ((m - 1 - Y).fdiv DY), fun k hk => ?_, Of_line hs hq z2 z3 z4 ?_ fun k => ?_⟩
            · rw [e1 k hk]
              obtain ⟨k, rfl⟩ : ∃ q, k = q + 2 := ⟨k - 2, by omega⟩
              simp only [Nat.add_succ_sub_one, biremeref14_Of.j1]
              rw [if_neg hq0, w1, w2, d1]
              simp only [Option.bind_some]
              rw [if_neg hy0, if_pos hy1, w6, d2, w3, w4, d3]
              simp only [Option.bind_some]
              rw [if_neg (by decide)]
            · exact (mx_le.mp (Int.le_refl _)).1
            · rw [mx_le, le_mn, i1, i2, ceil_le_pos hy1, le_fdiv_pos hy1]
              omega
          · have hy2 : 0 < -DY := by omega
            have d2 := up_eval (a := Y - (m - 1)) (m := -DY) hy2 (by clear z1 z2 z3 b5 b6 s1 s2 s3; omega) (Nat.le_trans s3 (by decide))
            have d3 := down_eval (a := Y) (m := -DY) hy2 (by clear z1 z2 z3 b5 b6 s1 s2 s3; omega) (Nat.le_trans z3 (by decide))
            refine ⟨_, false, false, X, DX, Y, DY, mx 0 (-((-(Y - (m - 1))).fdiv (-DY))), mn ((n - 1 - X).fdiv DX) (Y.fdiv (-DY)), fun k hk => ?_, Of_line hs hq z2 z3 z4 ?_ fun k => ?_⟩
            · rw [e1 k hk]
              obtain ⟨k, rfl⟩ : ∃ q, k = q + 2 := ⟨k - 2, by omega⟩
              simp only [Nat.add_succ_sub_one, biremeref14_Of.j1]
              rw [if_neg hq0, w1, w2, d1]
              simp only [Option.bind_some]
              rw [if_neg hy0, if_neg hy1, w3, w5, w7, d2, d3]
              simp only [Option.bind_some]
              rw [if_neg (by decide)]
            · exact (mx_le.mp (Int.le_refl _)).1
            · rw [mx_le, le_mn, i1, i2, ceil_le_pos hy2, le_fdiv_pos hy2, Int.neg_mul]
              omega

theorem refMeet_eval {pb ps qb qs n m : Int} (hg : Good pb ps qb qs [n, m]) (hn : 0 ≤ n) (hm : 0 ≤ m) :
    ∃ i j ok, (∀ k, 2147483800 < k → biremeref14_Meet.f k pb ps qb qs n m = some (i, j, ok)) ∧ MeetOf pb ps qb qs n m i j ok := by
  obtain ⟨N, A, O, I, DI, J, DJ, F, T, he, hf⟩ := Of_eval hg hn hm
  have e : ∀ k, 2147483800 < k → biremeref14_Meet.f k pb ps qb qs n m = if N = true then some (0, 0, false) else if A = true then some (0, 0, true) else if O = true then some (I, 0, true) else some (wrap64 (I + wrap64 (DI * F)), wrap64 (J + wrap64 (DJ * F)), true) := by
    intro k hk
    unfold biremeref14_Meet.f
    rw [he k hk]
    rfl
  have b5 := hg.two.2.2.2.2
  clear he hg
  cases hf with
  | none _ _ _ _ _ _ _ _ h =>
    exact ⟨0, 0, false, fun k hk => by rw [e k hk, if_pos rfl], fun h => (by cases h), fun _ => ⟨rfl, rfl, h⟩⟩
  | all _ _ _ _ _ _ h0 h1 h =>
    refine ⟨0, 0, true, fun k hk => by rw [e k hk, if_neg (by decide), if_pos rfl], fun _ => ⟨(h 0 0).mpr ⟨by omega, h0, by omega, h1⟩, fun i' j' hp => ?_⟩, fun h => by cases h⟩
    unfold Pair at hp; omega
  | one _ _ _ _ _ _ h0 h1 h2 h =>
    refine ⟨I, 0, true, fun k hk => by rw [e k hk, if_neg (by decide), if_neg (by decide), if_pos rfl], fun _ => ⟨(h I 0).mpr ⟨rfl, by omega, h2⟩, fun i' j' hp => ?_⟩, fun h => by cases h⟩
    have := (h i' j').mp hp
    omega
  | line _ _ _ _ _ _ l1 l2 z2 z3 z4 f0 f1 f2 h =>
    have hp := (h (I + DI * F) (J + DJ * F)).mpr ⟨F, Int.le_refl _, f1, rfl, rfl⟩
    have hF : F.natAbs ≤ 2147483648 := by clear z2 z3 z4 h; omega
    refine ⟨I + DI * F, J + DJ * F, true, fun k hk => ?_, fun _ => ⟨hp, fun i' j' hp' => ?_⟩, fun h => by cases h⟩
    · rw [e k hk, if_neg (by decide), if_neg (by decide), if_neg (by decide), mul_small z2 hF (by decide), mul_small z4 hF (by decide)]
      unfold Pair at hp
      rw [w64n (n := I + DI * F) (by clear z2 z3 z4 h hF; omega), w64n (n := J + DJ * F) (by clear z2 z3 z4 h hF; omega)]
    · obtain ⟨k', k1, k2, hi, hj⟩ := (h i' j').mp hp'
      by_cases hk : k' = F
      · subst hk; exact .inr ⟨hi.symm, by omega⟩
      · have : DI * (F + 1) ≤ DI * k' := Int.mul_le_mul_of_nonneg_left (by omega) (by omega)
        rw [Int.mul_add] at this
        exact .inl (by omega)
theorem refCount_eval {pb ps qb qs n m : Int} (hg : Good pb ps qb qs [n, m]) (hn : 0 ≤ n) (hm : 0 ≤ m) :
    ∃ c, (∀ k, 2147483800 < k → biremeref14_Count.f k pb ps qb qs n m = some c) ∧ CountOf pb ps qb qs n m c := by
  obtain ⟨N, A, O, I, DI, J, DJ, F, T, he, hf⟩ := Of_eval hg hn hm
  have e : ∀ k, 2147483800 < k → biremeref14_Count.f k pb ps qb qs n m = if N = true then some 0 else if A = true then some (wrap64 (n * m)) else if O = true then some m else some (wrap64 (wrap64 (T - F) + 1)) := by
    intro k hk
    unfold biremeref14_Count.f
    rw [he k hk]
    rfl
  have b5 := hg.two.2.2.2.2
  clear he hg
  cases hf with
  | none _ _ _ _ _ _ _ _ h => exact ⟨0, fun k hk => by rw [e k hk, if_pos rfl], count_none h⟩
  | all _ _ _ _ _ _ h0 h1 h =>
    refine ⟨n * m, fun k hk => by rw [e k hk, if_neg (by decide), if_pos rfl, mul_small b5.1 b5.2 (by decide)], count_all hn hm h⟩
  | one _ _ _ _ _ _ h0 h1 h2 h =>
    refine ⟨m, fun k hk => by rw [e k hk, if_neg (by decide), if_neg (by decide), if_pos rfl], ?_⟩
    have := count_line (pb := pb) (ps := ps) (qb := qb) (qs := qs) (n := n) (m := m) (X := I) (DX := 0) (Y := 0) (DY := 1) (f := 0) (t := m - 1) (by omega) (.inr (by decide)) fun i j => by
      rw [h]
      constructor
      · rintro ⟨rfl, h3, h4⟩
        exact ⟨j, h3, by omega, by omega, by omega⟩
      · rintro ⟨k, k1, k2, hi, hj⟩
        exact ⟨by omega, by omega, by omega⟩
    have e : m - 1 - 0 + 1 = m := by omega
    rwa [e] at this
  | line _ _ _ _ _ _ l1 l2 z2 z3 z4 f0 f1 f2 h =>
    refine ⟨T - F + 1, fun k hk => ?_, count_line f1 (.inl (by omega)) h⟩
    rw [e k hk, if_neg (by decide), if_neg (by decide), if_neg (by decide), w64n (n := T - F) (by clear z2 z3 z4 h; omega), w64n (n := T - F + 1) (by clear z2 z3 z4 h; omega)]
theorem step_small {I DI J DJ k n : Int} (z3 : J.natAbs ≤ 8589934592) (hI : I.natAbs ≤ 2147483648) (b : n.natAbs ≤ 2147483648) (h : 0 ≤ I + DI * k ∧ I + DI * k < n ∧ 0 ≤ J + DJ * k ∧ J + DJ * k < n) :
    wrap64 (J - I) = J - I ∧ wrap64 ((DJ - DI) * k) = (DJ - DI) * k ∧ wrap64 (J - I + (DJ - DI) * k) = J - I + (DJ - DI) * k := by
  rw [Int.sub_mul]
  refine ⟨w64n (by omega), w64n (by omega), w64n (by omega)⟩
theorem refAhead_line {pb ps qb qs n least I DI J DJ F T : Int} (hn : n.natAbs ≤ 2147483648) (hl : least.natAbs ≤ 2147483648)
    (l1 : 0 ≤ I) (l2 : I < DI) (z2 : DI.natAbs ≤ 2147483648) (z3 : J.natAbs ≤ 8589934592) (z4 : DJ.natAbs ≤ 2147483648) (_f0 : 0 ≤ F) (f1 : F ≤ T)
    (h : ∀ i j, Pair pb ps qb qs n n i j ↔ ∃ k, F ≤ k ∧ k ≤ T ∧ i = I + DI * k ∧ j = J + DJ * k) :
    ∃ d ok, (∀ k, 0 < k → biremeref14_Ahead.j1 k least (wrap64 (-(wrap64 (n - 1)))) (wrap64 (n - 1)) false false false false I DI J DJ F T n n = some (d, ok)) ∧ AheadOf pb ps qb qs n least d ok := by
  have hI : I.natAbs ≤ 2147483648 := by clear z3 z4 hn hl h; omega
  have sm : ∀ k, F ≤ k → k ≤ T → wrap64 (J - I) = J - I ∧ wrap64 ((DJ - DI) * k) = (DJ - DI) * k ∧ wrap64 (J - I + (DJ - DI) * k) = J - I + (DJ - DI) * k := by
    intro k k1 k2
    have hp := (h _ _).mpr ⟨k, k1, k2, rfl, rfl⟩
    exact step_small z3 hI hn ⟨hp.1, hp.2.1, hp.2.2.1, hp.2.2.2.1⟩
  have u1 : wrap64 (DJ - DI) = DJ - DI := w64n (by clear z3 hn hl h hI; omega)
  have u2 : wrap64 (J - I) = J - I := (sm F (Int.le_refl _) f1).1
  have u3 : (J - I).natAbs ≤ 17179869184 := by clear z2 z4 hn hl h; omega
  have u4 : wrap64 (least - (J - I)) = least - (J - I) := w64n (by clear z2 z3 z4 hn h hI; omega)
  have u5 : wrap64 (J - I - least) = J - I - least := w64n (by clear z2 z3 z4 hn h hI; omega)
  have u6 : wrap64 (-(DJ - DI)) = -(DJ - DI) := w64n (by clear z3 hn hl h hI u3; omega)
  have u7 : (DJ - DI).natAbs ≤ 4294967296 := by clear z3 hn hl h hI u3; omega
  have u8 : (least - (J - I)).natAbs ≤ 1000000000000000000 := by clear z2 z3 z4 hn h hI u7; omega
  have u9 : (J - I - least).natAbs ≤ 1000000000000000000 := by clear z2 z3 z4 hn h hI u7 u8; omega
  have sub : ∀ k, J + DJ * k - (I + DI * k) = J - I + (DJ - DI) * k := fun k => by rw [Int.sub_mul]; omega
  -- the least of those found
  have fin : ∀ k, F ≤ k → k ≤ T → least ≤ J - I + (DJ - DI) * k → (∀ k', F ≤ k' → k' ≤ T → least ≤ J - I + (DJ - DI) * k' → J - I + (DJ - DI) * k ≤ J - I + (DJ - DI) * k') →
      AheadOf pb ps qb qs n least (J - I + (DJ - DI) * k) true := by
    intro k k1 k2 h1 h2
    refine ⟨fun _ => ⟨h1, ⟨I + DI * k, ?_⟩, fun i j hp hlt => ?_⟩, fun h => by cases h⟩
    · rw [h]
      exact ⟨k, k1, k2, rfl, by rw [← sub k]; omega⟩
    · obtain ⟨k', k1', k2', rfl, rfl⟩ := (h i j).mp hp
      rw [sub k'] at hlt ⊢
      exact h2 k' k1' k2' hlt
  have none : (∀ k', F ≤ k' → k' ≤ T → ¬ least ≤ J - I + (DJ - DI) * k') → AheadOf pb ps qb qs n least 0 false := by
    intro h2
    refine ⟨fun h => (by cases h), fun _ => ⟨rfl, fun i j hp hlt => ?_⟩⟩
    obtain ⟨k', k1', k2', rfl, rfl⟩ := (h i j).mp hp
    rw [sub k'] at hlt
    exact h2 k' k1' k2' hlt
  clear z2 z3 z4 hI h hn
  by_cases c1 : DJ - DI > 0
  · have d1 := up_eval (a := least - (J - I)) (m := DJ - DI) c1 (by clear u3 u8 u9; omega) u8
    have cl : ∀ k', -((-(least - (J - I))).fdiv (DJ - DI)) ≤ k' ↔ least ≤ J - I + (DJ - DI) * k' := fun k' => by rw [ceil_le_pos c1]; omega
    have e : ∀ k, 0 < k → biremeref14_Ahead.j1 k least (wrap64 (-(wrap64 (n - 1)))) (wrap64 (n - 1)) false false false false I DI J DJ F T n n =
        if mx F (-((-(least - (J - I))).fdiv (DJ - DI))) < F then some (0, false) else if mx F (-((-(least - (J - I))).fdiv (DJ - DI))) > T then some (0, false) else
        if wrap64 (J - I + wrap64 ((DJ - DI) * mx F (-((-(least - (J - I))).fdiv (DJ - DI))))) < least then some (0, false) else some (wrap64 (J - I + wrap64 ((DJ - DI) * mx F (-((-(least - (J - I))).fdiv (DJ - DI))))), true) := by
      intro k hk
      obtain ⟨k, rfl⟩ : ∃ q, k = q + 1 := ⟨k - 1, by omega⟩
      simp only [biremeref14_Ahead.j1]
      rw [if_neg (by decide), u1, if_pos c1, u2, u4, d1]
      rfl
    generalize hU : -((-(least - (J - I))).fdiv (DJ - DI)) = U at cl e
    have g1 : F ≤ mx F U := (mx_le.mp (Int.le_refl _)).1
    have g2 : U ≤ mx F U := (mx_le.mp (Int.le_refl _)).2
    have g3 : ∀ k', F ≤ k' → U ≤ k' → mx F U ≤ k' := fun k' a b => mx_le.mpr ⟨a, b⟩
    generalize mx F U = K at g1 g2 g3 e
    clear u3 u7 u8 u9
    by_cases c2 : K > T
    · refine ⟨0, false, fun k hk => by rw [e k hk, if_neg (by omega), if_pos c2], none fun k' k1 k2 hlt => ?_⟩
      have := g3 k' k1 ((cl k').mpr hlt)
      omega
    · obtain ⟨_, s2, s3⟩ := sm K g1 (by omega)
      have s4 := (cl K).mp g2
      refine ⟨J - I + (DJ - DI) * K, true, fun k hk => ?_, fin K g1 (by omega) s4 fun k' k1 k2 hlt => ?_⟩
      · rw [e k hk, if_neg (by omega), if_neg c2, s2, s3, if_neg (by omega)]
      · have := Int.mul_le_mul_of_nonneg_left (g3 k' k1 ((cl k').mpr hlt)) (by omega : 0 ≤ DJ - DI)
        omega
  · by_cases c2 : DJ - DI < 0
    · have hp : 0 < -(DJ - DI) := by omega
      have d1 := down_eval (a := J - I - least) (m := -(DJ - DI)) hp (by clear u3 u8 u9; omega) u9
      have cl : ∀ k', k' ≤ (J - I - least).fdiv (-(DJ - DI)) ↔ least ≤ J - I + (DJ - DI) * k' := fun k' => by rw [le_fdiv_pos hp, Int.neg_mul]; omega
      have e : ∀ k, 0 < k → biremeref14_Ahead.j1 k least (wrap64 (-(wrap64 (n - 1)))) (wrap64 (n - 1)) false false false false I DI J DJ F T n n =
          if mn T ((J - I - least).fdiv (-(DJ - DI))) < F then some (0, false) else if mn T ((J - I - least).fdiv (-(DJ - DI))) > T then some (0, false) else
          if wrap64 (J - I + wrap64 ((DJ - DI) * mn T ((J - I - least).fdiv (-(DJ - DI))))) < least then some (0, false) else some (wrap64 (J - I + wrap64 ((DJ - DI) * mn T ((J - I - least).fdiv (-(DJ - DI))))), true) := by
        intro k hk
        obtain ⟨k, rfl⟩ : ∃ q, k = q + 1 := ⟨k - 1, by omega⟩
        simp only [biremeref14_Ahead.j1]
        rw [if_neg (by decide), u1, if_neg c1, if_pos c2, u2, u5, u6, d1]
        rfl
      generalize hU : (J - I - least).fdiv (-(DJ - DI)) = U at cl e
      have g1 : mn T U ≤ T := (le_mn.mp (Int.le_refl _)).1
      have g2 : mn T U ≤ U := (le_mn.mp (Int.le_refl _)).2
      have g3 : ∀ k', k' ≤ T → k' ≤ U → k' ≤ mn T U := fun k' a b => le_mn.mpr ⟨a, b⟩
      generalize mn T U = K at g1 g2 g3 e
      clear u3 u7 u8 u9
      by_cases c3 : K < F
      · refine ⟨0, false, fun k hk => by rw [e k hk, if_pos c3], none fun k' k1 k2 hlt => ?_⟩
        have := g3 k' k2 ((cl k').mpr hlt)
        omega
      · obtain ⟨_, s2, s3⟩ := sm K (by omega) g1
        have s4 := (cl K).mp g2
        refine ⟨J - I + (DJ - DI) * K, true, fun k hk => ?_, fin K (by omega) g1 s4 fun k' k1 k2 hlt => ?_⟩
        · rw [e k hk, if_neg c3, if_neg (by omega), s2, s3, if_neg (by omega)]
        · have := Int.mul_le_mul_of_nonpos_left (a := DJ - DI) (by omega) (g3 k' k2 ((cl k').mpr hlt))
          omega
    · have hz : DJ - DI = 0 := by omega
      have e : ∀ k, 0 < k → biremeref14_Ahead.j1 k least (wrap64 (-(wrap64 (n - 1)))) (wrap64 (n - 1)) false false false false I DI J DJ F T n n =
          if J - I < least then some (0, false) else some (J - I, true) := by
        intro k hk
        obtain ⟨k, rfl⟩ : ∃ q, k = q + 1 := ⟨k - 1, by omega⟩
        simp only [biremeref14_Ahead.j1]
        rw [if_neg (by decide), u1, if_neg c1, if_neg c2, if_neg (by omega), if_neg (by omega), u2, hz, Int.zero_mul, w64n (n := 0) (by decide), Int.add_zero, u2]
      clear u3 u7 u8 u9
      rw [hz] at fin none
      by_cases c3 : J - I < least
      · exact ⟨0, false, fun k hk => by rw [e k hk, if_pos c3], none fun k' _ _ hlt => by rw [Int.zero_mul] at hlt; omega⟩
      · have := fin F (Int.le_refl _) f1 (by rw [Int.zero_mul]; omega) fun k' _ _ _ => by rw [Int.zero_mul, Int.zero_mul]; omega
        rw [Int.zero_mul, Int.add_zero] at this
        exact ⟨J - I, true, fun k hk => by rw [e k hk, if_neg c3], this⟩
theorem refAhead_eval {pb ps qb qs n least : Int} (hg : Good pb ps qb qs [n, least]) (hn : 0 ≤ n) :
    ∃ d ok, (∀ k, 2147483800 < k → biremeref14_Ahead.f k pb ps qb qs n least = some (d, ok)) ∧ AheadOf pb ps qb qs n least d ok := by
  obtain ⟨N, A, O, I, DI, J, DJ, F, T, he, hf⟩ := Of_eval hg.nn hn hn
  have e : ∀ k, 2147483800 < k → biremeref14_Ahead.f k pb ps qb qs n least = if O = true then biremeref14_Ahead.j0 k least (wrap64 (-I)) (wrap64 ((wrap64 (n - 1)) - I)) N A O I DI J DJ F T n n else biremeref14_Ahead.j0 k least (wrap64 (-(wrap64 (n - 1)))) (wrap64 (n - 1)) N A O I DI J DJ F T n n := by
    intro k hk
    unfold biremeref14_Ahead.f
    rw [he k hk]
    rfl
  obtain ⟨b5, b6⟩ := hg.two.2.2.2.2
  clear he hg
  have w1 : wrap64 (n - 1) = n - 1 := w64n (by clear b6; omega)
  have w2 : wrap64 (-(n - 1)) = -(n - 1) := w64n (by clear b6; omega)
  cases hf with
  | none _ _ _ _ _ _ _ _ h =>
    refine ⟨0, false, fun k hk => ?_, fun h => (by cases h), fun _ => ⟨rfl, fun i j hp => absurd hp (h i j)⟩⟩
    rw [e k hk]
    obtain ⟨k, rfl⟩ : ∃ q, k = q + 1 := ⟨k - 1, by omega⟩
    simp only [biremeref14_Ahead.j0]
    cases O <;> rfl
  | all _ _ _ _ _ _ h0 h1 h =>
    have e2 : ∀ k, 2147483800 < k → biremeref14_Ahead.f k pb ps qb qs n least = if mx (-(n - 1)) least > n - 1 then some (0, false) else some (mx (-(n - 1)) least, true) := by
      intro k hk
      rw [e k hk, if_neg (by decide), w1, w2]
      obtain ⟨k, rfl⟩ : ∃ q, k = q + 2 := ⟨k - 2, by omega⟩
      simp only [biremeref14_Ahead.j0, biremeref14_Ahead.j1]
      rw [if_neg (by decide), if_pos trivial, if_pos trivial]
    have g1 : -(n - 1) ≤ mx (-(n - 1)) least := (mx_le.mp (Int.le_refl _)).1
    have g2 : least ≤ mx (-(n - 1)) least := (mx_le.mp (Int.le_refl _)).2
    have g3 : ∀ k', -(n - 1) ≤ k' → least ≤ k' → mx (-(n - 1)) least ≤ k' := fun k' a b => mx_le.mpr ⟨a, b⟩
    generalize mx (-(n - 1)) least = K at g1 g2 g3 e2
    clear b5 b6
    by_cases c : K > n - 1
    · refine ⟨0, false, fun k hk => by rw [e2 k hk, if_pos c], fun h => (by cases h), fun _ => ⟨rfl, fun i j hp hlt => ?_⟩⟩
      have := (h i j).mp hp
      have := g3 (j - i) (by omega) hlt
      omega
    · refine ⟨K, true, fun k hk => by rw [e2 k hk, if_neg c], fun _ => ⟨g2, ?_, fun i j hp hlt => ?_⟩, fun h => by cases h⟩
      · by_cases hK : 0 ≤ K
        · exact ⟨0, (h _ _).mpr (by omega)⟩
        · exact ⟨-K, (h _ _).mpr (by omega)⟩
      · have := (h i j).mp hp
        exact g3 (j - i) (by omega) hlt
  | one _ _ _ _ _ _ h0 h1 h2 h =>
    have v1 : wrap64 (-I) = -I := w64n (by clear b6; omega)
    have v2 : wrap64 (n - 1 - I) = n - 1 - I := w64n (by clear b6; omega)
    have e2 : ∀ k, 2147483800 < k → biremeref14_Ahead.f k pb ps qb qs n least = if mx (-I) least > n - 1 - I then some (0, false) else some (mx (-I) least, true) := by
      intro k hk
      rw [e k hk, if_pos rfl, w1, v1, v2]
      obtain ⟨k, rfl⟩ : ∃ q, k = q + 2 := ⟨k - 2, by omega⟩
      simp only [biremeref14_Ahead.j0, biremeref14_Ahead.j1]
      rw [if_neg (by decide), if_neg (by decide), if_pos trivial]
    have g1 : -I ≤ mx (-I) least := (mx_le.mp (Int.le_refl _)).1
    have g2 : least ≤ mx (-I) least := (mx_le.mp (Int.le_refl _)).2
    have g3 : ∀ k', -I ≤ k' → least ≤ k' → mx (-I) least ≤ k' := fun k' a b => mx_le.mpr ⟨a, b⟩
    generalize mx (-I) least = K at g1 g2 g3 e2
    clear b5 b6
    by_cases c : K > n - 1 - I
    · refine ⟨0, false, fun k hk => by rw [e2 k hk, if_pos c], fun h => (by cases h), fun _ => ⟨rfl, fun i j hp hlt => ?_⟩⟩
      have := (h i j).mp hp
      have := g3 (j - i) (by omega) hlt
      omega
    · refine ⟨K, true, fun k hk => by rw [e2 k hk, if_neg c], fun _ => ⟨g2, ⟨I, (h _ _).mpr (by omega)⟩, fun i j hp hlt => ?_⟩, fun h => by cases h⟩
      have := (h i j).mp hp
      exact g3 (j - i) (by omega) hlt
  | line _ _ _ _ _ _ l1 l2 z2 z3 z4 f0 f1 f2 h =>
    obtain ⟨d, ok, e3, hA⟩ := refAhead_line b5 b6 l1 l2 z2 z3 z4 f0 f1 h
    refine ⟨d, ok, fun k hk => ?_, hA⟩
    rw [e k hk, if_neg (by decide)]
    obtain ⟨k, rfl⟩ : ∃ q, k = q + 1 := ⟨k - 1, by omega⟩
    simp only [biremeref14_Ahead.j0]
    rw [if_neg (by decide), if_neg (by decide)]
    exact e3 k (by omega)
theorem refBehind_eval {pb ps qb qs n : Int} (hg : Good pb ps qb qs [n, n]) (hn : 0 ≤ n) :
    ∃ d ok, (∀ k, 2147483800 < k → biremeref14_Behind.f k pb ps qb qs n = some (d, ok)) ∧ BehindOf pb ps qb qs n d ok := by
  obtain ⟨N, A, O, I, DI, J, DJ, F, T, he, hf⟩ := Of_eval hg hn hn
  have e : ∀ k, 2147483800 < k → biremeref14_Behind.f k pb ps qb qs n = if N = true then some (0, false) else if A = true then some (wrap64 (n - 1), true) else if O = true then some (wrap64 ((wrap64 (n - 1)) - I), true) else
      if wrap64 (DJ - DI) > 0 then some (wrap64 ((wrap64 (J - I)) + (wrap64 ((wrap64 (DJ - DI)) * T))), true) else some (wrap64 ((wrap64 (J - I)) + (wrap64 ((wrap64 (DJ - DI)) * F))), true) := by
    intro k hk
    unfold biremeref14_Behind.f
    rw [he k hk]
    rfl
  obtain ⟨b5, _⟩ := hg.two.2.2.2.2
  clear he hg
  have w1 : wrap64 (n - 1) = n - 1 := w64n (by omega)
  cases hf with
  | none _ _ _ _ _ _ _ _ h =>
    exact ⟨0, false, fun k hk => by rw [e k hk, if_pos rfl], fun h => (by cases h), fun _ => ⟨rfl, h⟩⟩
  | all _ _ _ _ _ _ h0 h1 h =>
    refine ⟨n - 1, true, fun k hk => by rw [e k hk, if_neg (by decide), if_pos rfl, w1], fun _ => ⟨⟨0, (h _ _).mpr (by omega)⟩, fun i j hp => ?_⟩, fun h => by cases h⟩
    have := (h i j).mp hp
    omega
  | one _ _ _ _ _ _ h0 h1 h2 h =>
    refine ⟨n - 1 - I, true, fun k hk => by rw [e k hk, if_neg (by decide), if_neg (by decide), if_pos rfl, w1, w64n (n := n - 1 - I) (by omega)], fun _ => ⟨⟨I, (h _ _).mpr (by omega)⟩, fun i j hp => ?_⟩, fun h => by cases h⟩
    have := (h i j).mp hp
    omega
  | line _ _ _ _ _ _ l1 l2 z2 z3 z4 f0 f1 f2 h =>
    have hI : I.natAbs ≤ 2147483648 := by clear z3 z4 b5 h; omega
    have sm : ∀ k, F ≤ k → k ≤ T → wrap64 (J - I) = J - I ∧ wrap64 ((DJ - DI) * k) = (DJ - DI) * k ∧ wrap64 (J - I + (DJ - DI) * k) = J - I + (DJ - DI) * k := by
      intro k k1 k2
      have hp := (h _ _).mpr ⟨k, k1, k2, rfl, rfl⟩
      exact step_small z3 hI b5 ⟨hp.1, hp.2.1, hp.2.2.1, hp.2.2.2.1⟩
    have u1 : wrap64 (DJ - DI) = DJ - DI := w64n (by clear z3 b5 h hI; omega)
    have sub : ∀ k, J + DJ * k - (I + DI * k) = J - I + (DJ - DI) * k := fun k => by rw [Int.sub_mul]; omega
    clear z2 z3 z4 hI b5
    have fin : ∀ k, F ≤ k → k ≤ T → (∀ k', F ≤ k' → k' ≤ T → (DJ - DI) * k' ≤ (DJ - DI) * k) → BehindOf pb ps qb qs n (J - I + (DJ - DI) * k) true := by
      intro k k1 k2 h2
      refine ⟨fun _ => ⟨⟨I + DI * k, ?_⟩, fun i j hp => ?_⟩, fun h => by cases h⟩
      · rw [h]
        exact ⟨k, k1, k2, rfl, by rw [← sub k]; omega⟩
      · obtain ⟨k', k1', k2', rfl, rfl⟩ := (h i j).mp hp
        rw [sub k']
        have := h2 k' k1' k2'
        omega
    by_cases c : DJ - DI > 0
    · obtain ⟨s1, s2, s3⟩ := sm T f1 (Int.le_refl _)
      exact ⟨_, true, fun k hk => by rw [e k hk, if_neg (by decide), if_neg (by decide), if_neg (by decide), u1, if_pos c, s1, s2, s3], fin T f1 (Int.le_refl _) fun k' _ k2 => Int.mul_le_mul_of_nonneg_left k2 (by omega)⟩
    · obtain ⟨s1, s2, s3⟩ := sm F (Int.le_refl _) f1
      exact ⟨_, true, fun k hk => by rw [e k hk, if_neg (by decide), if_neg (by decide), if_neg (by decide), u1, if_neg c, s1, s2, s3], fin F (Int.le_refl _) f1 fun k' k1 _ => Int.mul_le_mul_of_nonpos_left (by omega) k1⟩
theorem Line_eval {a b : Int} {k : Nat} (hk : 1001 < k) : biremeref14_Line.f k a b = some ([a, b].all inb) := by
  unfold biremeref14_Line.f
  rw [Within_eval (by simp) hk]
  rfl
theorem Meets_bad {pb ps qb qs n m e : Int} (he : e ≠ 0) {k : Nat} (hk : 2147483900 < k) : biremelaw14_AffineMeets.j1 k 0 0 false e 0 e e pb ps qb qs n m = some true := by
  obtain ⟨k, rfl⟩ : ∃ q, k = q + 1 := ⟨k - 1, by omega⟩
  simp only [biremelaw14_AffineMeets.j1]
  rw [if_neg he, if_pos trivial, if_pos trivial, if_neg (by decide), if_pos trivial, if_pos trivial, if_pos trivial, alive_eval (by omega)]
  rfl
theorem Meets_start (pb ps qb qs n m i j : Int) (ok : Bool) (e c f : Int) {k : Nat} (hk : 2147483900 < k) (h1 : affine_Meet.f k pb ps qb qs n m = some (i, j, ok, e)) (h2 : affine_Count.f k pb ps qb qs n m = some (c, f)) :
    biremelaw14_AffineMeets.f k pb ps qb qs n m = biremelaw14_AffineMeets.j0 k i j ok e c f 0 (!decide (Good pb ps qb qs [n, m])) pb ps qb qs n m := by
  unfold biremelaw14_AffineMeets.f
  rw [h1, h2, Line_eval (by omega), Line_eval (by omega), Within_eval (by simp) (by omega)]
  simp only [Option.bind_some]
  have hd : decide (Good pb ps qb qs [n, m]) = ([pb, ps].all inb && [qb, qs].all inb && [n, m].all inb) := by
    rw [Bool.eq_iff_iff]; simp [Good, and_assoc]
  rw [hd]
  cases [pb, ps].all inb <;> cases [qb, qs].all inb <;> cases [n, m].all inb <;> rfl
theorem Meets_pure (pb ps qb qs n m : Int) {k : Nat} (hk : 2147500000 < k) : biremelaw14_AffineMeets.f k pb ps qb qs n m = some true := by
  obtain ⟨q, rfl⟩ : ∃ q, k = q + 1 := ⟨k - 1, by omega⟩
  by_cases hg : Good pb ps qb qs [n, m]
  · by_cases hnm : n < 0 ∨ m < 0
    · rw [Meets_start _ _ _ _ _ _ _ _ _ _ _ _ (by omega) (Meet_arg hg hnm (by omega)) (Count_arg hg hnm (by omega)), decide_eq_true hg]
      simp only [biremelaw14_AffineMeets.j0]
      rw [if_neg (by decide)]
      by_cases h : n < 0
      · rw [if_pos h]; exact Meets_bad (by decide) (by omega)
      · rw [if_neg h, if_pos (by omega)]; exact Meets_bad (by decide) (by omega)
    · obtain ⟨hn, hm⟩ : 0 ≤ n ∧ 0 ≤ m := by omega
      obtain ⟨i, j, ok, e1, s1⟩ := Meet_eval hg hn hm
      obtain ⟨c, e2, s2⟩ := Count_eval hg hn hm
      obtain ⟨i', j', ok', e3, s3⟩ := refMeet_eval hg hn hm
      obtain ⟨c', e4, s4⟩ := refCount_eval hg hn hm
      obtain ⟨rfl, rfl, rfl⟩ := s1.unique s3
      obtain rfl := s2.unique s4
      rw [Meets_start _ _ _ _ _ _ _ _ _ _ _ _ (by omega) (e1 _ (by omega)) (e2 _ (by omega)), decide_eq_true hg]
      simp only [biremelaw14_AffineMeets.j0]
      rw [if_neg (by decide), if_neg (by omega), if_neg (by omega)]
      obtain ⟨q, rfl⟩ : ∃ p, q = p + 1 := ⟨q - 1, by omega⟩
      simp only [biremelaw14_AffineMeets.j1]
      rw [if_pos trivial, e3 _ (by omega), e4 _ (by omega)]
      simp only [Option.bind_some, if_true, beq_self_eq_true]
      rw [alive_eval (by omega)]
      rfl
  · rw [Meets_start _ _ _ _ _ _ _ _ _ _ _ _ (by omega) (Meet_limit hg (by omega)) (Count_limit hg (by omega)), decide_eq_false hg]
    simp only [biremelaw14_AffineMeets.j0]
    rw [if_pos (by decide)]
    exact Meets_bad (by decide) (by omega)
theorem Good.nn_of {pb ps qb qs n : Int} (h : Good pb ps qb qs [n]) : Good pb ps qb qs [n, n] := by
  simp [Good, inb] at h ⊢; omega
/-- The second half of the law of Ahead and Behind. -/
theorem Aheads_behind {pb ps qb qs n m : Int} (hn : -9223372036854775808 ≤ n ∧ n ≤ 9223372036854775807) {k : Nat} (hk : 2147483900 < k) :
    ∃ d ok e, (∀ k, 2147483800 < k → affine_Behind.f k pb ps qb qs n = some (d, ok, e)) ∧ biremelaw14_AffineAheads.j2 k d ok e (decide (Good pb ps qb qs [n])) pb ps qb qs n m = some true := by
  obtain ⟨k, rfl⟩ : ∃ q, k = q + 1 := ⟨k - 1, by omega⟩
  by_cases hg : Good pb ps qb qs [n]
  · by_cases h : n < 0
    · refine ⟨0, false, 2, fun k hk => Behind_arg hg h hk, ?_⟩
      simp only [biremelaw14_AffineAheads.j2]
      rw [decide_eq_true hg, if_pos rfl, if_pos h, if_pos trivial, if_neg (by decide), if_pos trivial, alive_eval (by omega)]
      rfl
    · obtain ⟨d, ok, e1, s1⟩ := Behind_eval hg (by omega)
      obtain ⟨d', ok', e2, s2⟩ := refBehind_eval hg.nn_of (by omega)
      obtain ⟨rfl, rfl⟩ := s1.unique s2
      refine ⟨d, ok, 0, e1, ?_⟩
      simp only [biremelaw14_AffineAheads.j2]
      rw [decide_eq_true hg, if_pos rfl, if_neg h, e2 _ (by omega)]
      simp only [Option.bind_some, if_true, beq_self_eq_true]
      rw [alive_eval (by omega)]
      rfl
  · refine ⟨0, false, 3, fun k hk => Behind_limit hg hn hk, ?_⟩
    simp only [biremelaw14_AffineAheads.j2]
    rw [decide_eq_false hg, if_neg (by decide), if_pos trivial, if_neg (by decide), if_pos trivial, alive_eval (by omega)]
    rfl
theorem Aheads_start (pb ps qb qs n m l : Int) (d : Int) (ok : Bool) (e : Int) (d' : Int) (ok' : Bool) (e' : Int) {k : Nat} (hk : 2147483900 < k) (h1 : affine_Ahead.f (k + 1) pb ps qb qs n l = some (d, ok, e)) (h2 : affine_Behind.f (k + 1) pb ps qb qs n = some (d', ok', e')) :
    biremelaw14_AffineAheads.f (k + 1) pb ps qb qs n m l = biremelaw14_AffineAheads.j1 k l d ok e d' ok' e' (decide (Good pb ps qb qs [n])) (!decide (Good pb ps qb qs [n, l])) pb ps qb qs n m := by
  unfold biremelaw14_AffineAheads.f
  rw [h1, h2, Line_eval (by omega), Line_eval (by omega), Within_eval (by simp) (by omega)]
  simp only [Option.bind_some, biremelaw14_AffineAheads.j0]
  rw [Within_eval (by simp) (by omega)]
  simp only [Option.bind_some]
  have hd : decide (Good pb ps qb qs [n]) = ([pb, ps].all inb && [qb, qs].all inb && [n].all inb) := by
    rw [Bool.eq_iff_iff]; simp [Good, and_assoc]
  have hd' : decide (Good pb ps qb qs [n, l]) = ([pb, ps].all inb && [qb, qs].all inb && [n].all inb && [l].all inb) := by
    rw [Bool.eq_iff_iff]; simp [Good, and_assoc]
  rw [hd, hd']
  cases [pb, ps].all inb <;> cases [qb, qs].all inb <;> cases [n].all inb <;> cases [l].all inb <;> rfl
theorem Aheads_pure (pb ps qb qs n m l : Int) (hn : -9223372036854775808 ≤ n ∧ n ≤ 9223372036854775807) {k : Nat} (hk : 2147500000 < k) : biremelaw14_AffineAheads.f k pb ps qb qs n m l = some true := by
  obtain ⟨k, rfl⟩ : ∃ q, k = q + 2 := ⟨k - 2, by omega⟩
  obtain ⟨d', ok', e', h2, hB⟩ := Aheads_behind (pb := pb) (ps := ps) (qb := qb) (qs := qs) (m := m) hn (k := k) (by omega)
  by_cases hg : Good pb ps qb qs [n, l]
  · by_cases h : n < 0
    · rw [Aheads_start _ _ _ _ _ _ _ _ _ _ _ _ _ (by omega) (Ahead_arg hg h (by omega)) (h2 _ (by omega)), decide_eq_true hg]
      simp only [biremelaw14_AffineAheads.j1]
      rw [if_neg (by decide), if_pos h, if_pos trivial, if_neg (by decide), if_pos trivial]
      exact hB
    · obtain ⟨d, ok, e1, s1⟩ := Ahead_eval hg (by omega)
      obtain ⟨d2, ok2, e2, s2⟩ := refAhead_eval hg (by omega)
      obtain ⟨rfl, rfl⟩ := s1.unique s2
      rw [Aheads_start _ _ _ _ _ _ _ _ _ _ _ _ _ (by omega) (e1 _ (by omega)) (h2 _ (by omega)), decide_eq_true hg]
      simp only [biremelaw14_AffineAheads.j1]
      rw [if_neg (by decide), if_neg h, e2 _ (by omega)]
      simp only [Option.bind_some, if_true]
      rw [if_neg (by simp)]
      exact hB
  · rw [Aheads_start _ _ _ _ _ _ _ _ _ _ _ _ _ (by omega) (Ahead_limit hg (by omega)) (h2 _ (by omega)), decide_eq_false hg]
    simp only [biremelaw14_AffineAheads.j1]
    rw [if_pos (by decide), if_pos trivial, if_neg (by decide), if_pos trivial]
    exact hB

end Go.Proofs.Ytiedehjmhlgicaa.PAll.Aff
