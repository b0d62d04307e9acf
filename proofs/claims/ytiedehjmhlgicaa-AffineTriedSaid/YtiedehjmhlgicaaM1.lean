/- The plain mathematics of two lines, first part: division, Bezout's numbers, the general solution, the meeting of two lines. -/
import Derived.Test.YtiedehjmhlgicaaQ
set_option maxHeartbeats 2000000
set_option linter.unusedVariables false
set_option linter.unusedSimpArgs false
namespace Go.Proofs.Ytiedehjmhlgicaa.PAll.Aff
open Go.RowKit Go.Proofs.YtiedehjmhlgicaaW.PrintWords Go.Proofs.YtiedehjmhlgicaaW.PrintLast Go.Proofs.YtiedehjmhlgicaaW.PrintMore

/-- g is the greatest common divisor of a and b, made by x and y. -/
structure Bez (a b g x y : Int) : Prop where
  pos : 0 ≤ g
  left : g ∣ a
  right : g ∣ b
  made : a * x + b * y = g

theorem Bez.unique {a b g x y g' x' y' : Int} (h : Bez a b g x y) (h' : Bez a b g' x' y') : g = g' := by
  have h1 : g ∣ g' := by rw [← h'.made]; exact Int.dvd_add (Int.dvd_mul_of_dvd_left h.left) (Int.dvd_mul_of_dvd_left h.right)
  have h2 : g' ∣ g := by rw [← h.made]; exact Int.dvd_add (Int.dvd_mul_of_dvd_left h'.left) (Int.dvd_mul_of_dvd_left h'.right)
  exact Int.dvd_antisymm h.pos h'.pos h1 h2

theorem Bez.g_pos {a b g x y : Int} (h : Bez a b g x y) (hab : a ≠ 0 ∨ b ≠ 0) : 0 < g := by
  have := h.pos
  rcases Int.lt_or_eq_of_le this with h1 | h1
  · exact h1
  · exfalso
    have ha := h.left; have hb := h.right
    rw [← h1, Int.zero_dvd] at ha hb
    omega

theorem Bez.swap {a b g x y : Int} (h : Bez a b g x y) : Bez b a g y x := ⟨h.pos, h.right, h.left, by rw [Int.add_comm]; exact h.made⟩

/-- b divides g d where a d = b e. -/
theorem Bez.dvd_of {a b g x y d e : Int} (h : Bez a b g x y) (hd : a * d = b * e) : b ∣ g * d := by
  refine ⟨x * e + y * d, ?_⟩
  have := h.made
  grind

theorem dvd_le {a b : Int} (h : a ∣ b) (hb : b ≠ 0) : a.natAbs ≤ b.natAbs := by
  exact Nat.le_of_dvd (by omega) (Int.natAbs_dvd_natAbs.mpr h)

/-- of the x with a x + b y = c just one is from 0 to below |b| / g. -/
theorem Bez.only {a b g x y m u v u' v' c : Int} (h : Bez a b g x y) (hb : b ≠ 0) (hm : g * m = b ∨ g * m = -b) (hu0 : 0 ≤ u) (hu : u < m) (hu0' : 0 ≤ u') (hu' : u' < m)
    (e : a * u + b * v = c) (e' : a * u' + b * v' = c) : u = u' ∧ v = v' := by
  have hg := h.g_pos (.inr hb)
  have h1 : b ∣ g * (u - u') := h.dvd_of (d := u - u') (e := v' - v) (by grind)
  have h2 : m ∣ (u - u') := by
    have : g * m ∣ g * (u - u') := by
      rcases hm with hm | hm
      · rw [hm]; exact h1
      · rw [hm]; exact Int.neg_dvd.mpr h1
    exact Int.dvd_of_mul_dvd_mul_left (by omega) this
  have h3 : u - u' = 0 := by
    apply Classical.byContradiction
    intro hne
    have := dvd_le h2 hne
    omega
  have h4 : u = u' := by omega
  subst h4
  refine ⟨rfl, ?_⟩
  have : b * v = b * v' := by omega
  exact Int.eq_of_mul_eq_mul_left hb this


/-! ### floor, rest -/
theorem fdiv_spec (a b : Int) : b * a.fdiv b + a.fmod b = a := Int.mul_fdiv_add_fmod a b
theorem fmod_pos {a b : Int} (h : 0 < b) : 0 ≤ a.fmod b ∧ a.fmod b < b := ⟨Int.fmod_nonneg_of_pos a h, Int.fmod_lt_of_pos a h⟩
theorem fmod_neg {a b : Int} (h : b < 0) : b < a.fmod b ∧ a.fmod b ≤ 0 := by
  have := @fmod_pos (-a) (-b) (by omega)
  rw [Int.neg_fmod_neg] at this
  omega
theorem fmod_abs {a b : Int} (h : b ≠ 0) : (a.fmod b).natAbs < b.natAbs := by
  rcases Int.lt_or_gt_of_ne h with h | h
  · have := @fmod_neg a b h; omega
  · have := @fmod_pos a b h; omega
theorem abs_mul_le {a b A : Int} (h : a.natAbs ≤ A.natAbs) : (a * b).natAbs ≤ (A * b).natAbs := by
  rw [Int.natAbs_mul, Int.natAbs_mul]; exact Nat.mul_le_mul_right _ h
theorem fdiv_abs {a b : Int} (h : b ≠ 0) : (a.fdiv b).natAbs ≤ a.natAbs := by
  have h1 := fdiv_spec a b
  rcases Int.lt_or_gt_of_ne h with h | h
  · have h2 := @fmod_neg a b h
    rcases Int.lt_trichotomy (a.fdiv b) 0 with h3 | h3 | h3
    · have : 1 * (-(a.fdiv b)) ≤ (-b) * (-(a.fdiv b)) := Int.mul_le_mul_of_nonneg_right (by omega) (by omega)
      rw [Int.neg_mul_neg] at this
      have h4 : b * 1 ≥ b * 1 := Int.le_refl _
      by_cases h5 : a.fdiv b = -1
      · rw [h5] at h1 ⊢; omega
      · have : 1 * (-(a.fdiv b) - 1) ≤ (-b) * (-(a.fdiv b) - 1) := Int.mul_le_mul_of_nonneg_right (by omega) (by omega)
        have h6 : (-b) * (-(a.fdiv b) - 1) = b * a.fdiv b + b := by grind
        omega
    · omega
    · have : 1 * (a.fdiv b) ≤ (-b) * (a.fdiv b) := Int.mul_le_mul_of_nonneg_right (by omega) (by omega)
      have h6 : (-b) * (a.fdiv b) = -(b * a.fdiv b) := by grind
      omega
  · have h2 := @fmod_pos a b h
    rcases Int.lt_trichotomy (a.fdiv b) 0 with h3 | h3 | h3
    · by_cases h5 : a.fdiv b = -1
      · rw [h5] at h1 ⊢; omega
      · have : 1 * (-(a.fdiv b) - 1) ≤ b * (-(a.fdiv b) - 1) := Int.mul_le_mul_of_nonneg_right (by omega) (by omega)
        have h6 : b * (-(a.fdiv b) - 1) = -(b * a.fdiv b) - b := by grind
        omega
    · omega
    · have : 1 * (a.fdiv b) ≤ b * (a.fdiv b) := Int.mul_le_mul_of_nonneg_right (by omega) (by omega)
      omega
/-- q is a.fdiv b. -/
theorem fdiv_of {a b q : Int} (hb : b ≠ 0) (h : b * q ≤ a ∧ a < b * q + b ∨ b * q + b < a ∧ a ≤ b * q) : a.fdiv b = q := by
  have h1 := fdiv_spec a b
  have h3 : b * (a.fdiv b - q) = a - b * q - a.fmod b := by grind
  apply Classical.byContradiction
  intro hne
  have h4 : 1 ≤ (a.fdiv b - q).natAbs := by omega
  have h5 : b.natAbs * 1 ≤ b.natAbs * (a.fdiv b - q).natAbs := Nat.mul_le_mul_left _ h4
  rw [← Int.natAbs_mul, h3] at h5
  rcases Int.lt_or_gt_of_ne hb with hb | hb
  · have h2 := @fmod_neg a b hb; omega
  · have h2 := @fmod_pos a b hb; omega

/-! ### the greatest common divisor, step by step -/
theorem bez_zero (a : Int) : Bez a 0 a.natAbs (if a < 0 then -1 else if a > 0 then 1 else 0) 0 := by
  refine ⟨by omega, Int.natAbs_dvd.mpr (Int.dvd_refl a), Int.dvd_zero _, ?_⟩
  split
  · omega
  · split <;> omega
theorem bez_step {a b g x y : Int} (h : Bez b (a.fmod b) g x y) : Bez a b g y (x - a.fdiv b * y) := by
  have h1 := fdiv_spec a b
  refine ⟨h.pos, ?_, h.left, ?_⟩
  · rw [← h1]; exact Int.dvd_add (Int.dvd_mul_of_dvd_left h.left) h.right
  · have h2 := h.made
    grind
/-- y of the step is not large. -/
theorem bez_bound {a b g x y : Int} (h : Bez a b g x y) (hb : b ≠ 0) (hx : x.natAbs < b.natAbs) : y.natAbs ≤ a.natAbs + 1 := by
  have h1 := h.made
  have h2 : b * y = g - a * x := by omega
  have h3 : g.natAbs ≤ b.natAbs := dvd_le h.right hb
  have h4 : b.natAbs * y.natAbs ≤ g.natAbs + a.natAbs * x.natAbs := by
    rw [← Int.natAbs_mul, ← Int.natAbs_mul, h2]; omega
  have h5 : a.natAbs * x.natAbs ≤ a.natAbs * b.natAbs := Nat.mul_le_mul_left _ (by omega)
  have h6 : b.natAbs * y.natAbs ≤ b.natAbs * (a.natAbs + 1) := by
    rw [Nat.mul_add, Nat.mul_one, Nat.mul_comm b.natAbs a.natAbs]; omega
  exact Nat.le_of_mul_le_mul_left h6 (by omega)
/-- .. and stays strictly below. -/
theorem bez_strict {b r g x y : Int} (h : Bez b r g x y) (hr : r ≠ 0) (hrb : r.natAbs < b.natAbs) (hx : x.natAbs < r.natAbs) : y.natAbs < b.natAbs := by
  have h1 := h.made
  have h2 : r * y = g - b * x := by omega
  have h3 : g.natAbs ≤ r.natAbs := dvd_le h.right hr
  have h4 : r.natAbs * y.natAbs ≤ g.natAbs + b.natAbs * x.natAbs := by
    rw [← Int.natAbs_mul, ← Int.natAbs_mul, h2]; omega
  have h5 : b.natAbs * x.natAbs ≤ b.natAbs * (r.natAbs - 1) := Nat.mul_le_mul_left _ (by omega)
  have h6 : b.natAbs * (r.natAbs - 1) + b.natAbs = b.natAbs * r.natAbs := by
    rw [← Nat.mul_succ]; congr 1; omega
  have h7 : r.natAbs * y.natAbs < r.natAbs * b.natAbs := by rw [Nat.mul_comm r.natAbs b.natAbs]; omega
  exact Nat.lt_of_mul_lt_mul_left h7

theorem w64 {n : Int} (h : -9223372036854775808 ≤ n ∧ n ≤ 9223372036854775807) : wrap64 n = n := by
  unfold wrap64; omega
theorem tdiv_spec (a b : Int) : b * a.tdiv b + a.tmod b = a := Int.mul_tdiv_add_tmod a b
theorem tmod_spec {a b : Int} (hb : b ≠ 0) : (a.tmod b).natAbs < b.natAbs ∧ (0 ≤ a → 0 ≤ a.tmod b) ∧ (a ≤ 0 → a.tmod b ≤ 0) := by
  refine ⟨?_, fun h => Int.tmod_nonneg _ h, fun h => ?_⟩
  · rw [Int.natAbs_tmod]; exact Nat.mod_lt _ (by omega)
  · have := Int.tmod_nonneg b (a := -a) (by omega)
    rw [Int.neg_tmod] at this; omega
theorem tdiv_abs (a b : Int) : (a.tdiv b).natAbs ≤ a.natAbs := by
  rw [Int.natAbs_tdiv]; exact Nat.div_le_self _ _
theorem floor_eval {a b : Int} (hb : b ≠ 0) (ha : a.natAbs ≤ 9000000000000000000) : affine_floor.f a b = some (a.fdiv b) := by
  have h1 := tdiv_spec a b
  have h2 := tmod_spec (a := a) hb
  have h3 := tdiv_abs a b
  unfold affine_floor.f
  rw [if_neg hb, w64 (n := a.tdiv b) (by omega), w64 (n := a.tdiv b - 1) (by omega)]
  have hm : b * (a.tdiv b - 1) = b * a.tdiv b - b := by rw [Int.mul_sub, Int.mul_one]
  split
  · rw [fdiv_of (q := a.tdiv b) hb (by omega)]
  · split
    · rename_i h4 h5
      rw [fdiv_of (q := a.tdiv b - 1) hb]
      rw [hm]
      by_cases ha0 : a < 0 <;> by_cases hb0 : b < 0 <;> simp [ha0, hb0] at h5 <;> omega
    · rename_i h4 h5
      rw [fdiv_of (q := a.tdiv b) hb]
      by_cases ha0 : a < 0 <;> by_cases hb0 : b < 0 <;> simp [ha0, hb0] at h5 <;> omega
theorem mul_fdiv_abs {a b : Int} (hb : b ≠ 0) : (b * a.fdiv b).natAbs ≤ a.natAbs + b.natAbs := by
  have h1 := fdiv_spec a b
  have h2 := fmod_abs (a := a) hb
  omega
theorem rest_eval {a b : Int} (hb : b ≠ 0) (ha : a.natAbs ≤ 9000000000000000000) (hb' : b.natAbs ≤ 9000000000000000) : affine_rest.f a b = some (a.fmod b) := by
  unfold affine_rest.f
  have h1 := fdiv_spec a b
  have h2 := mul_fdiv_abs (a := a) hb
  have h3 := fmod_abs (a := a) hb
  rw [floor_eval hb ha]
  simp only [Option.bind_some]
  rw [w64 (n := b * a.fdiv b) (by omega), w64 (by omega)]
  congr 1; omega
theorem ceil_eval {a b : Int} (hb : b ≠ 0) (ha : a.natAbs ≤ 9000000000000000000) : affine_ceil.f a b = some (-((-a).fdiv b)) := by
  unfold affine_ceil.f
  have h1 := fdiv_abs (a := -a) hb
  rw [w64 (n := -a) (by omega), floor_eval hb (by omega)]
  simp only [Option.bind_some]
  rw [w64 (by omega)]
theorem abs_eval {a : Int} (ha : a.natAbs ≤ 9000000000000000000) : affine_abs.f a = some (a.natAbs : Int) := by
  unfold affine_abs.f
  split
  · rw [w64 (by omega)]; congr 1; omega
  · congr 1; omega
theorem sign_eval (a : Int) : affine_sign.f a = some (if a < 0 then -1 else if a > 0 then 1 else 0) := by
  unfold affine_sign.f
  split
  · rfl
  · split <;> rfl
/-- euclid returns a greatest common divisor, and how it is made. -/
theorem euclid_eval (n : Nat) : ∀ (a b : Int), b.natAbs ≤ n → a.natAbs ≤ 1000000000000 → b.natAbs ≤ 1000000000000 →
    ∃ g x y, (∀ k, n < k → affine_euclid.f k a b = some (g, x, y)) ∧ Bez a b g x y ∧ (b ≠ 0 → x.natAbs < b.natAbs) ∧ (b ≠ 0 → y.natAbs ≤ a.natAbs + 1) := by
  induction n with
  | zero =>
    intro a b hn ha hb
    obtain rfl : b = 0 := by omega
    refine ⟨a.natAbs, (if a < 0 then -1 else if a > 0 then 1 else 0), 0, ?_, bez_zero a, fun h => (h rfl).elim, fun h => (h rfl).elim⟩
    intro k hk
    obtain ⟨k, rfl⟩ : ∃ m, k = m + 1 := ⟨k - 1, by omega⟩
    simp only [affine_euclid.f]
    rw [if_pos trivial, abs_eval (by omega), sign_eval]
    rfl
  | succ n ih =>
    intro a b hn ha hb
    by_cases hb0 : b = 0
    · subst hb0
      refine ⟨a.natAbs, (if a < 0 then -1 else if a > 0 then 1 else 0), 0, ?_, bez_zero a, fun h => (h rfl).elim, fun h => (h rfl).elim⟩
      intro k hk
      obtain ⟨k, rfl⟩ : ∃ m, k = m + 1 := ⟨k - 1, by omega⟩
      simp only [affine_euclid.f]
      rw [if_pos trivial, abs_eval (by omega), sign_eval]
      rfl
    · have hr := fmod_abs (a := a) hb0
      obtain ⟨g, x, y, he, hz, hx, hy⟩ := ih b (a.fmod b) (by omega) hb (by omega)
      have hq := fdiv_abs (a := a) hb0
      have hyb : y.natAbs < b.natAbs := by
        by_cases hr0 : a.fmod b = 0
        · -- the step before returns y = 0
          have h0 := he (n + 1) (by omega)
          rw [hr0] at h0
          simp only [affine_euclid.f] at h0
          rw [if_pos trivial, abs_eval (by omega), sign_eval] at h0
          simp only [Option.bind_some, Option.some.injEq, Prod.mk.injEq] at h0
          omega
        · exact bez_strict hz hr0 hr (hx hr0)
      have hs := bez_step hz
      have hyn := bez_bound hs hb0 hyb
      refine ⟨g, y, x - a.fdiv b * y, ?_, hs, fun _ => hyb, fun _ => hyn⟩
      intro k hk
      obtain ⟨k, rfl⟩ : ∃ m, k = m + 1 := ⟨k - 1, by omega⟩
      simp only [affine_euclid.f]
      rw [if_neg hb0, rest_eval hb0 (by omega) (by omega)]
      simp only [Option.bind_some]
      rw [he k (by omega)]
      simp only [Option.bind_some]
      rw [floor_eval hb0 (by omega)]
      simp only [Option.bind_some]
      have hxb : x.natAbs ≤ 1000000000000 := by
        by_cases hr0 : a.fmod b = 0
        · have h0 := he (n + 1) (by omega)
          rw [hr0] at h0
          simp only [affine_euclid.f] at h0
          rw [if_pos trivial, abs_eval (by omega), sign_eval] at h0
          simp only [Option.bind_some, Option.some.injEq, Prod.mk.injEq] at h0
          split at h0 <;> (try split at h0) <;> omega
        · have := hx hr0; omega
      have hq2 : (a.fdiv b * y).natAbs ≤ x.natAbs + (x - a.fdiv b * y).natAbs := by omega
      rw [w64 (n := a.fdiv b * y) (by omega), w64 (by omega)]

theorem tdiv_dvd {a b : Int} (h : b ∣ a) : b * a.tdiv b = a := Int.mul_tdiv_cancel_of_dvd h
theorem tdiv_of {a b q : Int} (hb : b ≠ 0) (h : a = b * q) : a.tdiv b = q := by
  rw [h]; exact Int.mul_tdiv_cancel_left q hb
theorem tmod_dvd {a b : Int} : a.tmod b = 0 ↔ b ∣ a := by
  constructor
  · exact Int.dvd_of_tmod_eq_zero
  · exact Int.tmod_eq_zero_of_dvd
/-- a b' = b a' where both are divided by g. -/
theorem cross {a b g A B : Int} (ha : g * A = a) (hb : g * B = b) : a * B = b * A := by grind

/-- gcd: for b not 0 the x that is from 0 to below |b| / g. -/
theorem gcd_eval {a b : Int} (ha : a.natAbs ≤ 2147483648) (hb : b.natAbs ≤ 2147483648) :
    ∃ g x y, (∀ k, b.natAbs < k → affine_gcd.f k a b = some (g, x, y)) ∧ Bez a b g x y ∧
      (b = 0 → g = a.natAbs ∧ x = (if a < 0 then -1 else if a > 0 then 1 else 0) ∧ y = 0) ∧ (b ≠ 0 → 0 ≤ x ∧ ∃ m, g * m = b.natAbs ∧ x < m) := by
  obtain ⟨g, x, y, he, hz, hx, hy⟩ := euclid_eval b.natAbs a b (Nat.le_refl _) (by omega) (by omega)
  by_cases hb0 : b = 0
  · subst hb0
    refine ⟨g, x, y, fun k hk => ?_, hz, fun _ => ?_, fun h => (h rfl).elim⟩
    · unfold affine_gcd.f
      rw [he k hk]; rfl
    · have h0 := he 1 (by omega)
      simp only [affine_euclid.f] at h0
      rw [if_pos trivial, abs_eval (by omega), sign_eval] at h0
      simp only [Option.bind_some, Option.some.injEq, Prod.mk.injEq] at h0
      exact ⟨h0.1.symm, h0.2.1.symm, h0.2.2.symm⟩
  · have hg := hz.g_pos (.inr hb0)
    have hgb : g ∣ (b.natAbs : Int) := Int.dvd_natAbs.mpr hz.right
    have hm := tdiv_dvd hgb
    generalize hmm : (b.natAbs : Int).tdiv g = m at hm
    have hmp : 0 < m := by
      apply Classical.byContradiction
      intro h
      have : g * m ≤ 0 := Int.mul_nonpos_of_nonneg_of_nonpos (by omega) (by omega)
      omega
    have hmb : m ≤ b.natAbs := by
      have : 1 * m ≤ g * m := Int.mul_le_mul_of_nonneg_right (by omega) (by omega)
      omega
    have hu := fmod_pos (a := x) hmp
    have hq := fdiv_spec x m
    -- a u + b v = g
    obtain ⟨A, hA⟩ := hz.left
    have hgm : b = g * m ∨ b = -(g * m) := by omega
    have hv : b ∣ g - a * (x.fmod m) := by
      have h1 := hz.made
      have h2 : g - a * (x.fmod m) = b * y + (A * x.fdiv m) * (g * m) := by grind
      rw [h2]
      rcases hgm with h | h
      · exact Int.dvd_add (Int.dvd_mul_right b y) (Int.dvd_mul_of_dvd_right (by rw [← h]; exact Int.dvd_refl b))
      · exact Int.dvd_add (Int.dvd_mul_right b y) (Int.dvd_mul_of_dvd_right (Int.dvd_neg.mp (by rw [← h]; exact Int.dvd_refl b)))
    have hw := tdiv_dvd hv
    have hau : (a * x.fmod m).natAbs ≤ 2147483648 * 2147483648 := by
      rw [Int.natAbs_mul]; exact Nat.mul_le_mul (by omega) (by omega)
    have hau2 : (a * x.fmod m).natAbs ≤ a.natAbs * b.natAbs := by
      rw [Int.natAbs_mul]; exact Nat.mul_le_mul (by omega) (by omega)
    have hgl : g.natAbs ≤ b.natAbs := dvd_le hz.right hb0
    refine ⟨g, x.fmod m, (g - a * x.fmod m).tdiv b, fun k hk => ?_, ⟨hz.pos, hz.left, hz.right, by omega⟩, fun h => (hb0 h).elim, fun _ => ⟨hu.1, m, hm, hu.2⟩⟩
    unfold affine_gcd.f
    rw [he k hk]
    simp only [Option.bind_some]
    rw [if_neg hb0, abs_eval (by omega)]
    simp only [Option.bind_some]
    rw [if_neg (by omega), hmm, w64 (n := m) (by omega), rest_eval (by omega) (by have := hx hb0; omega) (by omega)]
    simp only [Option.bind_some]
    rw [w64 (n := a * x.fmod m) (by omega), w64 (n := g - a * x.fmod m) (by omega), w64 (by have := tdiv_abs (g - a * x.fmod m) b; omega)]

theorem nat_mul_le {a b A B : Nat} (ha : a ≤ A) (hb : b ≤ B) : a * b ≤ A * B := Nat.mul_le_mul ha hb
theorem mul_abs {a b : Int} {A B : Nat} (ha : a.natAbs ≤ A) (hb : b.natAbs ≤ B) : (a * b).natAbs ≤ A * B := by
  rw [Int.natAbs_mul]; exact Nat.mul_le_mul ha hb
/-- whole returns (c - a x) / b. -/
theorem whole_eval {a x b c Y : Int} (hb : b ≠ 0) (ha : a.natAbs ≤ 2147483648) (hb' : b.natAbs ≤ 2147483648) (hx : x.natAbs ≤ 2147483648) (hc : c.natAbs ≤ 8589934592) (hY : Y.natAbs ≤ 4611686018427387904) (h : a * x + b * Y = c) :
    affine_whole.f a x b c = some Y := by
  have h1 := tdiv_spec a b
  have h2 := tmod_spec (a := a) hb
  have h3 := tdiv_abs a b
  have h4 := mul_abs (a := a.tmod b) (b := x) (A := 2147483648) (B := 2147483648) (by omega) hx
  have h5 := mul_abs (a := a.tdiv b) (b := x) (A := 2147483648) (B := 2147483648) (by omega) hx
  have h6 : c - a.tmod b * x = b * (Y + a.tdiv b * x) := by grind
  have h7 : (c - a.tmod b * x).tdiv b = Y + a.tdiv b * x := tdiv_of hb h6
  have h8 := tdiv_abs (c - a.tmod b * x) b
  unfold affine_whole.f
  rw [if_neg hb, w64 (n := a.tmod b * x) (by omega), w64 (n := c - a.tmod b * x) (by omega), w64 (n := a.tdiv b) (by omega), w64 (n := a.tdiv b * x) (by omega), w64 (n := (c - a.tmod b * x).tdiv b) (by omega), h7]
  rw [w64 (by omega)]; congr 1; omega

/-- All whole solutions of a x + b y = c. -/
structure Sol (a b c X DX Y DY : Int) (ok : Bool) : Prop where
  zero : a = 0 → b = 0 → X = 0 ∧ DX = 0 ∧ Y = 0 ∧ DY = 0 ∧ (ok = true ↔ c = 0)
  no : (a ≠ 0 ∨ b ≠ 0) → ok = false → X = 0 ∧ DX = 0 ∧ Y = 0 ∧ DY = 0 ∧ ∀ i j, a * i + b * j ≠ c
  one : (a ≠ 0 ∨ b ≠ 0) → ok = true → a * X + b * Y = c ∧ a * DX + b * DY = 0
  line : b = 0 → a ≠ 0 → ok = true → DX = 0 ∧ Y = 0 ∧ DY = 1 ∧ X.natAbs ≤ c.natAbs
  least : b ≠ 0 → ok = true → 0 ≤ X ∧ X < DX ∧ DX.natAbs ≤ b.natAbs ∧ DY.natAbs ≤ a.natAbs ∧ ∃ g x y, Bez a b g x y ∧ g * DX = b.natAbs

theorem Sol.unique {a b c X DX Y DY X' DX' Y' DY' : Int} {ok ok' : Bool} (h : Sol a b c X DX Y DY ok) (h' : Sol a b c X' DX' Y' DY' ok') : X = X' ∧ DX = DX' ∧ Y = Y' ∧ DY = DY' ∧ ok = ok' := by
  by_cases hz : a = 0 ∧ b = 0
  · have h1 := h.zero hz.1 hz.2
    have h2 := h'.zero hz.1 hz.2
    refine ⟨by omega, by omega, by omega, by omega, ?_⟩
    cases ok <;> cases ok' <;> simp_all
  · have hz' : a ≠ 0 ∨ b ≠ 0 := by omega
    have hok : ok = ok' := by
      cases ho : ok <;> cases ho' : ok'
      · rfl
      · exact absurd (h'.one hz' ho').1 ((h.no hz' ho).2.2.2.2 _ _)
      · exact absurd (h.one hz' ho).1 ((h'.no hz' ho').2.2.2.2 _ _)
      · rfl
    subst hok
    cases ho : ok
    · have h1 := h.no hz' ho; have h2 := h'.no hz' ho
      exact ⟨by omega, by omega, by omega, by omega, rfl⟩
    · have h1 := h.one hz' ho; have h2 := h'.one hz' ho
      by_cases hb : b = 0
      · have ha : a ≠ 0 := by omega
        have h3 := h.line hb ha ho; have h4 := h'.line hb ha ho
        refine ⟨?_, by omega, by omega, by omega, rfl⟩
        have : a * X = a * X' := by rw [hb] at h1 h2; omega
        exact Int.eq_of_mul_eq_mul_left ha this
      · obtain ⟨a1, a2, _, _, g, x, y, hz1, hg⟩ := h.least hb ho
        obtain ⟨b1, b2, _, _, g', x', y', hz2, hg'⟩ := h'.least hb ho
        have hgg := hz1.unique hz2
        subst hgg
        have hgp := hz1.g_pos (.inr hb)
        have hd : DX = DX' := Int.eq_of_mul_eq_mul_left (a := g) (by omega) (by omega)
        subst hd
        obtain ⟨e1, e2⟩ := hz1.only (m := DX) hb (by omega) a1 a2 b1 b2 h1.1 h2.1
        refine ⟨e1, rfl, e2, ?_, rfl⟩
        have : b * DY = b * DY' := by omega
        exact Int.eq_of_mul_eq_mul_left hb this

/-- each solution is one of them. -/
theorem Sol.all {a b c X DX Y DY : Int} {ok : Bool} (h : Sol a b c X DX Y DY ok) (hz : a ≠ 0 ∨ b ≠ 0) (ho : ok = true) {i j : Int} (e : a * i + b * j = c) : ∃ k, i = X + DX * k ∧ j = Y + DY * k := by
  have h1 := h.one hz ho
  by_cases hb : b = 0
  · have ha : a ≠ 0 := by omega
    have h3 := h.line hb ha ho
    refine ⟨j, ?_, by rw [h3.2.1, h3.2.2.1]; omega⟩
    rw [h3.1]
    have : a * i = a * X := by rw [hb] at h1 e; omega
    have := Int.eq_of_mul_eq_mul_left ha this
    omega
  · obtain ⟨a1, a2, _, _, g, x, y, hz1, hg⟩ := h.least hb ho
    have hgp := hz1.g_pos (.inr hb)
    have hd : b ∣ g * (i - X) := hz1.dvd_of (d := i - X) (e := Y - j) (by grind)
    have hd2 : DX ∣ i - X := by
      have : g * DX ∣ g * (i - X) := by rw [hg]; exact Int.natAbs_dvd.mpr hd
      exact Int.dvd_of_mul_dvd_mul_left (by omega) this
    obtain ⟨k, hk⟩ := hd2
    refine ⟨k, by omega, ?_⟩
    have : b * (j - Y) = b * (DY * k) := by
      have h2 := h1.1; have h4 := h1.2
      have : i = X + DX * k := by omega
      subst this
      grind
    have := Int.eq_of_mul_eq_mul_left hb this
    omega
theorem Sol.each {a b c X DX Y DY : Int} {ok : Bool} (h : Sol a b c X DX Y DY ok) (hz : a ≠ 0 ∨ b ≠ 0) (ho : ok = true) (k : Int) : a * (X + DX * k) + b * (Y + DY * k) = c := by
  have h1 := h.one hz ho
  grind

set_option maxHeartbeats 2000000 in
theorem solve_eval {a b c : Int} (ha : a.natAbs ≤ 2147483648) (hb : b.natAbs ≤ 2147483648) (hc : c.natAbs ≤ 8589934592) :
    ∃ X DX Y DY ok, (∀ k, 2147483700 < k → affine_solve.f k a b c = some (X, DX, Y, DY, ok)) ∧ Sol a b c X DX Y DY ok := by
  by_cases hz : a = 0 ∧ b = 0
  · obtain ⟨rfl, rfl⟩ := hz
    refine ⟨0, 0, 0, 0, (c == 0), fun k hk => ?_, ⟨fun _ _ => by simp, fun h => by omega, fun h => by omega, fun _ h => by omega, fun h => by omega⟩⟩
    obtain ⟨k, rfl⟩ : ∃ m, k = m + 1 := ⟨k - 1, by omega⟩
    unfold affine_solve.f
    rw [if_pos rfl]
    simp only [affine_solve.j0]
    rw [if_pos (by rfl)]
  · have hz' : a ≠ 0 ∨ b ≠ 0 := by omega
    have hf : ∀ k, affine_solve.f k a b c = affine_solve.j0 k a b c false := by
      intro k
      unfold affine_solve.f
      split
      · have : (b == 0) = false := by simp; omega
        rw [this]
      · rfl
    obtain ⟨g, x0, y0, he, hg, hx0, hy0⟩ := euclid_eval 2147483648 a b hb (by omega) (by omega)
    have hgp := hg.g_pos hz'
    by_cases hd : g ∣ c
    · obtain ⟨A, hA⟩ := hg.left
      obtain ⟨B, hB⟩ := hg.right
      obtain ⟨C, hC⟩ := hd
      have hAe : a.tdiv g = A := tdiv_of (by omega) hA
      have hBe : b.tdiv g = B := tdiv_of (by omega) hB
      have hCe : c.tdiv g = C := tdiv_of (by omega) hC
      have bA := tdiv_abs a g; have bB := tdiv_abs b g; have bC := tdiv_abs c g
      rw [hAe] at bA; rw [hBe] at bB; rw [hCe] at bC
      by_cases hb0 : b = 0
      · have hB0 : B = 0 := by
          rcases Int.mul_eq_zero.mp (hB.symm.trans hb0) with h | h <;> omega
        have hA0 : A ≠ 0 := by intro h; rw [h] at hA; omega
        have ha0 : a ≠ 0 := by omega
        -- g is |a|, so that A is 1 or -1
        have hag : a ∣ g := by
          have := hg.made; rw [hb0] at this
          exact ⟨x0, by omega⟩
        have hga : g.natAbs = a.natAbs := Nat.le_antisymm (dvd_le hg.left ha0) (dvd_le hag (by omega))
        have hA1 : A = 1 ∨ A = -1 := by
          have h1 : a.natAbs = g.natAbs * A.natAbs := by rw [hA, Int.natAbs_mul]
          have h2 : g.natAbs * A.natAbs = g.natAbs * 1 := by omega
          have h3 := Nat.eq_of_mul_eq_mul_left (by omega) h2
          omega
        have hXe : a * C.tdiv A = c := by
          rcases hA1 with h | h
          · rw [h, Int.tdiv_one, hC, hA, h]; grind
          · rw [h, Int.tdiv_neg, Int.tdiv_one, hC, hA, h]; grind
        have bX := tdiv_abs C A
        refine ⟨C.tdiv A, 0, 0, 1, true, fun k hk => ?_, ⟨fun h => by omega, fun _ h => (by cases h), fun _ _ => ⟨by rw [hb0]; omega, by rw [hb0]; omega⟩, fun _ _ _ => ⟨rfl, rfl, rfl, by omega⟩, fun h => (h hb0).elim⟩⟩
        obtain ⟨k, rfl⟩ : ∃ m, k = m + 1 := ⟨k - 1, by omega⟩
        rw [hf]
        simp only [affine_solve.j0]
        rw [if_neg (by simp), he k (by omega)]
        simp only [Option.bind_some]
        rw [if_neg (by omega), if_pos (tmod_dvd.mpr ⟨C, hC⟩), hAe, hBe, hCe, w64 (n := B) (by omega), if_pos hB0, w64 (n := A) (by omega), if_neg hA0, w64 (n := C) (by omega), w64 (by omega)]
      · have hB0 : B ≠ 0 := by intro h; rw [h] at hB; omega
        have hm0 : 0 < (B.natAbs : Int) := by omega
        generalize hm : (B.natAbs : Int) = m at hm0
        have bm : m ≤ 2147483648 := by omega
        have ra := fmod_pos (a := A) hm0
        obtain ⟨g1, x1, y1, he1, hg1, _, hx1⟩ := gcd_eval (a := A.fmod m) (b := m) (by omega) (by omega)
        obtain ⟨hx1a, m1, hm1, hx1b⟩ := hx1 (by omega)
        clear hx1
        -- g1 is 1
        have hg1' : g1 = 1 := by
          have d1 : g1 ∣ A := by
            have := fdiv_spec A m
            rw [← this]
            exact Int.dvd_add (Int.dvd_mul_of_dvd_left hg1.right) hg1.left
          have d2 : g1 ∣ B := by
            have := hg1.right
            rw [← hm] at this
            exact Int.dvd_natAbs.mp this
          have h1 : A * x0 + B * y0 = 1 := by
            have := hg.made
            have h2 : g * (A * x0 + B * y0) = g * 1 := by grind
            exact Int.eq_of_mul_eq_mul_left (by omega) h2
          have d3 : g1 ∣ 1 := by
            rw [← h1]
            exact Int.dvd_add (Int.dvd_mul_of_dvd_left d1) (Int.dvd_mul_of_dvd_left d2)
          have := hg1.pos
          have h4 := dvd_le d3 (by omega)
          have h5 := hg1.g_pos (.inr (by omega : m ≠ 0))
          omega
        subst hg1'
        have hm1' : m1 = m := by omega
        subst hm1'
        have hx1m : x1.fmod m1 = x1 := Int.fmod_eq_of_lt hx1a hx1b
        have rc := fmod_pos (a := C) hm0
        have rx := fmod_pos (a := x1 * C.fmod m1) hm0
        have bxc := mul_abs (a := x1) (b := C.fmod m1) (A := 2147483648) (B := 2147483648) (by omega) (by omega)
        generalize hX : (x1 * C.fmod m1).fmod m1 = X at rx
        -- A X + B Y = C
        have hdiv : m1 ∣ C - A * X := by
          have e1 := fdiv_spec A m1
          have e2 := fdiv_spec C m1
          have e3 := fdiv_spec (x1 * C.fmod m1) m1
          have e4 := hg1.made
          rw [hX] at e3
          refine ⟨-(A.fdiv m1 * X) + y1 * C.fmod m1 + C.fdiv m1 + A.fmod m1 * (x1 * C.fmod m1).fdiv m1, ?_⟩
          grind
        have hdB : B ∣ C - A * X := by
          rw [← hm] at hdiv
          exact Int.natAbs_dvd.mp hdiv
        clear hdiv
        obtain ⟨Y, hY⟩ := hdB
        have hAX := mul_abs (a := A) (b := X) (A := A.natAbs) (B := B.natAbs) (Nat.le_refl _) (by omega)
        have bY : Y.natAbs ≤ A.natAbs + C.natAbs := by
          have h1 : B.natAbs * Y.natAbs ≤ B.natAbs * (A.natAbs + C.natAbs) := by
            have : B.natAbs * Y.natAbs = (C - A * X).natAbs := by rw [hY, Int.natAbs_mul]
            rw [Nat.mul_add, Nat.mul_comm B.natAbs A.natAbs]
            have h2 : 1 * C.natAbs ≤ B.natAbs * C.natAbs := Nat.mul_le_mul_right _ (by omega)
            omega
          exact Nat.le_of_mul_le_mul_left h1 (by omega)
        have heq : A * X + B * Y = C := by omega
        have hw := whole_eval (a := A) (x := X) (b := B) (c := C) (Y := Y) hB0 (by omega) (by omega) (by omega) (by omega) (by omega) heq
        have hfin : a * X + b * Y = c := by rw [hA, hB, hC, ← heq]; grind
        have hgm : g * m1 = b.natAbs := by
          rw [← hm, hB, Int.natAbs_mul]
          have : (g.natAbs : Int) = g := by omega
          rw [Int.natCast_mul, this]
        have hbB : (b < 0 ↔ B < 0) := by
          rw [hB]
          constructor
          · intro h
            apply Classical.byContradiction
            intro h'
            have : 0 ≤ g * B := Int.mul_nonneg (by omega) (by omega)
            omega
          · intro h; exact Int.mul_neg_of_pos_of_neg hgp h
        have run : ∀ k, 2147483700 < k → affine_solve.f k a b c = if B < 0 then some (X, -B, Y, A, true) else some (X, B, Y, -A, true) := by
          intro k hk
          obtain ⟨k, rfl⟩ : ∃ m, k = m + 1 := ⟨k - 1, by omega⟩
          rw [hf]
          simp only [affine_solve.j0]
          rw [if_neg (by simp), he k (by omega)]
          simp only [Option.bind_some]
          rw [if_neg (by omega), if_pos (tmod_dvd.mpr ⟨C, hC⟩), hAe, hBe, hCe, w64 (n := B) (by omega), if_neg hB0, w64 (n := A) (by omega), w64 (n := C) (by omega), w64 (n := -B) (by omega), w64 (n := -A) (by omega), abs_eval (by omega), hm]
          simp only [Option.bind_some]
          rw [rest_eval (by omega) (by omega) (by omega)]
          simp only [Option.bind_some]
          rw [he1 k (by omega)]
          simp only [Option.bind_some]
          rw [rest_eval (by omega) (by omega) (by omega), hx1m]
          simp only [Option.bind_some]
          rw [rest_eval (by omega) (by omega) (by omega)]
          simp only [Option.bind_some]
          rw [w64 (n := x1 * C.fmod m1) (by omega), rest_eval (by omega) (by omega) (by omega), hX]
          simp only [Option.bind_some]
          rw [hw]
          rfl
        by_cases hBn : B < 0
        · refine ⟨X, -B, Y, A, true, fun k hk => by rw [run k hk, if_pos hBn], ⟨fun h => by omega, fun _ h => (by cases h), fun _ _ => ⟨hfin, ?_⟩, fun h => (hb0 h).elim, fun _ _ => ⟨rx.1, by omega, by omega, by omega, g, x0, y0, hg, ?_⟩⟩⟩
          · rw [hA, hB]; grind
          · rw [← hgm]; congr 1; omega
        · refine ⟨X, B, Y, -A, true, fun k hk => by rw [run k hk, if_neg hBn], ⟨fun h => by omega, fun _ h => (by cases h), fun _ _ => ⟨hfin, ?_⟩, fun h => (hb0 h).elim, fun _ _ => ⟨rx.1, by omega, by omega, by omega, g, x0, y0, hg, ?_⟩⟩⟩
          · rw [hA, hB]; grind
          · rw [← hgm]; congr 1; omega
    · refine ⟨0, 0, 0, 0, false, fun k hk => ?_, ⟨fun h => by omega, fun _ _ => ⟨rfl, rfl, rfl, rfl, fun i j e => hd ?_⟩, fun _ h => (by cases h), fun _ _ h => (by cases h), fun _ h => (by cases h)⟩⟩
      · obtain ⟨k, rfl⟩ : ∃ m, k = m + 1 := ⟨k - 1, by omega⟩
        rw [hf]
        simp only [affine_solve.j0]
        rw [if_neg (by simp), he k (by omega)]
        simp only [Option.bind_some]
        rw [if_neg (by omega), if_neg (fun h => hd (tmod_dvd.mp h))]
      · rw [← e]
        exact Int.dvd_add (Int.dvd_mul_of_dvd_left hg.left) (Int.dvd_mul_of_dvd_left hg.right)

theorem le_fdiv_pos {a s k : Int} (hs : 0 < s) : k ≤ a.fdiv s ↔ s * k ≤ a := by
  have h1 := fdiv_spec a s
  have h2 := @fmod_pos a s hs
  constructor
  · intro h
    have := Int.mul_le_mul_of_nonneg_left h (Int.le_of_lt hs)
    omega
  · intro h
    have h3 : s * k < s * (a.fdiv s + 1) := by rw [Int.mul_add, Int.mul_one]; omega
    have := Int.lt_of_mul_lt_mul_left h3 (Int.le_of_lt hs)
    omega
theorem le_fdiv_neg {a s k : Int} (hs : s < 0) : k ≤ a.fdiv s ↔ a ≤ s * k := by
  have := @le_fdiv_pos (-a) (-s) k (by omega)
  rw [Int.neg_fdiv_neg, Int.neg_mul] at this
  omega
theorem ceil_le_pos {a s k : Int} (hs : 0 < s) : -((-a).fdiv s) ≤ k ↔ a ≤ s * k := by
  have := @le_fdiv_pos (-a) s (-k) hs
  rw [Int.mul_neg] at this
  omega
theorem ceil_le_neg {a s k : Int} (hs : s < 0) : -((-a).fdiv s) ≤ k ↔ s * k ≤ a := by
  have := @le_fdiv_neg (-a) s (-k) hs
  rw [Int.mul_neg] at this
  omega
theorem mx_le {a b k : Int} : mx a b ≤ k ↔ a ≤ k ∧ b ≤ k := by unfold mx; split <;> omega
theorem le_mn {a b k : Int} : k ≤ mn a b ↔ k ≤ a ∧ k ≤ b := by unfold mn; split <;> omega
theorem mx_abs {a b : Int} {B : Nat} (ha : a.natAbs ≤ B) (hb : b.natAbs ≤ B) : (mx a b).natAbs ≤ B := by unfold mx; split <;> assumption
theorem mn_abs {a b : Int} {B : Nat} (ha : a.natAbs ≤ B) (hb : b.natAbs ≤ B) : (mn a b).natAbs ≤ B := by unfold mn; split <;> assumption

/-- within narrows a span. -/
structure Narrow (f t base step n f' t' : Int) (ok : Bool) : Prop where
  yes : ok = true → ∀ k, (f' ≤ k ∧ k ≤ t') ↔ (f ≤ k ∧ k ≤ t ∧ 0 ≤ base + step * k ∧ base + step * k < n)
  no : ok = false → ∀ k, f ≤ k → k ≤ t → 0 ≤ base + step * k → base + step * k < n → False
  some : step ≠ 0 → ok = true → f' ≤ t'
  same : step = 0 → f' = f ∧ t' = t
  size : f'.natAbs ≤ 2199023255552 ∧ t'.natAbs ≤ 2199023255552

theorem within_eval {f t base step n : Int} (hf : f.natAbs ≤ 2199023255552) (ht : t.natAbs ≤ 2199023255552) (hb : base.natAbs ≤ 68719476736) (hn : n.natAbs ≤ 68719476736) :
    ∃ f' t' ok, affine_span_within.f f t base step n = some (f', t', ok) ∧ Narrow f t base step n f' t' ok := by
  unfold affine_span_within.f
  by_cases h1 : n ≤ 0
  · rw [if_pos h1]
    exact ⟨f, t, false, rfl, ⟨fun h => (by cases h), fun _ k _ _ _ _ => by omega, fun _ h => (by cases h), fun _ => ⟨rfl, rfl⟩, hf, ht⟩⟩
  · rw [if_neg h1]
    by_cases h2 : step = 0
    · subst h2
      rw [if_pos rfl]
      by_cases h3 : base ≥ 0
      · rw [if_pos h3]
        refine ⟨f, t, _, rfl, ⟨fun h k => ?_, fun h k _ _ _ h4 => ?_, fun h => (h rfl).elim, fun _ => ⟨rfl, rfl⟩, hf, ht⟩⟩
        · have := of_decide_eq_true h
          rw [Int.zero_mul]; omega
        · have := of_decide_eq_false h
          rw [Int.zero_mul] at h4; omega
      · rw [if_neg h3]
        refine ⟨f, t, false, rfl, ⟨fun h => (by cases h), fun h k _ _ h4 _ => ?_, fun h => (h rfl).elim, fun _ => ⟨rfl, rfl⟩, hf, ht⟩⟩
        rw [Int.zero_mul] at h4; omega
    · rw [if_neg h2, w64 (n := n - 1) (by omega), w64 (n := n - 1 - base) (by omega), w64 (n := -base) (by omega)]
      have q1 := fdiv_abs (a := -(n - 1 - base)) h2
      have q2 := fdiv_abs (a := n - 1 - base) h2
      have q3 := fdiv_abs (a := -(-base)) h2
      have q4 := fdiv_abs (a := -base) h2
      by_cases h3 : step < 0
      · rw [if_pos h3, ceil_eval h2 (by omega)]
        simp only [Option.bind_some]
        rw [floor_eval h2 (by omega)]
        simp only [Option.bind_some]
        refine ⟨_, _, _, rfl, ⟨fun h k => ?_, fun h k k1 k2 k3 k4 => ?_, fun _ h => of_decide_eq_true h, fun h => (h2 h).elim, mx_abs hf (by omega), mn_abs ht (by omega)⟩⟩
        · rw [mx_le, le_mn, ceil_le_neg h3, le_fdiv_neg h3]; omega
        · have := of_decide_eq_false h
          have k5 : mx f (-((-(n - 1 - base)).fdiv step)) ≤ k := by rw [mx_le, ceil_le_neg h3]; omega
          have k6 : k ≤ mn t ((-base).fdiv step) := by rw [le_mn, le_fdiv_neg h3]; omega
          omega
      · have h3' : 0 < step := by omega
        rw [if_neg h3, ceil_eval h2 (by omega)]
        simp only [Option.bind_some]
        rw [floor_eval h2 (by omega)]
        simp only [Option.bind_some]
        refine ⟨_, _, _, rfl, ⟨fun h k => ?_, fun h k k1 k2 k3 k4 => ?_, fun _ h => of_decide_eq_true h, fun h => (h2 h).elim, mx_abs hf (by omega), mn_abs ht (by omega)⟩⟩
        · rw [mx_le, le_mn, ceil_le_pos h3', le_fdiv_pos h3']; omega
        · have := of_decide_eq_false h
          have k5 : mx f (-((-(-base)).fdiv step)) ≤ k := by rw [mx_le, ceil_le_pos h3']; omega
          have k6 : k ≤ mn t ((n - 1 - base).fdiv step) := by rw [le_mn, le_fdiv_pos h3']; omega
          omega

/-- The pairs at which two lines' numbers are the same. -/
def Pair (pb ps qb qs n m i j : Int) : Prop := 0 ≤ i ∧ i < n ∧ 0 ≤ j ∧ j < m ∧ pb + ps * i = qb + qs * j

structure Met (pb ps qb qs n m X DX Y DY f t : Int) (full ok : Bool) : Prop where
  no : ok = false → ∀ i j, ¬ Pair pb ps qb qs n m i j
  every : ok = true → full = true → ps = 0 ∧ qs = 0 ∧ pb = qb ∧ 0 < n ∧ 0 < m
  some : ok = true → full = false → f ≤ t ∧ (∀ k, (f ≤ k ∧ k ≤ t) ↔ (0 ≤ X + DX * k ∧ X + DX * k < n ∧ 0 ≤ Y + DY * k ∧ Y + DY * k < m)) ∧ Sol ps (-qs) (qb - pb) X DX Y DY true ∧ (ps ≠ 0 ∨ -qs ≠ 0)
  size : f.natAbs ≤ 2199023255552 ∧ t.natAbs ≤ 2199023255552

theorem Sol.sizes {a b c X DX Y DY : Int} {ok : Bool} (h : Sol a b c X DX Y DY ok) (ha : a.natAbs ≤ 2147483648) (hb : b.natAbs ≤ 2147483648) (hc : c.natAbs ≤ 4294967296) :
    X.natAbs ≤ 4294967296 ∧ DX.natAbs ≤ 2147483648 ∧ Y.natAbs ≤ 8589934592 ∧ DY.natAbs ≤ 2147483648 := by
  by_cases hz : a = 0 ∧ b = 0
  · have := h.zero hz.1 hz.2; omega
  · have hz' : a ≠ 0 ∨ b ≠ 0 := by omega
    cases ho : ok
    · have := h.no hz' ho; omega
    · have h1 := h.one hz' ho
      by_cases hb0 : b = 0
      · have := h.line hb0 (by omega) ho; omega
      · obtain ⟨a1, a2, a3, a4, _⟩ := h.least hb0 ho
        have h2 := h1.1
        have h3 : b.natAbs * Y.natAbs ≤ b.natAbs * (a.natAbs + c.natAbs) := by
          have e1 : b.natAbs * Y.natAbs = (c - a * X).natAbs := by rw [← Int.natAbs_mul]; congr 1; omega
          have e2 := mul_abs (a := a) (b := X) (A := a.natAbs) (B := b.natAbs) (Nat.le_refl _) (by omega)
          rw [Nat.mul_add, Nat.mul_comm b.natAbs a.natAbs]
          have e3 : 1 * c.natAbs ≤ b.natAbs * c.natAbs := Nat.mul_le_mul_right _ (by omega)
          omega
        have h4 := Nat.le_of_mul_le_mul_left h3 (by omega)
        omega

/-- k is not large where X + DX k is from 0 to below n. -/
theorem k_small {X DX n k : Int} (hd : 0 < DX) (hX0 : 0 ≤ X) (hX : X < DX) (h0 : 0 ≤ X + DX * k) (h1 : X + DX * k < n) : 0 ≤ k ∧ k ≤ n := by
  constructor
  · apply Classical.byContradiction
    intro h
    have : DX * k ≤ DX * (-1) := Int.mul_le_mul_of_nonneg_left (by omega) (by omega)
    omega
  · apply Classical.byContradiction
    intro h
    have : 1 * k ≤ DX * k := Int.mul_le_mul_of_nonneg_right (by omega) (by omega)
    omega

theorem meet_eval {pb ps qb qs n m : Int} (h1 : pb.natAbs ≤ 2147483648) (h2 : ps.natAbs ≤ 2147483648) (h3 : qb.natAbs ≤ 2147483648) (h4 : qs.natAbs ≤ 2147483648) (hn : n.natAbs ≤ 2147483648) (hm : m.natAbs ≤ 2147483648) :
    ∃ X DX Y DY f t all ok, (∀ k, 2147483700 < k → affine_meet.f k pb ps qb qs n m = some (X, DX, Y, DY, f, t, all, ok)) ∧ Met pb ps qb qs n m X DX Y DY f t all ok ∧
      X.natAbs ≤ 4294967296 ∧ DX.natAbs ≤ 2147483648 ∧ Y.natAbs ≤ 8589934592 ∧ DY.natAbs ≤ 2147483648 := by
  have nothing : (∀ i j, ¬ Pair pb ps qb qs n m i j) → Met pb ps qb qs n m 0 0 0 0 0 0 false false :=
    fun h => ⟨fun _ => h, fun h => (by cases h), fun h => (by cases h), by decide, by decide⟩
  by_cases hn0 : n ≤ 0
  · refine ⟨0, 0, 0, 0, 0, 0, false, false, fun k hk => ?_, nothing fun i j h => by unfold Pair at h; omega, by decide, by decide, by decide, by decide⟩
    unfold affine_meet.f
    rw [if_pos hn0]
  by_cases hm0 : m ≤ 0
  · refine ⟨0, 0, 0, 0, 0, 0, false, false, fun k hk => ?_, nothing fun i j h => by unfold Pair at h; omega, by decide, by decide, by decide, by decide⟩
    unfold affine_meet.f
    rw [if_neg hn0, if_pos hm0]
  obtain ⟨X, DX, Y, DY, ok, he, hs⟩ := solve_eval (a := ps) (b := -qs) (c := qb - pb) h2 (by omega) (by omega)
  have hsz := hs.sizes h2 (by omega) (by omega)
  have run : ∀ k, 2147483700 < k → affine_solve.f k ps (wrap64 (-qs)) (wrap64 (qb - pb)) = some (X, DX, Y, DY, ok) := by
    intro k hk
    rw [w64 (n := -qs) (by omega), w64 (n := qb - pb) (by omega)]
    exact he k hk
  clear he
  cases ho : ok with
  | false =>
    subst ho
    refine ⟨0, 0, 0, 0, 0, 0, false, false, fun k hk => ?_, nothing fun i j h => ?_, by decide, by decide, by decide, by decide⟩
    · unfold affine_meet.f
      rw [if_neg hn0, if_neg hm0, run k hk]
      rfl
    · unfold Pair at h
      by_cases hz : ps = 0 ∧ -qs = 0
      · have h5 := (hs.zero hz.1 hz.2).2.2.2.2
        have h6 : qs = 0 := by omega
        rw [hz.1, h6, Int.zero_mul, Int.zero_mul] at h
        have : qb - pb = 0 := by omega
        have := h5.mpr this
        cases this
      · refine (hs.no (by omega) rfl).2.2.2.2 i j ?_
        rw [Int.neg_mul]; omega
  | true =>
    subst ho
    by_cases hz : ps = 0 ∧ qs = 0
    · obtain ⟨rfl, rfl⟩ := hz
      refine ⟨X, DX, Y, DY, -1099511627776, 1099511627776, true, true, fun k hk => ?_, ⟨fun h => (by cases h), fun _ _ => ⟨rfl, rfl, ?_, by omega, by omega⟩, fun _ h => (by cases h), by decide, by decide⟩, hsz⟩
      · unfold affine_meet.f
        rw [if_neg hn0, if_neg hm0, run k hk]
        rfl
      · have := (hs.zero rfl rfl).2.2.2.2.mp rfl
        omega
    · have hz' : ps ≠ 0 ∨ -qs ≠ 0 := by omega
      obtain ⟨f1, t1, ok1, e1, w1⟩ := within_eval (f := -1099511627776) (t := 1099511627776) (base := X) (step := DX) (n := n) (by decide) (by decide) (by omega) (by omega)
      obtain ⟨f2, t2, ok2, e2, w2⟩ := within_eval (f := f1) (t := t1) (base := Y) (step := DY) (n := m) w1.size.1 w1.size.2 (by omega) (by omega)
      have run2 : ∀ k, 2147483700 < k → affine_meet.f k pb ps qb qs n m = if ok1 = true then some (X, DX, Y, DY, f2, t2, false, ok2) else some (0, 0, 0, 0, 0, 0, false, false) := by
        intro k hk
        unfold affine_meet.f
        rw [if_neg hn0, if_neg hm0, run k hk]
        simp only [Option.bind_some]
        rw [if_pos trivial]
        by_cases hp : ps = 0
        · have hq : qs ≠ 0 := by omega
          have hqb : (qs == 0) = false := by simpa using hq
          rw [if_pos hp, if_neg hq, e1]
          simp only [Option.bind_some]
          rw [e2, hqb]
          rfl
        · rw [if_neg hp, e1]
          simp only [Option.bind_some]
          rw [e2]
          rfl
      -- the pairs are the solutions
      have pairs : ∀ i j, Pair pb ps qb qs n m i j → ∃ k, i = X + DX * k ∧ j = Y + DY * k ∧ -1099511627776 ≤ k ∧ k ≤ 1099511627776 := by
        intro i j h
        unfold Pair at h
        obtain ⟨k, hi, hj⟩ := hs.all hz' rfl (i := i) (j := j) (by rw [Int.neg_mul]; omega)
        refine ⟨k, hi, hj, ?_⟩
        by_cases hq : -qs = 0
        · have h5 := hs.line hq (by omega) rfl
          rw [h5.2.2.1, h5.2.1] at hj
          omega
        · obtain ⟨a1, a2, _⟩ := hs.least hq rfl
          have := k_small (X := X) (DX := DX) (n := n) (k := k) (by omega) a1 a2 (by omega) (by omega)
          omega
      cases h1' : ok1 with
      | false =>
        subst h1'
        refine ⟨0, 0, 0, 0, 0, 0, false, false, fun k hk => by rw [run2 k hk]; rfl, nothing fun i j h => ?_, by decide, by decide, by decide, by decide⟩
        obtain ⟨k, hi, hj, k1, k2⟩ := pairs i j h
        unfold Pair at h
        exact w1.no rfl k k1 k2 (by omega) (by omega)
      | true =>
        subst h1'
        refine ⟨X, DX, Y, DY, f2, t2, false, ok2, fun k hk => by rw [run2 k hk]; rfl, ⟨fun h i j hp => ?_, fun _ h => (by cases h), fun h _ => ⟨?_, fun k => ?_, hs, hz'⟩, w2.size⟩, hsz⟩
        · obtain ⟨k, hi, hj, k1, k2⟩ := pairs i j hp
          unfold Pair at hp
          have := (w1.yes rfl k).mpr ⟨k1, k2, by omega, by omega⟩
          exact w2.no h k this.1 this.2 (by omega) (by omega)
        · by_cases hd : DY = 0
          · have h5 := w2.same hd
            have hd2 : DX ≠ 0 := by
              intro hd2
              by_cases hq : -qs = 0
              · have := hs.line hq (by omega) rfl; omega
              · have := hs.least hq rfl; omega
            have := w1.some hd2 rfl
            omega
          · exact w2.some hd h
        · rw [w2.yes h k]
          constructor
          · intro ⟨a1, a2, a3, a4⟩
            have := (w1.yes rfl k).mp ⟨a1, a2⟩
            omega
          · intro ⟨a1, a2, a3, a4⟩
            obtain ⟨k', hi, hj, k1, k2⟩ := pairs (X + DX * k) (Y + DY * k) (by
              refine ⟨a1, a2, a3, a4, ?_⟩
              have := hs.each hz' rfl k
              rw [Int.neg_mul] at this; omega)
            -- k' may be another k only if nothing moves: then both are in reach all the same
            have hk : k' = k := by
              by_cases hq : -qs = 0
              · have h5 := hs.line hq (by omega) rfl
                rw [h5.2.2.1] at hj; omega
              · have h5 := hs.least hq rfl
                have : DX * k = DX * k' := by omega
                exact (Int.eq_of_mul_eq_mul_left (by omega) this).symm
            subst hk
            have := (w1.yes rfl k').mpr ⟨k1, k2, a1, a2⟩
            exact ⟨this.1, this.2, a3, a4⟩

end Go.Proofs.Ytiedehjmhlgicaa.PAll.Aff
