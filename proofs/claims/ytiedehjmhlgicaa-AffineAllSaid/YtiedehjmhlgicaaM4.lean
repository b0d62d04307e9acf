/- The law of all solutions, as plain mathematics. -/
import Derived.Test.YtiedehjmhlgicaaM3
set_option maxHeartbeats 2000000
set_option linter.unusedVariables false
set_option linter.unusedSimpArgs false
namespace Go.Proofs.Ytiedehjmhlgicaa.PAll.Aff
open Go.RowKit Go.Proofs.YtiedehjmhlgicaaW.PrintWords Go.Proofs.YtiedehjmhlgicaaW.PrintLast Go.Proofs.YtiedehjmhlgicaaW.PrintMore
theorem All_sums {a b t c X DX Y DY : Int} (ha : a.natAbs ≤ 4000) (hb : b.natAbs ≤ 4000) (ht : t.natAbs ≤ 4000) (hDX : DX.natAbs ≤ 4000) (hDY : DY.natAbs ≤ 4000) (hX : X.natAbs ≤ 32000000) (hY : Y.natAbs ≤ 200000000000) (hc : c.natAbs ≤ 32000000)
    (he : a * (X + DX * t) + b * (Y + DY * t) = c) :
    wrap64 (wrap64 (a * wrap64 (X + wrap64 (DX * t))) + wrap64 (b * wrap64 (Y + wrap64 (DY * t)))) = c := by
  have d1 := mul_abs hDX ht
  have d2 := mul_abs hDY ht
  rw [mul_small hDX ht (by decide), mul_small hDY ht (by decide), add_small hX d1 (by decide), add_small hY d2 (by decide), mul_small ha (add_abs hX d1) (by decide), mul_small hb (add_abs hY d2) (by decide), he]
  exact w64n (Nat.le_trans hc (by decide))
theorem least_Y {a b c X Y : Int} (h : a * X + b * Y = c) (hb : b ≠ 0) (ha : a.natAbs ≤ 4000) (hX : X.natAbs ≤ 32000000) (hc : c.natAbs ≤ 32000000) : Y.natAbs ≤ 200000000000 := by
  have e0 : b.natAbs * Y.natAbs = (c - a * X).natAbs := by rw [← Int.natAbs_mul]; congr 1; omega
  have e1 := mul_abs ha hX
  have e2 : 1 * Y.natAbs ≤ b.natAbs * Y.natAbs := Nat.mul_le_mul_right _ (by omega)
  have e3 : (c - a * X).natAbs ≤ 32000000 + 4000 * 32000000 := by clear e0 e2 h; omega
  rw [e0, Nat.one_mul] at e2
  exact Nat.le_trans e2 (Nat.le_trans e3 (by decide))
theorem All_sizes {a b c X DX Y DY : Int} (ha : a.natAbs ≤ 4000) (hb : b.natAbs ≤ 4000) (hcb : c.natAbs ≤ 32000000) (hz' : a ≠ 0 ∨ b ≠ 0) (hs : Sol a b c X DX Y DY true) :
    X.natAbs ≤ 32000000 ∧ DX.natAbs ≤ 4000 ∧ DY.natAbs ≤ 4000 ∧ Y.natAbs ≤ 200000000000 := by
  by_cases hb0 : b = 0
  · have ha0 : a ≠ 0 := by rcases hz' with h | h; exact h; exact absurd hb0 h
    have h := hs.line hb0 ha0 rfl
    rw [h.1, h.2.1, h.2.2.1]
    exact ⟨Nat.le_trans h.2.2.2 hcb, by decide, by decide, by decide⟩
  · have h := hs.least hb0 rfl
    have h1 := (hs.one hz' rfl).1
    have hDX : DX.natAbs ≤ 4000 := Nat.le_trans h.2.2.1 hb
    have hX : X.natAbs ≤ 32000000 := by have h2 := h.1; have h3 := h.2.1; clear h h1 ha hb hcb hz' hs hb0; omega
    exact ⟨hX, hDX, Nat.le_trans h.2.2.2.1 ha, least_Y h1 hb0 ha hX hcb⟩
set_option maxHeartbeats 2000000 in
theorem All_core {a b x y t c X DX Y DY : Int} (ha : a.natAbs ≤ 4000) (hb : b.natAbs ≤ 4000) (hx : x.natAbs ≤ 4000) (hy : y.natAbs ≤ 4000) (ht : t.natAbs ≤ 4000) (hc : a * x + b * y = c)
    (hs : Sol a b c X DX Y DY true) {k : Nat} (hk : 2147483890 < k) : biremelaw14_AffineAll.j0 k a b x y t c false X DX Y DY = some true := by
  have hcb : c.natAbs ≤ 32000000 := hc ▸ add_abs (mul_abs ha hx) (mul_abs hb hy)
  obtain ⟨k, rfl⟩ : ∃ q, k = q + 2 := ⟨k - 2, by omega⟩
  have st : biremelaw14_AffineAll.j0 (k + 2) a b x y t c false X DX Y DY = biremelaw14_AffineAll.j1 (k + 1) a b x y t c (decide (a = 0 ∧ b = 0)) X DX Y DY := by
    simp only [biremelaw14_AffineAll.j0]
    rw [if_neg (by simp)]
    by_cases h0 : a = 0
    · rw [if_pos h0]
      congr 1
      by_cases h1 : b = 0 <;> simp [h0, h1]
    · rw [if_neg h0]
      congr 1
      simp [h0]
  rw [st]
  simp only [biremelaw14_AffineAll.j1]
  by_cases hz : a = 0 ∧ b = 0
  · have h0 := hs.zero hz.1 hz.2
    rw [if_pos (by simpa using hz), if_pos (by simp; omega), alive_eval (by omega)]
    rfl
  · have hz' : a ≠ 0 ∨ b ≠ 0 := by omega
    rw [if_neg (by simpa using hz)]
    have h1 := hs.one hz' rfl
    -- sizes
    obtain ⟨hXb, hDX, hDY, hYb⟩ := All_sizes ha hb hcb hz' hs
    obtain ⟨q, hqx, hqy⟩ := hs.all hz' rfl hc
    have v7 := All_sums ha hb ht hDX hDY hXb hYb hcb (hs.each hz' rfl t)
    rw [v7, if_pos rfl]
    clear v7
    by_cases hd : DX = 0
    · have hb0 : b = 0 := by
        apply Classical.byContradiction
        intro hb0
        have := hs.least hb0 rfl; omega
      have hl := hs.line hb0 (by omega) rfl
      have hqq : q = y := by rw [hl.2.1, hl.2.2.1] at hqy; omega
      rw [if_pos hd, if_neg (by omega)]
      have hy0 : wrap64 y = y := w64n (Nat.le_trans hy (by decide))
      have hx0 : wrap64 x = x := w64n (Nat.le_trans hx (by decide))
      rw [hd, Int.zero_mul, Int.add_zero] at hqx
      rw [hl.2.1, hl.2.2.1, hd, ← hqx]
      simp only [Int.sub_zero, Int.zero_mul, Int.one_mul, Int.zero_add, Int.tdiv_one, hy0]
      rw [w64 (n := 0) (by omega), Int.add_zero, hx0]
      simp only [if_true]
      rw [alive_eval (by omega)]
      rfl
    · have hb0 : b ≠ 0 := by
        intro hb0
        have := hs.line hb0 (by omega) rfl; omega
      have hl := hs.least hb0 rfl
      rw [if_neg hd]
      have hdq : (x - X).tdiv DX = q := tdiv_of hd (by omega)
      have hxX : (x - X).natAbs ≤ 32004000 := by clear hqx hqy hdq; omega
      have hqb := tdiv_abs (x - X) DX
      rw [hdq] at hqb
      have hqc := Nat.le_trans hqb hxX
      have u1 : wrap64 (x - X) = x - X := w64n (Nat.le_trans hxX (by decide))
      have u2 : wrap64 q = q := w64n (Nat.le_trans hqc (by decide))
      have u3 : wrap64 (DX * q) = DX * q := mul_small hDX hqc (by decide)
      have u4 : wrap64 (DY * q) = DY * q := mul_small hDY hqc (by decide)
      rw [u1, hdq, u2, u3, u4, ← hqx, ← hqy, w64n (Nat.le_trans hx (by decide)), w64n (Nat.le_trans hy (by decide))]
      simp only [if_true]
      rw [if_pos hl.1, if_pos hl.2.1, alive_eval (by omega)]
      rfl
theorem All_pure (a0 a1 a2 a3 a4 : Int) {k : Nat} (hk : 2147483900 < k) : biremelaw14_AffineAll.f k a0 a1 a2 a3 a4 = some true := by
  obtain ⟨a, ea, ha⟩ := term_eval a0
  obtain ⟨b, eb, hb⟩ := term_eval a1
  obtain ⟨x, ex, hx⟩ := term_eval a2
  obtain ⟨y, ey, hy⟩ := term_eval a3
  obtain ⟨t, et, ht⟩ := term_eval a4
  have m1 := mul_abs ha hx
  have m2 := mul_abs hb hy
  have m3 := add_abs m1 m2
  obtain ⟨X, DX, Y, DY, ok, h1, s1⟩ := Solve_eval (a := a) (b := b) (c := a * x + b * y) (Nat.le_trans ha (by decide)) (Nat.le_trans hb (by decide)) (Nat.le_trans m3 (by decide))
  have hok : ok = true := by
    cases ho : ok
    · subst ho
      by_cases hz : a = 0 ∧ b = 0
      · have := (s1.zero hz.1 hz.2).2.2.2.2.mpr (by rw [hz.1, hz.2]; omega)
        cases this
      · exact absurd rfl ((s1.no (by omega) rfl).2.2.2.2 x y)
    · rfl
  subst hok
  unfold biremelaw14_AffineAll.f
  rw [ea, eb, ex, ey, et]
  simp only [Option.bind_some]
  rw [mul_small ha hx (by decide), mul_small hb hy (by decide), add_small m1 m2 (by decide), h1 k (by omega)]
  simp only [Option.bind_some]
  rw [if_pos trivial]
  exact All_core ha hb hx hy ht rfl s1 (by omega)


end Go.Proofs.Ytiedehjmhlgicaa.PAll.Aff
