/- The laws of gcd, of solve and of no solution, as plain mathematics. -/
import Derived.Test.YtiedehjmhlgicaaM2
set_option maxHeartbeats 2000000
set_option linter.unusedVariables false
set_option linter.unusedSimpArgs false
namespace Go.Proofs.Ytiedehjmhlgicaa.PAll.Aff
open Go.RowKit Go.Proofs.YtiedehjmhlgicaaW.PrintWords Go.Proofs.YtiedehjmhlgicaaW.PrintLast Go.Proofs.YtiedehjmhlgicaaW.PrintMore
theorem u64_wrap (a : Int) : IntKind.u64.wrap a = a % 18446744073709551616 := rfl
theorem Gcds_pure (a b : Int) {k : Nat} (hk : 2147483900 < k) : biremelaw14_AffineGcds.f k a b = some true := by
  unfold biremelaw14_AffineGcds.f
  by_cases hs : a.natAbs ≤ 2147483648 ∧ b.natAbs ≤ 2147483648
  · obtain ⟨g, x, y, h1, s1⟩ := Gcd_eval hs.1 hs.2
    obtain ⟨g', x', y', h2, s2⟩ := refGcd_eval hs.1 hs.2
    obtain ⟨rfl, rfl, rfl⟩ := s1.unique s2
    have h3 : [a, b].all inb = true := by simp [inb]; omega
    rw [h1 k (by omega)]
    simp only [Option.bind_some]
    rw [Within_eval (by simp) (by omega), h3]
    simp only [Option.bind_some]
    rw [if_pos trivial, h2 k (by omega)]
    simp only [Option.bind_some]
    rw [if_pos trivial, if_pos trivial, if_pos trivial, if_pos trivial, alive_eval (by omega)]
    rfl
  · have h3 : [a, b].all inb = false := by simp [inb]; omega
    rw [Gcd_limit hs (by omega)]
    simp only [Option.bind_some]
    rw [Within_eval (by simp) (by omega), h3]
    simp only [Option.bind_some]
    rw [if_neg (by simp), if_pos trivial, if_pos trivial, if_pos trivial, if_pos trivial, alive_eval (by omega)]
    rfl
theorem mul_small {a b : Int} {A B : Nat} (ha : a.natAbs ≤ A) (hb : b.natAbs ≤ B) (h : A * B ≤ 9223372036854775807) : wrap64 (a * b) = a * b := w64n (Nat.le_trans (mul_abs ha hb) h)
theorem add_small {a b : Int} {A B : Nat} (ha : a.natAbs ≤ A) (hb : b.natAbs ≤ B) (h : A + B ≤ 9223372036854775807) : wrap64 (a + b) = a + b := w64n (by omega)
theorem add_abs {a b : Int} {A B : Nat} (ha : a.natAbs ≤ A) (hb : b.natAbs ≤ B) : (a + b).natAbs ≤ A + B := by omega
theorem GcdOf.sizes {a b g x y : Int} (h : GcdOf a b g x y) (ha : a.natAbs ≤ 2147483648) (hb : b.natAbs ≤ 2147483648) (_hz : ¬ (a = 0 ∧ b = 0)) : x.natAbs ≤ 2147483648 ∧ y.natAbs ≤ 2147483650 := by
  by_cases hb0 : b = 0
  · have := h.zero hb0
    rw [this.1, this.2]
    refine ⟨?_, by decide⟩
    split
    · decide
    · split <;> decide
  · obtain ⟨h0, m, hm, h1⟩ := h.least hb0
    have hg := h.bez.g_pos (.inr hb0)
    have hmb : m ≤ b.natAbs := by
      have : 1 * m ≤ g * m := Int.mul_le_mul_of_nonneg_right (by omega) (by omega)
      omega
    have := bez_bound h.bez hb0 (by omega)
    omega
theorem Divides_pure (a b : Int) {k : Nat} (hk : 2147483900 < k) : biremelaw14_AffineDivides.f k a b = some true := by
  unfold biremelaw14_AffineDivides.f
  by_cases hs : a.natAbs ≤ 2147483648 ∧ b.natAbs ≤ 2147483648
  · obtain ⟨g, x, y, h1, s1⟩ := Gcd_eval hs.1 hs.2
    obtain ⟨g', x', y', h2, s2⟩ := Gcd_eval hs.2 hs.1
    have hgg := s1.bez.unique s2.bez.swap
    subst hgg
    rw [h1 k (by omega)]
    simp only [Option.bind_some]
    rw [if_pos trivial]
    obtain ⟨k, rfl⟩ : ∃ q, k = q + 1 := ⟨k - 1, by omega⟩
    by_cases hz : a = 0 ∧ b = 0
    · obtain ⟨rfl, rfl⟩ := hz
      have hg0 : g = 0 := by have := s1.bez.made; rw [Int.zero_mul, Int.zero_mul] at this; omega
      have hx := s1.zero rfl
      rw [if_pos rfl]
      simp only [biremelaw14_AffineDivides.j0]
      rw [if_pos (by rfl), if_pos hg0, if_pos (by rw [hx.1]; rfl), if_pos hx.2, alive_eval (by omega)]
      rfl
    · have hsz := s1.sizes hs.1 hs.2 hz
      have hz' : a ≠ 0 ∨ b ≠ 0 := by omega
      have hg := s1.bez.g_pos hz'
      have e : ∀ q : Bool, q = false → biremelaw14_AffineDivides.j0 (k + 1) a b g x y q = some true := by
        intro q hq
        subst hq
        simp only [biremelaw14_AffineDivides.j0]
        rw [if_neg (by simp), h2 k (by omega)]
        simp only [Option.bind_some]
        rw [if_pos (by omega), if_neg (by omega), if_pos (tmod_dvd.mpr s1.bez.left), if_pos (tmod_dvd.mpr s1.bez.right)]
        have v1 : wrap64 (a * x) = a * x := mul_small hs.1 hsz.1 (by decide)
        have v2 : wrap64 (b * y) = b * y := mul_small hs.2 hsz.2 (by decide)
        have v3 : wrap64 (a * x + b * y) = g := by
          rw [s1.bez.made]
          refine w64n ?_
          rcases hz' with h | h
          · exact Nat.le_trans (dvd_le s1.bez.left h) (Nat.le_trans hs.1 (by decide))
          · exact Nat.le_trans (dvd_le s1.bez.right h) (Nat.le_trans hs.2 (by decide))
        rw [v1, v2, v3]
        simp only [if_true]
        rw [alive_eval (by omega)]
        rfl
      by_cases ha : a = 0
      · rw [if_pos ha]; exact e _ (by simp; omega)
      · rw [if_neg ha]; exact e _ rfl
  · rw [Gcd_limit hs (by omega)]
    simp only [Option.bind_some]
    rw [if_neg (by decide), if_pos trivial, if_pos trivial, alive_eval (by omega)]
    rfl
theorem Solves_pure (a b c : Int) {k : Nat} (hk : 2147483900 < k) : biremelaw14_AffineSolves.f k a b c = some true := by
  unfold biremelaw14_AffineSolves.f
  by_cases hs : a.natAbs ≤ 2147483648 ∧ b.natAbs ≤ 2147483648 ∧ c.natAbs ≤ 2147483648
  · obtain ⟨X, DX, Y, DY, ok, h1, s1⟩ := Solve_eval hs.1 hs.2.1 hs.2.2
    obtain ⟨X', DX', Y', DY', ok', h2, s2⟩ := refSolve_eval hs.1 hs.2.1 (by omega : c.natAbs ≤ 4294967296)
    obtain ⟨rfl, rfl, rfl, rfl, rfl⟩ := s1.unique s2
    have h3 : [a, b, c].all inb = true := by simp [inb]; omega
    rw [h1 k (by omega)]
    simp only [Option.bind_some]
    rw [Within_eval (by simp) (by omega), h3]
    simp only [Option.bind_some]
    rw [if_pos trivial, h2 k (by omega)]
    simp only [Option.bind_some]
    rw [if_pos (by simp), if_pos (by simp), if_pos trivial, alive_eval (by omega)]
    rfl
  · have h3 : [a, b, c].all inb = false := by simp [inb]; omega
    rw [Solve_limit hs (by omega)]
    simp only [Option.bind_some]
    rw [Within_eval (by simp) (by omega), h3]
    simp only [Option.bind_some]
    rw [if_neg (by simp), if_pos (by simp), if_neg (by simp), if_pos trivial, alive_eval (by omega)]
    rfl
theorem mod_eval {a m : Int} (hm : 0 < m) (hm' : m ≤ 1000000) : ∃ z, biremelaw14_mod.f a m = some z ∧ 0 ≤ z ∧ z < m := by
  unfold biremelaw14_mod.f
  rw [u64_wrap]
  have h1 := tmod_spec (a := a % 18446744073709551616) (b := m) (by omega)
  rw [if_neg (by omega), w64 (by omega)]
  exact ⟨_, rfl, by omega, by omega⟩
theorem term_eval (a : Int) : ∃ z, biremelaw14_term.f a = some z ∧ z.natAbs ≤ 4000 := by
  obtain ⟨z, h, h0, h1⟩ := mod_eval (a := a) (m := 8001) (by decide) (by decide)
  unfold biremelaw14_term.f
  rw [h]
  simp only [Option.bind_some]
  rw [w64 (by omega)]
  exact ⟨_, rfl, by omega⟩
theorem None_inner (a b c : Int) (ok : Bool) (ha : a.natAbs ≤ 30) (hb : b.natAbs ≤ 30) (hno : ok = false → ∀ i j, a * i + b * j ≠ c) (d : Nat) : ∀ (k : Nat) (x y : Int) (found : Bool), x.natAbs ≤ 40 → -40 ≤ y → 41 - y = d → d < k → (ok = false → found = false) →
    ∃ found', biremelaw14_AffineNone.l1 k a b c ok found x y = biremelaw14_AffineNone.l0 (k - d - 1) a b c ok found' (x + 1) ∧ (ok = false → found' = false) := by
  induction d with
  | zero =>
    intro k x y found hx hy hd hk hf
    obtain ⟨k, rfl⟩ : ∃ q, k = q + 1 := ⟨k - 1, by omega⟩
    refine ⟨found, ?_, hf⟩
    simp only [biremelaw14_AffineNone.l1]
    rw [if_neg (by omega), w64 (n := x + 1) (by omega)]
    rfl
  | succ d ih =>
    intro k x y found hx hy hd hk hf
    obtain ⟨k, rfl⟩ : ∃ q, k = q + 1 := ⟨k - 1, by omega⟩
    simp only [biremelaw14_AffineNone.l1]
    have m1 := mul_abs ha hx
    have m2 := mul_abs hb (by omega : y.natAbs ≤ 40)
    rw [if_pos (by omega), w64 (n := y + 1) (by omega), w64 (n := a * x) (by omega), w64 (n := b * y) (by omega), w64 (n := a * x + b * y) (by omega)]
    by_cases hfd : found = true
    · rw [if_pos hfd]
      obtain ⟨f', h1, h2⟩ := ih k x (y + 1) true hx (by omega) (by omega) (by omega) (fun h => by rw [hf h] at hfd; cases hfd)
      exact ⟨f', by rw [h1]; congr 1; omega, h2⟩
    · rw [if_neg hfd]
      obtain ⟨f', h1, h2⟩ := ih k x (y + 1) (a * x + b * y == c) hx (by omega) (by omega) (by omega) (fun h => by simpa using hno h x y)
      exact ⟨f', by rw [h1]; congr 1; omega, h2⟩
theorem None_outer (a b c : Int) (ok : Bool) (ha : a.natAbs ≤ 30) (hb : b.natAbs ≤ 30) (hno : ok = false → ∀ i j, a * i + b * j ≠ c) (d : Nat) : ∀ (k : Nat) (x : Int) (found : Bool), -40 ≤ x → 41 - x = d → 2147483820 + 100 * d < k → (ok = false → found = false) →
    biremelaw14_AffineNone.l0 k a b c ok found x = some true := by
  induction d with
  | zero =>
    intro k x found hx hd hk hf
    obtain ⟨k, rfl⟩ : ∃ q, k = q + 1 := ⟨k - 1, by omega⟩
    simp only [biremelaw14_AffineNone.l0]
    rw [if_neg (by omega)]
    cases ho : ok
    · rw [if_neg (by simp), hf ho, if_neg (by simp), alive_eval (by omega)]; rfl
    · rw [if_pos rfl, alive_eval (by omega)]; rfl
  | succ d ih =>
    intro k x found hx hd hk hf
    obtain ⟨k, rfl⟩ : ∃ q, k = q + 1 := ⟨k - 1, by omega⟩
    simp only [biremelaw14_AffineNone.l0]
    rw [if_pos (by omega)]
    obtain ⟨f', h1, h2⟩ := None_inner a b c ok ha hb hno 81 k x (-40) found (by omega) (by omega) (by omega) (by omega) hf
    rw [h1]
    exact ih _ (x + 1) f' (by omega) (by omega) (by omega) h2
theorem None_pure (a0 a1 a2 : Int) {k : Nat} (hk : 2147500000 < k) : biremelaw14_AffineNone.f k a0 a1 a2 = some true := by
  obtain ⟨u, eu, u0, u1⟩ := mod_eval (a := a0) (m := 61) (by decide) (by decide)
  obtain ⟨v, ev, v0, v1⟩ := mod_eval (a := a1) (m := 61) (by decide) (by decide)
  obtain ⟨z, ez, z0, z1⟩ := mod_eval (a := a2) (m := 61) (by decide) (by decide)
  obtain ⟨X, DX, Y, DY, ok, h1, s1⟩ := Solve_eval (a := u - 30) (b := v - 30) (c := z - 30) (by omega) (by omega) (by omega)
  unfold biremelaw14_AffineNone.f
  rw [eu, ev, ez]
  simp only [Option.bind_some]
  rw [w64 (n := u - 30) (by omega), w64 (n := v - 30) (by omega), w64 (n := z - 30) (by omega), h1 k (by omega)]
  simp only [Option.bind_some]
  rw [if_pos trivial]
  refine None_outer _ _ _ ok (by omega) (by omega) (fun ho i j e => ?_) 81 k (-40) false (by omega) (by omega) (by omega) (fun _ => rfl)
  by_cases hz : u - 30 = 0 ∧ v - 30 = 0
  · have h2 := (s1.zero hz.1 hz.2).2.2.2.2
    rw [hz.1, hz.2, Int.zero_mul, Int.zero_mul] at e
    have := h2.mpr (by omega)
    rw [ho] at this; cases this
  · exact (s1.no (by omega) ho).2.2.2.2 i j e

end Go.Proofs.Ytiedehjmhlgicaa.PAll.Aff
