/- Plain mathematics of the tokens of a text, second part: blanks and remarks piece by piece, the longest sign. -/
import Derived.Test.YtpccakfbmbkmlaaM1
namespace Go.Proofs.Ytpccakfbmbkmlaa.Tk
set_option linter.unusedVariables false
set_option linter.unusedSimpArgs false
theorem skip_dropBlank (l : B) : skip (l.dropWhile blank) = skip l := by
  induction l with
  | nil => rfl
  | cons c r ih =>
    by_cases h : blank c = true
    · rw [List.dropWhile_cons, if_pos h, skip_blank h]; exact ih
    · rw [List.dropWhile_cons, if_neg h]
theorem isPrefix2 (a b : UInt8) (l : B) : [a, b].isPrefixOf l = true ↔ ∃ r, l = a :: b :: r := by
  rw [List.isPrefixOf_iff_prefix]
  constructor
  · rintro ⟨t, ht⟩; exact ⟨t, ht.symm⟩
  · rintro ⟨r, rfl⟩; exact ⟨r, rfl⟩
theorem blank47 : blank 47 ≠ true := by decide
theorem skip_remark {l : B} (h : [47, 47].isPrefixOf l = true) : skip l = skip (l.dropWhile (· != 10)) := by
  obtain ⟨r, rfl⟩ := (isPrefix2 47 47 l).mp h
  exact skip_rem blank47 ⟨rfl, rfl⟩
theorem skip_same {l : B} (h : ∀ c r, l = c :: r → blank c ≠ true) (h2 : [47, 47].isPrefixOf l ≠ true) : skip l = l := by
  cases l with
  | nil => rfl
  | cons c r =>
    refine skip_stop (h c r rfl) ?_
    rintro ⟨rfl, h3⟩
    apply h2
    rw [isPrefix2]
    cases r with
    | nil => simp at h3
    | cons d r => simp at h3; subst h3; exact ⟨r, rfl⟩
theorem dropWhile_head (p : UInt8 → Bool) (l : B) : ∀ c r, l.dropWhile p = c :: r → p c ≠ true := by
  induction l with
  | nil => intro c r h; cases h
  | cons x l ih =>
    intro c r h
    rw [List.dropWhile_cons] at h
    by_cases hx : p x = true
    · rw [if_pos hx] at h; exact ih c r h
    · rw [if_neg hx] at h
      obtain ⟨rfl, rfl⟩ := List.cons.inj h
      exact hx
theorem drop_takeWhile (p : UInt8 → Bool) (l : B) : l.drop (l.takeWhile p).length = l.dropWhile p := by
  conv => lhs; rw [← List.takeWhile_append_dropWhile (p := p) (l := l)]
  induction l with
  | nil => rfl
  | cons c r ih =>
    by_cases h : p c = true
    · simp only [List.takeWhile_cons, List.dropWhile_cons, if_pos h, List.length_cons, List.cons_append, List.drop_succ_cons]; exact ih
    · simp [List.takeWhile_cons, List.dropWhile_cons, if_neg h]
theorem take_takeWhile (p : UInt8 → Bool) (l : B) : l.take (l.takeWhile p).length = l.takeWhile p := by
  induction l with
  | nil => rfl
  | cons c r ih =>
    by_cases h : p c = true
    · simp only [List.takeWhile_cons, if_pos h, List.length_cons, List.take_succ_cons, ih]
    · simp [List.takeWhile_cons, if_neg h]
theorem remark_two {l : B} (h : [47, 47].isPrefixOf l = true) : 2 ≤ (l.takeWhile (· != 10)).length := by
  obtain ⟨r, rfl⟩ := (isPrefix2 47 47 l).mp h
  have e : ((47 : UInt8) != 10) = true := by decide
  simp [List.takeWhile_cons, e]

/-! ### The longest sign -/
/-- The longest of a list's signs with which a text begins. -/
def bestOf (l : B) (xs : List B) (best : B) : B := xs.foldl (fun b x => if x.isPrefixOf l = true ∧ b.length < x.length then x else b) best
theorem bestOf_cons (l : B) (x : B) (xs : List B) (best : B) : bestOf l (x :: xs) best = bestOf l xs (if x.isPrefixOf l = true ∧ best.length < x.length then x else best) := rfl
theorem bestOf_spec (l : B) (S : List B) : ∀ (xs : List B) (best : B), (∀ x ∈ xs, x ∈ S) → (best = [] ∨ best ∈ S) → best.isPrefixOf l = true →
    (bestOf l xs best = [] ∨ bestOf l xs best ∈ S) ∧ (bestOf l xs best).isPrefixOf l = true ∧ best.length ≤ (bestOf l xs best).length ∧ ∀ x ∈ xs, x.isPrefixOf l = true → x.length ≤ (bestOf l xs best).length := by
  intro xs
  induction xs with
  | nil => intro best _ h1 h2; exact ⟨h1, h2, Nat.le_refl _, fun x hx => by cases hx⟩
  | cons x xs ih =>
    intro best hS h1 h2
    rw [bestOf_cons]
    by_cases h : x.isPrefixOf l = true ∧ best.length < x.length
    · rw [if_pos h]
      obtain ⟨a, b, c, d⟩ := ih x (fun y hy => hS y (List.mem_cons_of_mem _ hy)) (.inr (hS x (List.mem_cons_self ..))) h.1
      refine ⟨a, b, by omega, ?_⟩
      intro y hy hp
      rcases List.mem_cons.mp hy with rfl | hy
      · exact c
      · exact d y hy hp
    · rw [if_neg h]
      obtain ⟨a, b, c, d⟩ := ih best (fun y hy => hS y (List.mem_cons_of_mem _ hy)) h1 h2
      refine ⟨a, b, c, ?_⟩
      intro y hy hp
      rcases List.mem_cons.mp hy with rfl | hy
      · have : ¬ best.length < y.length := fun e => h ⟨hp, e⟩
        omega
      · exact d y hy hp
theorem sign_lengths : ∀ x ∈ signL, x.length = 1 ∨ x.length = 2 := by decide
theorem prefix_take {x l : B} (h : x.isPrefixOf l = true) : x = l.take x.length := List.prefix_iff_eq_take.mp (List.isPrefixOf_iff_prefix.mp h)
theorem take_isPrefix (l : B) (n : Nat) : (l.take n).isPrefixOf l = true := List.isPrefixOf_iff_prefix.mpr (List.take_prefix _ _)
theorem best_sign (l : B) : bestOf l signL [] = l.take (signLen l) := by
  obtain ⟨h1, h2, _, h4⟩ := bestOf_spec l signL signL [] (fun _ h => h) (.inl rfl) (by cases l <;> rfl)
  have e := prefix_take h2
  have hle : (bestOf l signL []).length ≤ l.length := (List.isPrefixOf_iff_prefix.mp h2).length_le
  have hlen : bestOf l signL [] = [] ∨ (bestOf l signL []).length = 1 ∨ (bestOf l signL []).length = 2 := h1.imp id (sign_lengths _)
  have hmem : (bestOf l signL []).length ≠ 0 → bestOf l signL [] ∈ signL := fun hn => h1.resolve_left (fun e => hn (by rw [e]; rfl))
  unfold signLen
  by_cases c2 : 2 ≤ l.length ∧ signL.contains (l.take 2) = true
  · rw [if_pos c2]
    have m2 : l.take 2 ∈ signL := List.contains_iff_mem.mp c2.2
    have := h4 _ m2 (take_isPrefix l 2)
    rw [List.length_take] at this
    have e2 : (bestOf l signL []).length = 2 := by
      rcases hlen with h | h | h
      · rw [h, List.length_nil] at this; omega
      · omega
      · exact h
    rw [← e2]; exact e
  · rw [if_neg c2]
    have n2 : (bestOf l signL []).length ≠ 2 := by
      intro e2
      apply c2
      refine ⟨by omega, ?_⟩
      rw [← e2, ← e]
      exact List.contains_iff_mem.mpr (hmem (by omega))
    by_cases c1 : 1 ≤ l.length ∧ signL.contains (l.take 1) = true
    · rw [if_pos c1]
      have m1 : l.take 1 ∈ signL := List.contains_iff_mem.mp c1.2
      have := h4 _ m1 (take_isPrefix l 1)
      rw [List.length_take] at this
      have e1 : (bestOf l signL []).length = 1 := by
        rcases hlen with h | h | h
        · rw [h, List.length_nil] at this; omega
        · exact h
        · omega
      rw [← e1]; exact e
    · rw [if_neg c1]
      rcases hlen with h | h | h
      · rw [h]; rfl
      · exfalso
        apply c1
        refine ⟨by omega, ?_⟩
        rw [← h, ← e]
        exact List.contains_iff_mem.mpr (hmem (by omega))
      · exact absurd h n2
/-- A token's text, and what it has in common with the definitions of the program and of the reference. -/
theorem next_letter {c : UInt8} {r : B} (h : letter c = true) : next (c :: r) = (if wordL.contains ((c :: r).takeWhile nameC) = true then 2 else 1, ((c :: r).takeWhile nameC).length) := by rw [next_cons, if_pos h]
theorem next_digit {c : UInt8} {r : B} (h : letter c ≠ true) (h2 : digit c = true) : next (c :: r) = (3, ((c :: r).takeWhile digit).length) := by rw [next_cons, if_neg h, if_pos h2]
theorem next_sign {c : UInt8} {r : B} (h : letter c ≠ true) (h2 : digit c ≠ true) : next (c :: r) = if signLen (c :: r) = 0 then (0, 0) else (4, signLen (c :: r)) := by rw [next_cons, if_neg h, if_neg h2]
end Go.Proofs.Ytpccakfbmbkmlaa.Tk
