/- Plain mathematics of the tokens of a text: how blanks are passed over, which token comes next, how a text is gone through. -/
import Derived.Test.YtpccakfbmbkmlaaD
namespace Go.Proofs.Ytpccakfbmbkmlaa.Tk
set_option linter.unusedVariables false
set_option linter.unusedSimpArgs false

theorem length_dropWhile_le (p : UInt8 → Bool) (l : B) : (l.dropWhile p).length ≤ l.length := (List.dropWhile_sublist p).length_le
theorem length_takeWhile_le (p : UInt8 → Bool) (l : B) : (l.takeWhile p).length ≤ l.length := (List.takeWhile_sublist p).length_le
theorem rem_shorter {c : UInt8} {r : B} (h : c = 47) : ((c :: r).dropWhile (· != 10)).length ≤ r.length := by
  subst h
  have e : ((47 : UInt8) != 10) = true := by decide
  rw [List.dropWhile_cons, if_pos e]
  exact length_dropWhile_le _ _
/-- Steps beyond the length change nothing. -/
theorem skipF_enough : ∀ (n m : Nat) (l : B), l.length ≤ n → l.length ≤ m → skipF n l = skipF m l := by
  intro n
  induction n with
  | zero =>
    intro m l hn hm
    have : l = [] := List.length_eq_zero_iff.mp (by omega)
    subst this
    cases m <;> rfl
  | succ n ih =>
    intro m l hn hm
    cases l with
    | nil => cases m <;> rfl
    | cons c r =>
      cases m with
      | zero => simp at hm
      | succ m =>
        simp only [List.length_cons] at hn hm
        simp only [skipF]
        by_cases h1 : blank c = true
        · rw [if_pos h1, if_pos h1]; exact ih m r (by omega) (by omega)
        · rw [if_neg h1, if_neg h1]
          by_cases h2 : c = 47 ∧ r.head? = some 47
          · rw [if_pos h2, if_pos h2]
            have := rem_shorter (r := r) h2.1
            exact ih m _ (by omega) (by omega)
          · rw [if_neg h2, if_neg h2]
theorem skip_nil : skip [] = [] := rfl
theorem skip_blank {c : UInt8} {r : B} (h : blank c = true) : skip (c :: r) = skip r := by
  show skipF (r.length + 1) (c :: r) = skipF r.length r
  rw [skipF, if_pos h]
theorem skip_rem {c : UInt8} {r : B} (h : blank c ≠ true) (h2 : c = 47 ∧ r.head? = some 47) : skip (c :: r) = skip ((c :: r).dropWhile (· != 10)) := by
  show skipF (r.length + 1) (c :: r) = _
  rw [skipF, if_neg h, if_pos h2]
  have := rem_shorter (r := r) h2.1
  exact skipF_enough _ _ _ this (Nat.le_refl _)
theorem skip_stop {c : UInt8} {r : B} (h : blank c ≠ true) (h2 : ¬ (c = 47 ∧ r.head? = some 47)) : skip (c :: r) = c :: r := by
  show skipF (r.length + 1) (c :: r) = _
  rw [skipF, if_neg h, if_neg h2]
/-- What is to be shown of every text, step by step. -/
theorem skip_ind {P : B → Prop} (h0 : P []) (h1 : ∀ c r, blank c = true → P r → P (c :: r)) (h2 : ∀ c r, blank c ≠ true → (c = 47 ∧ r.head? = some 47) → P ((c :: r).dropWhile (· != 10)) → P (c :: r))
    (h3 : ∀ c r, blank c ≠ true → ¬ (c = 47 ∧ r.head? = some 47) → P (c :: r)) : ∀ l, P l := by
  intro l
  generalize hn : l.length = n
  induction n using Nat.strongRecOn generalizing l with
  | _ n ih =>
    cases l with
    | nil => exact h0
    | cons c r =>
      by_cases b : blank c = true
      · exact h1 c r b (ih r.length (by rw [← hn]; simp) r rfl)
      · by_cases b2 : c = 47 ∧ r.head? = some 47
        · have := rem_shorter (r := r) b2.1
          exact h2 c r b b2 (ih _ (by rw [← hn, List.length_cons]; omega) _ rfl)
        · exact h3 c r b b2
/-- What is left is an end of the text. -/
theorem skip_suffix (l : B) : skip l <:+ l := by
  induction l using skip_ind with
  | h0 => exact List.suffix_refl _
  | h1 c r h ih => rw [skip_blank h]; exact ih.trans (List.suffix_cons _ _)
  | h2 c r h h2 ih => rw [skip_rem h h2]; exact ih.trans (List.dropWhile_suffix _)
  | h3 c r h h2 => rw [skip_stop h h2]; exact List.suffix_refl _
theorem skip_le (l : B) : (skip l).length ≤ l.length := (skip_suffix l).length_le
theorem skip_drop (l : B) : skip l = l.drop (l.length - (skip l).length) := by
  obtain ⟨p, hp⟩ := skip_suffix l
  have h1 : l.length = p.length + (skip l).length := by rw [← List.length_append, hp]
  have h2 : l.drop (l.length - (skip l).length) = (p ++ skip l).drop p.length := by rw [hp]; congr 1; omega
  rw [h2, List.drop_left]
/-- What is left begins with what is passed over no more. -/
theorem skip_head (l : B) : skip l = [] ∨ ∃ c r, skip l = c :: r ∧ blank c ≠ true ∧ ¬ (c = 47 ∧ r.head? = some 47) := by
  induction l using skip_ind with
  | h0 => exact .inl rfl
  | h1 c r h ih => rw [skip_blank h]; exact ih
  | h2 c r h h2 ih => rw [skip_rem h h2]; exact ih
  | h3 c r h h2 => exact .inr ⟨c, r, skip_stop h h2, h, h2⟩
theorem skip_skip (l : B) : skip (skip l) = skip l := by
  rcases skip_head l with h | ⟨c, r, h, h1, h2⟩
  · rw [h]; rfl
  · rw [h, skip_stop h1 h2]

/-! ### The next token -/
theorem signLen_le2 (l : B) : signLen l ≤ 2 := by
  unfold signLen
  split
  · omega
  · split <;> omega
theorem next_cons (c : UInt8) (r : B) : next (c :: r) = if letter c = true then (if wordL.contains ((c :: r).takeWhile nameC) = true then 2 else 1, ((c :: r).takeWhile nameC).length)
    else if digit c = true then (3, ((c :: r).takeWhile digit).length)
    else if signLen (c :: r) = 0 then (0, 0) else (4, signLen (c :: r)) := rfl
theorem signLen_le (l : B) : signLen l ≤ l.length := by
  unfold signLen
  split
  · omega
  · split <;> omega
theorem next_le (l : B) : (next l).2 ≤ l.length := by
  cases l with
  | nil => exact Nat.le_refl _
  | cons c r =>
    rw [next_cons]
    by_cases h1 : letter c = true
    · rw [if_pos h1]; exact length_takeWhile_le _ _
    · rw [if_neg h1]
      by_cases h2 : digit c = true
      · rw [if_pos h2]; exact length_takeWhile_le _ _
      · rw [if_neg h2]
        by_cases h3 : signLen (c :: r) = 0
        · rw [if_pos h3]; exact Nat.zero_le _
        · rw [if_neg h3]; exact signLen_le _
theorem letter_nameC {c : UInt8} (h : letter c = true) : nameC c = true := by unfold nameC; rw [h]; rfl
theorem digit_nameC {c : UInt8} (h : digit c = true) : nameC c = true := by unfold nameC; rw [h]; cases letter c <;> rfl
/-- No token: kind 0; a token: a kind from 1 to 4. -/
theorem next_kind (l : B) : ((next l).2 = 0 ∧ (next l).1 = 0) ∨ (0 < (next l).2 ∧ 1 ≤ (next l).1 ∧ (next l).1 ≤ 4) := by
  cases l with
  | nil => exact .inl ⟨rfl, rfl⟩
  | cons c r =>
    rw [next_cons]
    by_cases h1 : letter c = true
    · rw [if_pos h1]
      right
      have e : 0 < ((c :: r).takeWhile nameC).length := by rw [List.takeWhile_cons, if_pos (letter_nameC h1)]; simp
      refine ⟨e, ?_⟩
      dsimp only
      split <;> exact ⟨by decide, by decide⟩
    · rw [if_neg h1]
      by_cases h2 : digit c = true
      · rw [if_pos h2]
        right
        have e : 0 < ((c :: r).takeWhile digit).length := by rw [List.takeWhile_cons, if_pos h2]; simp
        exact ⟨e, by show (1 : Int) ≤ 3; decide, by show (3 : Int) ≤ 4; decide⟩
      · rw [if_neg h2]
        by_cases h3 : signLen (c :: r) = 0
        · rw [if_pos h3]; exact .inl ⟨rfl, rfl⟩
        · rw [if_neg h3]; exact .inr ⟨Nat.pos_of_ne_zero h3, by show (1 : Int) ≤ 4; decide, by show (4 : Int) ≤ 4; decide⟩

/-! ### All tokens -/
theorem scanF_enough : ∀ (n m : Nat) (l : B) (a : Nat), l.length < n → l.length < m → scanF n l a = scanF m l a := by
  intro n
  induction n with
  | zero => intro m l a h; omega
  | succ n ih =>
    intro m l a hn hm
    cases m with
    | zero => omega
    | succ m =>
      simp only [scanF]
      by_cases h1 : skip l = []
      · rw [if_pos h1, if_pos h1]
      · rw [if_neg h1, if_neg h1]
        by_cases h2 : (next (skip l)).2 = 0
        · rw [if_pos h2, if_pos h2]
        · rw [if_neg h2, if_neg h2]
          have hs := skip_le l
          have hl := next_le (skip l)
          have e : ((skip l).drop (next (skip l)).2).length < l.length := by rw [List.length_drop]; omega
          rw [ih m _ _ (by omega) (by omega)]
theorem scan_nil {l : B} {a : Nat} (h : skip l = []) : scan l a = ([], none) := by
  unfold scan; rw [scanF, if_pos h]
theorem scan_bad {l : B} {a : Nat} (h : skip l ≠ []) (h2 : (next (skip l)).2 = 0) : scan l a = ([], some (a + (l.length - (skip l).length))) := by
  unfold scan; rw [scanF, if_neg h, if_pos h2]
theorem scan_tok {l : B} {a : Nat} (h : skip l ≠ []) (h2 : (next (skip l)).2 ≠ 0) :
    scan l a = (⟨(next (skip l)).1, (skip l).take (next (skip l)).2, a + (l.length - (skip l).length)⟩ :: (scan ((skip l).drop (next (skip l)).2) (a + (l.length - (skip l).length) + (next (skip l)).2)).1,
      (scan ((skip l).drop (next (skip l)).2) (a + (l.length - (skip l).length) + (next (skip l)).2)).2) := by
  unfold scan
  rw [scanF, if_neg h, if_neg h2]
  have hs := skip_le l
  have hl := next_le (skip l)
  have e : ((skip l).drop (next (skip l)).2).length < l.length := by rw [List.length_drop]; omega
  dsimp only
  rw [scanF_enough l.length (((skip l).drop (next (skip l)).2).length + 1) _ _ e (by omega)]
/-- What is to be shown of every text, token by token. -/
theorem scan_ind {P : B → Nat → Prop} (h0 : ∀ l a, skip l = [] → P l a) (h1 : ∀ l a, skip l ≠ [] → (next (skip l)).2 = 0 → P l a)
    (h2 : ∀ l a, skip l ≠ [] → (next (skip l)).2 ≠ 0 → P ((skip l).drop (next (skip l)).2) (a + (l.length - (skip l).length) + (next (skip l)).2) → P l a) : ∀ l a, P l a := by
  intro l a
  generalize hn : l.length = n
  induction n using Nat.strongRecOn generalizing l a with
  | _ n ih =>
    by_cases b : skip l = []
    · exact h0 l a b
    · by_cases b2 : (next (skip l)).2 = 0
      · exact h1 l a b b2
      · have hs := skip_le l
        have hl := next_le (skip l)
        exact h2 l a b b2 (ih _ (by rw [← hn, List.length_drop]; omega) _ _ rfl)
end Go.Proofs.Ytpccakfbmbkmlaa.Tk
