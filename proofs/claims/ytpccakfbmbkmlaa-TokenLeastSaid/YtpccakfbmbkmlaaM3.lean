/- Plain mathematics of the tokens of a text, third part: texts side by side, and offsets moved. -/
import Derived.Test.YtpccakfbmbkmlaaM2
namespace Go.Proofs.Ytpccakfbmbkmlaa.Tk
set_option linter.unusedVariables false
set_option linter.unusedSimpArgs false
theorem scan_skip (l : B) (a : Nat) : scan (skip l) (a + (l.length - (skip l).length)) = scan l a := by
  have hs := skip_skip l
  by_cases h : skip l = []
  · rw [scan_nil h, scan_nil (by rw [hs]; exact h)]
  · by_cases h2 : (next (skip l)).2 = 0
    · rw [scan_bad h h2, scan_bad (by rw [hs]; exact h) (by rw [hs]; exact h2), hs, Nat.sub_self, Nat.add_zero]
    · rw [scan_tok h h2, scan_tok (by rw [hs]; exact h) (by rw [hs]; exact h2), hs, Nat.sub_self, Nat.add_zero]
/-- All offsets moved. -/
def shift (d : Nat) (t : Tok) : Tok := ⟨t.k, t.t, t.a + d⟩
theorem scan_shift (d : Nat) (l : B) (a : Nat) : scan l (a + d) = ((scan l a).1.map (shift d), (scan l a).2.map (· + d)) := by
  induction l, a using scan_ind with
  | h0 l a h => rw [scan_nil h, scan_nil h]; rfl
  | h1 l a h h2 => rw [scan_bad h h2, scan_bad h h2]; simp; omega
  | h2 l a h h2 ih =>
    have e : a + d + (l.length - (skip l).length) + (next (skip l)).2 = a + (l.length - (skip l).length) + (next (skip l)).2 + d := by omega
    rw [scan_tok h h2, scan_tok h h2, e, ih]
    simp [shift]
    omega
/-- A byte that ends every token. -/
structure Sep (d : UInt8) : Prop where
  name : nameC d ≠ true
  sign : ∀ c, signL.contains [c, d] ≠ true
theorem Sep.digit_ {d : UInt8} (h : Sep d) : digit d ≠ true := fun e => h.name (digit_nameC e)
theorem sep10 : Sep 10 := ⟨by decide, fun c => by simp [signL]⟩
theorem sep32 : Sep 32 := ⟨by decide, fun c => by simp [signL]⟩
theorem takeWhile_sep (p : UInt8 → Bool) (u : B) {d : UInt8} (v : B) (h : p d ≠ true) : (u ++ d :: v).takeWhile p = u.takeWhile p := by
  induction u with
  | nil => simp [List.takeWhile_cons, h]
  | cons c u ih =>
    rw [List.cons_append, List.takeWhile_cons, List.takeWhile_cons, ih]
theorem signLen_sep (c : UInt8) (r : B) {d : UInt8} (v : B) (h : Sep d) : signLen ((c :: r) ++ d :: v) = signLen (c :: r) := by
  unfold signLen
  cases r with
  | nil =>
    have e1 : ([c] ++ d :: v).take 2 = [c, d] := rfl
    have e2 : ([c] ++ d :: v).take 1 = [c] := rfl
    have e3 : ([c] : B).take 1 = [c] := rfl
    rw [if_neg (fun e => h.sign c (by rw [← e1]; exact e.2)), if_neg (show ¬ (2 ≤ ([c] : B).length ∧ _) from fun e => by simp at e), e2, e3]
    simp
  | cons e r =>
    have e1 : ((c :: e :: r) ++ d :: v).take 2 = (c :: e :: r).take 2 := rfl
    have e2 : ((c :: e :: r) ++ d :: v).take 1 = (c :: e :: r).take 1 := rfl
    rw [e1, e2]
    simp
theorem next_sep {u : B} (hu : u ≠ []) {d : UInt8} (v : B) (h : Sep d) : next (u ++ d :: v) = next u := by
  cases u with
  | nil => exact absurd rfl hu
  | cons c r =>
    have e1 := takeWhile_sep nameC (c :: r) v h.name
    have e2 := takeWhile_sep digit (c :: r) v h.digit_
    have e3 := signLen_sep c r v h
    rw [List.cons_append] at e1 e2 e3 ⊢
    rw [next_cons, next_cons, e1, e2, e3]
theorem dropWhile_nl (l v : B) : (l ++ 10 :: v).dropWhile (· != 10) = l.dropWhile (· != 10) ++ 10 :: v := by
  induction l with
  | nil => rfl
  | cons c l ih =>
    rw [List.cons_append, List.dropWhile_cons, List.dropWhile_cons]
    by_cases h : (c != 10) = true
    · rw [if_pos h, if_pos h]; exact ih
    · rw [if_neg h, if_neg h]; rfl
/-- Blanks and remarks, where a line feed follows. -/
theorem skip_nl (v : B) (l : B) : skip (l ++ 10 :: v) = if skip l = [] then skip v else skip l ++ 10 :: v := by
  induction l using skip_ind with
  | h0 => rw [skip_nil, if_pos rfl]; exact skip_blank (by decide)
  | h1 c r h ih => rw [List.cons_append, skip_blank h, skip_blank h]; exact ih
  | h2 c r h h2 ih =>
    have h3 : c = 47 ∧ (r ++ 10 :: v).head? = some 47 := by
      refine ⟨h2.1, ?_⟩
      cases r with
      | nil => exact absurd h2.2 (by simp)
      | cons e r => exact h2.2
    rw [skip_rem h h2, List.cons_append, skip_rem h h3, ← List.cons_append, dropWhile_nl]; exact ih
  | h3 c r h h2 =>
    have h3 : ¬ (c = 47 ∧ (r ++ 10 :: v).head? = some 47) := by
      rintro ⟨h4, h5⟩
      apply h2
      refine ⟨h4, ?_⟩
      cases r with
      | nil => exact absurd h5 (by simp)
      | cons e r => exact h5
    rw [skip_stop h h2, if_neg (by simp), List.cons_append, skip_stop h h3]
/-- A text, a line feed, another text. -/
theorem scan_parts (v : B) (l : B) (a : Nat) : scan (l ++ 10 :: v) a = match (scan l a).2 with
    | some e => ((scan l a).1, some e)
    | none => ((scan l a).1 ++ (scan v (a + l.length + 1)).1, (scan v (a + l.length + 1)).2) := by
  induction l, a using scan_ind with
  | h0 l a h =>
    have e := skip_nl v l
    rw [if_pos h] at e
    rw [scan_nil h, ← scan_skip, e]
    dsimp only
    rw [List.nil_append, ← scan_skip v]
    have h1 := skip_le v
    have h2 : (l ++ 10 :: v).length = l.length + (v.length + 1) := by simp
    rw [h2]
    have e3 : a + (l.length + (v.length + 1) - (skip v).length) = a + l.length + 1 + (v.length - (skip v).length) := by omega
    rw [e3]
  | h1 l a h h2 =>
    have e := skip_nl v l
    rw [if_neg h] at e
    have hn := next_sep h v sep10
    have h1 := skip_le l
    rw [scan_bad h h2, scan_bad (by rw [e]; simp) (by rw [e, hn]; exact h2), e]
    dsimp only
    have e3 : (l ++ 10 :: v).length - (skip l ++ 10 :: v).length = l.length - (skip l).length := by simp; omega
    rw [e3]
  | h2 l a h h2 ih =>
    have e := skip_nl v l
    rw [if_neg h] at e
    have hn := next_sep h v sep10
    have h1 := skip_le l
    have h3 := next_le (skip l)
    have e3 : (l ++ 10 :: v).length - (skip l ++ 10 :: v).length = l.length - (skip l).length := by simp; omega
    rw [scan_tok h h2, scan_tok (by rw [e]; simp) (by rw [e, hn]; exact h2), e, hn, e3, List.drop_append_of_le_length h3, List.take_append_of_le_length h3, ih]
    have e4 : a + (l.length - (skip l).length) + (next (skip l)).2 + ((skip l).drop (next (skip l)).2).length + 1 = a + l.length + 1 := by rw [List.length_drop]; omega
    rw [e4]
    cases (scan ((skip l).drop (next (skip l)).2) (a + (l.length - (skip l).length) + (next (skip l)).2)).2 <;> rfl
/-- Each offset is within the text. -/
theorem scan_bounds (l : B) (a : Nat) : (∀ t ∈ (scan l a).1, a ≤ t.a ∧ t.a + t.t.length ≤ a + l.length ∧ 0 < t.t.length) ∧ (∀ e, (scan l a).2 = some e → a ≤ e ∧ e < a + l.length) := by
  induction l, a using scan_ind with
  | h0 l a h => rw [scan_nil h]; exact ⟨fun t ht => (by cases ht), fun e he => (by cases he)⟩
  | h1 l a h h2 =>
    rw [scan_bad h h2]
    refine ⟨fun t ht => (by cases ht), fun e he => ?_⟩
    have h1 := skip_le l
    have hp : 0 < (skip l).length := List.length_pos_iff.mpr h
    simp only [Option.some.injEq] at he
    omega
  | h2 l a h h2 ih =>
    rw [scan_tok h h2]
    have h1 := skip_le l
    have h3 := next_le (skip l)
    have hd : ((skip l).drop (next (skip l)).2).length = (skip l).length - (next (skip l)).2 := List.length_drop
    refine ⟨fun t ht => ?_, fun e he => ?_⟩
    · rcases List.mem_cons.mp ht with rfl | ht
      · show a ≤ a + (l.length - (skip l).length) ∧ a + (l.length - (skip l).length) + ((skip l).take (next (skip l)).2).length ≤ a + l.length ∧ 0 < ((skip l).take (next (skip l)).2).length
        rw [List.length_take]
        omega
      · have := ih.1 t ht
        omega
    · have := ih.2 e he
      omega
end Go.Proofs.Ytpccakfbmbkmlaa.Tk
