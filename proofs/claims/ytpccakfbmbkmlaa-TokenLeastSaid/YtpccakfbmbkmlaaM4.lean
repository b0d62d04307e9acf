/- Plain mathematics of the tokens of a text, fourth part: blanks and a remark between two tokens. -/
import Derived.Test.YtpccakfbmbkmlaaM3
namespace Go.Proofs.Ytpccakfbmbkmlaa.Tk
set_option linter.unusedVariables false
set_option linter.unusedSimpArgs false
theorem takeWhile_take (p : UInt8 → Bool) (l : B) : ∀ (m : Nat), (l.takeWhile p).length ≤ m → (l.take m).takeWhile p = l.takeWhile p := by
  induction l with
  | nil => intro m _; simp
  | cons c l ih =>
    intro m hm
    rw [List.takeWhile_cons] at hm ⊢
    by_cases h : p c = true
    · rw [if_pos h] at hm ⊢
      obtain ⟨m, rfl⟩ : ∃ q, m = q + 1 := ⟨m - 1, by simp at hm; omega⟩
      rw [List.take_succ_cons, List.takeWhile_cons, if_pos h, ih m (by simpa using hm)]
    · rw [if_neg h]
      cases m with
      | zero => rfl
      | succ m => rw [List.take_succ_cons, List.takeWhile_cons, if_neg h]
theorem signLen_take (l : B) (m : Nat) (h0 : 0 < m) (h : signLen l ≤ m) : signLen (l.take m) = signLen l := by
  unfold signLen at h ⊢
  by_cases h2 : 2 ≤ m
  · rw [List.take_take, List.take_take, Nat.min_eq_left h2, Nat.min_eq_left h0, List.length_take]
    have e1 : (2 ≤ min m l.length) = (2 ≤ l.length) := propext (by omega)
    have e2 : (1 ≤ min m l.length) = (1 ≤ l.length) := propext (by omega)
    simp only [e1, e2]
  · have hm : m = 1 := by omega
    subst hm
    by_cases h3 : 2 ≤ l.length ∧ signL.contains (l.take 2) = true
    · rw [if_pos h3] at h; omega
    · rw [if_neg h3, if_neg (fun e => by have := e.1; rw [List.length_take] at this; omega), List.take_take, List.length_take]
      have e2 : (1 ≤ min 1 l.length) = (1 ≤ l.length) := propext (by omega)
      simp only [e2, Nat.min_self]
theorem next_take {l : B} {m : Nat} (h0 : 0 < m) (h : (next l).2 ≤ m) (hn : (next l).2 ≠ 0 ∨ True) : next (l.take m) = next l := by
  cases l with
  | nil => rw [List.take_nil]
  | cons c r =>
    obtain ⟨m, rfl⟩ : ∃ q, m = q + 1 := ⟨m - 1, by omega⟩
    have e0 : (c :: r).take (m + 1) = c :: r.take m := rfl
    rw [next_cons] at h
    rw [e0, next_cons, next_cons, ← e0]
    by_cases h1 : letter c = true
    · rw [if_pos h1] at h
      rw [if_pos h1, if_pos h1, takeWhile_take nameC _ _ h]
    · rw [if_neg h1] at h
      rw [if_neg h1, if_neg h1]
      by_cases h2 : digit c = true
      · rw [if_pos h2] at h
        rw [if_pos h2, if_pos h2, takeWhile_take digit _ _ h]
      · rw [if_neg h2] at h
        rw [if_neg h2, if_neg h2]
        have h3 : signLen (c :: r) ≤ m + 1 := by
          by_cases h4 : signLen (c :: r) = 0
          · omega
          · rw [if_neg h4] at h; exact h
        rw [signLen_take _ _ (by omega) h3]
theorem takeWhile_mem (p : UInt8 → Bool) (l : B) : ∀ y ∈ l.takeWhile p, p y = true := by
  induction l with
  | nil => intro y hy; cases hy
  | cons c l ih =>
    intro y hy
    rw [List.takeWhile_cons] at hy
    by_cases h : p c = true
    · rw [if_pos h] at hy
      rcases List.mem_cons.mp hy with rfl | hy
      · exact h
      · exact ih y hy
    · rw [if_neg h] at hy; cases hy
theorem dropWhile_none (p : UInt8 → Bool) (l : B) (h : ∀ y ∈ l, p y = true) : l.dropWhile p = [] := by
  induction l with
  | nil => rfl
  | cons c l ih =>
    rw [List.dropWhile_cons, if_pos (h c (by simp))]
    exact ih (fun y hy => h y (by simp [hy]))
/-- What lies ahead of a token is passed over, whatever follows. -/
theorem skip_pre (v : B) (l : B) : skip l ≠ [] → skip (l.take (l.length - (skip l).length) ++ v) = skip v := by
  induction l using skip_ind with
  | h0 => intro h; exact absurd rfl h
  | h1 c r h ih =>
    intro hs
    rw [skip_blank h] at hs ⊢
    have := skip_le r
    have e : (c :: r).length - (skip r).length = (r.length - (skip r).length) + 1 := by simp; omega
    rw [e, List.take_succ_cons, List.cons_append, skip_blank h]
    exact ih hs
  | h2 c r h h2 ih =>
    intro hs
    rw [skip_rem h h2] at hs ⊢
    have ih := ih hs
    generalize hd : (c :: r).dropWhile (· != 10) = d at *
    have htw : (c :: r).takeWhile (· != 10) ++ d = c :: r := by rw [← hd]; exact List.takeWhile_append_dropWhile
    generalize htwe : (c :: r).takeWhile (· != 10) = tw at *
    have hlen : (c :: r).length = tw.length + d.length := by rw [← htw, List.length_append]
    have := skip_le d
    have e : (c :: r).length - (skip d).length = tw.length + (d.length - (skip d).length) := by omega
    rw [e, ← htw, List.take_length_add_append, List.append_assoc]
    have hdne : d ≠ [] := fun e => by rw [e] at hs; exact hs rfl
    cases d with
    | nil => exact absurd rfl hdne
    | cons x d =>
      have hx : x = 10 := by
        have := dropWhile_head (· != 10) _ x d hd
        simpa using this
      subst hx
      have hb : skip (10 :: d) = skip d := skip_blank (by decide)
      have hk := skip_le d
      have e2 : (10 :: d).length - (skip (10 :: d)).length = (d.length - (skip d).length) + 1 := by rw [hb]; simp; omega
      rw [e2] at ih ⊢
      rw [List.take_succ_cons, List.cons_append] at ih ⊢
      have htwp : ∀ y ∈ tw, (y != 10) = true := fun y hy => by rw [← htwe] at hy; exact takeWhile_mem _ _ y hy
      have htwc : ∃ r', tw = c :: r' := by
        have hc : (c != 10) = true := by rw [h2.1]; decide
        rw [← htwe, List.takeWhile_cons, if_pos hc]; exact ⟨_, rfl⟩
      obtain ⟨r', hr'⟩ := htwc
      generalize d.take (d.length - (skip d).length) ++ v = z at *
      have h3 : (r' ++ 10 :: z).head? = some 47 := by
        have hr2 : r' ++ 10 :: d = r := by rw [hr'] at htw; simpa using htw
        cases r' with
        | nil => rw [← hr2] at h2; exact absurd h2.2 (by simp)
        | cons y r' => rw [← hr2] at h2; exact h2.2
      have hdw : (tw ++ 10 :: z).dropWhile (· != 10) = 10 :: z := by
        rw [dropWhile_nl]
        have : tw.dropWhile (· != 10) = [] := dropWhile_none _ _ htwp
        rw [this]; rfl
      rw [hr'] at hdw ⊢
      rw [List.cons_append] at hdw ⊢
      rw [skip_rem h ⟨h2.1, h3⟩, hdw]
      exact ih
  | h3 c r h h2 =>
    intro hs
    rw [skip_stop h h2, Nat.sub_self]; rfl
/-- Blanks and whole remarks that begin with a space. -/
structure Ins (w : B) : Prop where
  head : ∃ r, w = 32 :: r
  gone : ∀ v, skip (w ++ v) = skip v
theorem list_split (l : B) (b m : Nat) (h : b + m ≤ l.length) : l.take (b + m) = l.take b ++ (l.drop b).take m := by
  rw [List.take_add]
/-- Blanks and remarks ahead of a token that stands in a text. -/
theorem scan_ins {w : B} (hw : Ins w) (l : B) (a : Nat) : (scan l a).2 = none → ∀ (j : Nat) (hj : j < (scan l a).1.length),
    scan (l.take ((scan l a).1[j].a - a) ++ (w ++ l.drop ((scan l a).1[j].a - a))) a = ((scan l a).1.take j ++ ((scan l a).1.drop j).map (shift w.length), none) := by
  induction l, a using scan_ind with
  | h0 l a h => intro _ j hj; rw [scan_nil h] at hj; exact absurd hj (by simp)
  | h1 l a h h2 => intro _ j hj; rw [scan_bad h h2] at hj; exact absurd hj (by simp)
  | h2 l a h h2 ih =>
    have hle := skip_le l
    have hnl := next_le (skip l)
    have hb := (scan_bounds ((skip l).drop (next (skip l)).2) (a + (l.length - (skip l).length) + (next (skip l)).2)).1
    have hsd := skip_drop l
    rw [scan_tok h h2]
    generalize hp : scan ((skip l).drop (next (skip l)).2) (a + (l.length - (skip l).length) + (next (skip l)).2) = p at *
    intro hnone j hj
    dsimp only at hnone hj
    cases j with
    | zero =>
      have e1 : a + (l.length - (skip l).length) - a = l.length - (skip l).length := by omega
      simp only [List.getElem_cons_zero, e1, List.take_zero, List.nil_append, List.drop_zero]
      rw [← hsd]
      have hsk : skip (l.take (l.length - (skip l).length) ++ (w ++ skip l)) = skip l := by rw [skip_pre _ l h, hw.gone, skip_skip]
      have hlen : (l.take (l.length - (skip l).length) ++ (w ++ skip l)).length = l.length + w.length := by simp; omega
      rw [scan_tok (by rw [hsk]; exact h) (by rw [hsk]; exact h2), hsk, hlen]
      have e2 : a + (l.length + w.length - (skip l).length) = a + (l.length - (skip l).length) + w.length := by omega
      have e3 : a + (l.length + w.length - (skip l).length) + (next (skip l)).2 = a + (l.length - (skip l).length) + (next (skip l)).2 + w.length := by omega
      rw [e3, scan_shift, hp, e2, hnone]
      simp [shift]
    | succ j =>
      have hj' : j < p.1.length := by simpa using hj
      have hih := ih hnone j hj'
      have hbj := hb _ (List.getElem_mem hj')
      simp only [List.getElem_cons_succ, List.take_succ_cons, List.drop_succ_cons]
      generalize p.1[j].a = q at *
      generalize hn : (next (skip l)).2 = n at *
      generalize hbl : l.length - (skip l).length = b at *
      generalize hr : (skip l).drop n = rest at *
      obtain ⟨o, ho⟩ : ∃ o, q - (a + b + n) = o := ⟨_, rfl⟩
      have hrl : rest.length = (skip l).length - n := by rw [← hr, List.length_drop]
      have ho2 : o ≤ rest.length := by omega
      have ho3 : q - a = b + (n + o) := by omega
      rw [ho] at hih
      rw [ho3]
      have t1 : l.take (b + (n + o)) = l.take b ++ ((skip l).take n ++ rest.take o) := by
        rw [List.take_add, ← hsd, List.take_add, hr]
      have t2 : l.drop (b + (n + o)) = rest.drop o := by
        rw [← List.drop_drop, ← hsd, ← List.drop_drop, hr]
      rw [t1, t2, List.append_assoc, List.append_assoc]
      generalize hz : rest.take o ++ (w ++ rest.drop o) = z at *
      -- the text from the token on
      have hu : (skip l).take n ++ rest.take o = (skip l).take (n + o) := by rw [List.take_add, hr]
      obtain ⟨wr, hwr⟩ := hw.head
      have hy : (skip l).take n ++ z = (skip l).take (n + o) ++ 32 :: (wr ++ rest.drop o) := by rw [← hz, ← List.append_assoc, hu, hwr]; rfl
      have hun : (skip l).take (n + o) ≠ [] := fun e => by
        have := congrArg List.length e
        rw [List.length_take, List.length_nil] at this
        have := List.length_pos_iff.mpr h
        omega
      have hnx : next ((skip l).take n ++ z) = next (skip l) := by
        rw [hy, next_sep hun _ sep32, next_take (by omega) (by rw [hn]; omega) (Or.inr trivial)]
      have hstop : skip ((skip l).take n ++ z) = (skip l).take n ++ z := by
        rcases skip_head l with h4 | ⟨c, r, h4, h5, h6⟩
        · exact absurd h4 h
        · rw [hy]
          rw [h4]
          obtain ⟨m, hm⟩ : ∃ m, n + o = m + 1 := ⟨n + o - 1, by omega⟩
          rw [hm, List.take_succ_cons, List.cons_append]
          refine skip_stop h5 (fun h7 => h6 ⟨h7.1, ?_⟩)
          cases m with
          | zero => exact absurd h7.2 (by simp)
          | succ m =>
            cases r with
            | nil => exact absurd h7.2 (by simp)
            | cons x r => exact h7.2
      have hsk : skip (l.take b ++ ((skip l).take n ++ z)) = (skip l).take n ++ z := by
        have := skip_pre ((skip l).take n ++ z) l h
        rw [hbl] at this
        rw [this, hstop]
      have hzl : z.length = rest.length + w.length := by rw [← hz]; simp; omega
      have hlen : (l.take b ++ ((skip l).take n ++ z)).length - ((skip l).take n ++ z).length = b := by
        simp only [List.length_append, List.length_take]; omega
      have hne : (skip l).take n ++ z ≠ [] := by rw [hy]; simp
      have hdz : ((skip l).take n ++ z).drop n = z := by
        rw [List.drop_append_of_le_length (by rw [List.length_take]; omega), List.drop_eq_nil_of_le (by rw [List.length_take]; omega)]; rfl
      have htz : ((skip l).take n ++ z).take n = (skip l).take n := by
        rw [List.take_append_of_le_length (by rw [List.length_take]; omega), List.take_take, Nat.min_self]
      rw [scan_tok (by rw [hsk]; exact hne) (by rw [hsk, hnx, hn]; exact h2), hsk, hnx, hn, hlen, hdz, htz, hih]
      rfl
/-- The blanks and the remark of the law. -/
def insW : B := [32, 9, 47, 47, 32, 110, 111, 32, 43, 32, 116, 111, 107, 101, 110, 32, 59, 10, 13]
theorem insW_ins : Ins insW := ⟨⟨_, rfl⟩, fun v => by
  show skip (32 :: 9 :: 47 :: (47 :: 32 :: 110 :: 111 :: 32 :: 43 :: 32 :: 116 :: 111 :: 107 :: 101 :: 110 :: 32 :: 59 :: 10 :: 13 :: v)) = skip v
  rw [skip_blank (by decide), skip_blank (by decide), skip_rem (by decide) ⟨rfl, rfl⟩]
  have : (47 :: 47 :: 32 :: 110 :: 111 :: 32 :: 43 :: 32 :: 116 :: 111 :: 107 :: 101 :: 110 :: 32 :: 59 :: 10 :: 13 :: v).dropWhile (· != (10 : UInt8)) = 10 :: 13 :: v := by
    rfl
  rw [this, skip_blank (by decide), skip_blank (by decide)]⟩
end Go.Proofs.Ytpccakfbmbkmlaa.Tk
