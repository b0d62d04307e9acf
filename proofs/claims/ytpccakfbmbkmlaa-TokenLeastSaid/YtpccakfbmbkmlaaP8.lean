/- The tokens of a text of joined tokens; and of such a text without one of its blanks. -/
import Derived.Test.YtpccakfbmbkmlaaP7
namespace Go.Proofs.Ytpccakfbmbkmlaa.Tk
set_option linter.unusedVariables false
set_option linter.unusedSimpArgs false
theorem sign_blank : ∀ x ∈ signL, ∀ y ∈ x, blank y ≠ true := by decide
theorem name_blank {c : UInt8} (h : nameC c = true) : blank c ≠ true := by
  intro hb
  obtain ⟨h1, h2, _⟩ := blank_letter hb
  unfold nameC at h
  rw [Bool.or_eq_true] at h
  rcases h with h | h
  · exact h1 h
  · exact h2 h
/-- No byte of a token is a blank. -/
theorem sg_blank {u : B} {k : Int} (h : sg u k = true) : ∀ x ∈ u, blank x ≠ true := by
  obtain ⟨h1, h2, _, _⟩ := sg_ne h
  cases u with
  | nil => exact absurd rfl h1
  | cons c r =>
    intro x hx
    by_cases a1 : letter c = true
    · rw [next_letter a1, take_takeWhile] at h2
      rw [← h2] at hx
      exact name_blank (takeWhile_mem _ _ x hx)
    · by_cases a2 : digit c = true
      · rw [next_digit a1 a2, take_takeWhile] at h2
        rw [← h2] at hx
        exact name_blank (digit_nameC (takeWhile_mem _ _ x hx))
      · rw [next_sign a1 a2] at h2
        by_cases a3 : signLen (c :: r) = 0
        · rw [if_pos a3] at h2; cases h2
        · rw [if_neg a3] at h2
          unfold signLen at h2 a3
          by_cases a4 : 2 ≤ (c :: r).length ∧ signL.contains ((c :: r).take 2) = true
          · rw [if_pos a4] at h2
            dsimp only at h2
            exact sign_blank _ (List.contains_iff_mem.mp a4.2) x (by rw [h2]; exact hx)
          · rw [if_neg a4] at h2 a3
            by_cases a5 : 1 ≤ (c :: r).length ∧ signL.contains ((c :: r).take 1) = true
            · rw [if_pos a5] at h2
              dsimp only at h2
              exact sign_blank _ (List.contains_iff_mem.mp a5.2) x (by rw [h2]; exact hx)
            · rw [if_neg a5] at a3; exact absurd rfl a3
theorem sg_len {u : B} {k : Int} (h : sg u k = true) : next u = (k, u.length) := by
  obtain ⟨_, h2, h3, _⟩ := sg_ne h
  have h4 := next_le u
  have h5 := congrArg List.length h2
  rw [List.length_take] at h5
  exact Prod.ext h3 (by show (next u).2 = u.length; omega)
theorem takeWhile_more (p : UInt8 → Bool) (l r : B) (h : (l.takeWhile p).length < l.length) : (l ++ r).takeWhile p = l.takeWhile p := by
  induction l with
  | nil => simp at h
  | cons c l ih =>
    rw [List.cons_append, List.takeWhile_cons, List.takeWhile_cons] at *
    by_cases hp : p c = true
    · rw [if_pos hp] at h ⊢
      rw [if_pos hp, ih (by simpa using h)]
    · rw [if_neg hp, if_neg hp]
theorem signLen_more (l r : B) (h : 2 ≤ l.length) : signLen (l ++ r) = signLen l := by
  unfold signLen
  rw [List.take_append_of_le_length h, List.take_append_of_le_length (by omega), List.length_append]
  have e1 : (2 ≤ l.length + r.length) = (2 ≤ l.length) := propext (by omega)
  have e2 : (1 ≤ l.length + r.length) = (1 ≤ l.length) := propext (by omega)
  simp only [e1, e2]
/-- A token that ends within a text is the same in a longer text. -/
theorem next_more {l : B} (r : B) (h0 : 0 < (next l).2) (h : (next l).2 < l.length) : next (l ++ r) = next l := by
  cases l with
  | nil => simp at h
  | cons c l =>
    have h2 : 2 ≤ (c :: l).length := by omega
    clear h0
    rw [next_cons] at h
    rw [List.cons_append, next_cons, next_cons, ← List.cons_append]
    by_cases a1 : letter c = true
    · rw [if_pos a1] at h
      rw [if_pos a1, if_pos a1, takeWhile_more _ _ _ h]
    · rw [if_neg a1] at h
      rw [if_neg a1, if_neg a1]
      by_cases a2 : digit c = true
      · rw [if_pos a2] at h
        rw [if_pos a2, if_pos a2, takeWhile_more _ _ _ h]
      · rw [if_neg a2] at h
        rw [if_neg a2, if_neg a2, signLen_more _ _ h2]
theorem next_head (u : B) (h : u = []) : next u = (0, 0) := by rw [h]; rfl
/-- A text is passed over nowhere where its first two bytes are no remark and no blank. -/
theorem skip_more {l : B} (r : B) (h : skip l = l) (h2 : 2 ≤ l.length) : skip (l ++ r) = l ++ r := by
  match l, h2 with
  | c :: d :: l, _ =>
    rcases skip_head (c :: d :: l) with e | ⟨c', r', e, hb, hr⟩
    · rw [h] at e; cases e
    · rw [h] at e
      injection e with e1 e2
      subst e1 e2
      rw [List.cons_append]
      exact skip_stop hb (fun hh => hr hh)
theorem skip_sep {u v : B} (h : skip u = u) (hu : u ≠ []) : skip (u ++ 32 :: v) = u ++ 32 :: v := by
  cases u with
  | nil => exact absurd rfl hu
  | cons c u =>
    rcases skip_head (c :: u) with e | ⟨c', r', e, hb, hr⟩
    · rw [h] at e; cases e
    · rw [h] at e
      injection e with e1 e2
      subst e1 e2
      rw [List.cons_append]
      refine skip_stop hb (fun hh => hr ⟨hh.1, ?_⟩)
      cases u with
      | nil => exact absurd hh.2 (by simp)
      | cons d u => exact hh.2
theorem scan_blank {v : B} {a : Nat} : scan (32 :: v) a = scan v (a + 1) := by
  rw [← scan_skip (32 :: v), ← scan_skip v, skip_blank (by decide)]
  have := skip_le v
  congr 1
  simp only [List.length_cons]
  omega
theorem scan_one {l : B} {k : Int} {n a : Nat} (h : skip l = l) (hn : next l = (k, n)) (h0 : n ≠ 0) (hl : l ≠ []) : scan l a = (⟨k, l.take n, a⟩ :: (scan (l.drop n) (a + n)).1, (scan (l.drop n) (a + n)).2) := by
  rw [scan_tok (by rw [h]; exact hl) (by rw [h, hn]; exact h0), h, hn]
  simp
theorem step_end {u : B} {k : Int} (h : sg u k = true) (a : Nat) : scan u a = ([⟨k, u, a⟩], none) := by
  obtain ⟨h1, h2, h3, h4⟩ := sg_ne h
  have h5 := List.length_pos_iff.mpr h1
  rw [scan_one h4 (sg_len h) (by omega) h1, List.take_length, List.drop_length, scan_nil rfl]
theorem step_sep {u : B} {k : Int} (h : sg u k = true) (v : B) (a : Nat) : scan (u ++ 32 :: v) a = (⟨k, u, a⟩ :: (scan v (a + u.length + 1)).1, (scan v (a + u.length + 1)).2) := by
  obtain ⟨h1, h2, h3, h4⟩ := sg_ne h
  have h5 := List.length_pos_iff.mpr h1
  rw [scan_one (skip_sep h4 h1) (by rw [next_sep h1 v sep32, sg_len h]) (by omega) (by simp), List.take_left, List.drop_left, scan_blank]
theorem tg_next {u w : B} {k : Int} (h : sg u k = true) (ht : tg u w = true) : next (u ++ w) = (k, u.length) ∧ skip (u ++ w) = u ++ w := by
  obtain ⟨h1, h2, h3, h4⟩ := sg_ne h
  have h5 := List.length_pos_iff.mpr h1
  have ht := of_decide_eq_true ht
  have h6 := next_le (u ++ w)
  have h7 := congrArg List.length ht.1
  rw [List.length_take] at h7
  have h8 : (next (u ++ w)).2 = u.length := by omega
  have h9 := next_take (l := u ++ w) (m := (next (u ++ w)).2) (by omega) (Nat.le_refl _) (Or.inr trivial)
  rw [ht.1] at h9
  exact ⟨Prod.ext (by rw [← h9]; exact h3) h8, ht.2⟩
theorem step_tg {u w : B} {k : Int} (h : sg u k = true) (ht : tg u w = true) (hw : w ≠ []) (r : B) (a : Nat) : scan (u ++ (w ++ r)) a = (⟨k, u, a⟩ :: (scan (w ++ r) (a + u.length)).1, (scan (w ++ r) (a + u.length)).2) := by
  obtain ⟨h1, h2, h3, h4⟩ := sg_ne h
  obtain ⟨g1, g2⟩ := tg_next h ht
  have h5 := List.length_pos_iff.mpr h1
  have h6 := List.length_pos_iff.mpr hw
  have hl : (u ++ w).length = u.length + w.length := List.length_append
  have n1 : next (u ++ (w ++ r)) = (k, u.length) := by
    rw [← List.append_assoc, next_more r (by rw [g1]; exact h5) (by rw [g1]; show u.length < _; omega), g1]
  have s1 : skip (u ++ (w ++ r)) = u ++ (w ++ r) := by
    rw [← List.append_assoc]; exact skip_more r g2 (by omega)
  rw [scan_one s1 n1 (by omega) (by simp [h1]), List.take_left, List.drop_left]
/-- Two tokens side by side that are not read as these two: a longer text does not begin with the first. -/
theorem step_bad {u w : B} {k : Int} (h : sg u k = true) (ht : tg u w = false) (hw : w ≠ []) (r : B) (hr : ∀ x ∈ u ++ (w ++ r), x ≠ 10) (a : Nat) (q : Tok) (qs : List Tok) (hs : (scan (u ++ (w ++ r)) a).1 = q :: qs) : q.t ≠ u := by
  obtain ⟨h1, h2, h3, h4⟩ := sg_ne h
  have ht := of_decide_eq_false ht
  have h5 := List.length_pos_iff.mpr h1
  have h6 := List.length_pos_iff.mpr hw
  obtain ⟨c, r', hc, hb⟩ := sg_head h
  intro he
  by_cases hsk : skip (u ++ w) = u ++ w
  · have s1 : skip (u ++ (w ++ r)) = u ++ (w ++ r) := by
      rw [← List.append_assoc]; exact skip_more r hsk (by rw [List.length_append]; omega)
    by_cases h0 : (next (u ++ (w ++ r))).2 = 0
    · rw [scan_bad (by rw [s1]; simp [h1]) (by rw [s1]; exact h0)] at hs
      cases hs
    · rw [scan_one s1 (k := (next (u ++ (w ++ r))).1) (n := (next (u ++ (w ++ r))).2) rfl h0 (by simp [h1])] at hs
      injection hs with hs1 hs2
      rw [← hs1] at he
      have he : (u ++ (w ++ r)).take (next (u ++ (w ++ r))).2 = u := he
      have h7 := next_le (u ++ (w ++ r))
      have h8 := congrArg List.length he
      rw [List.length_take] at h8
      have h9 : (next (u ++ (w ++ r))).2 = u.length := by omega
      have h10 := next_take (l := u ++ (w ++ r)) (m := (u ++ w).length) (by rw [List.length_append]; omega) (by rw [h9, List.length_append]; omega) (Or.inr trivial)
      rw [← List.append_assoc, List.take_left] at h10
      refine ht ⟨?_, hsk⟩
      rw [h10, List.append_assoc, h9, List.take_left]
  · have e1 : u ++ w = c :: (r' ++ w) := by rw [hc]; rfl
    rw [e1, skip_iff hb, Ne, Classical.not_not, isPrefix2] at hsk
    obtain ⟨z, hz⟩ := hsk
    have e2 : u ++ (w ++ r) = 47 :: 47 :: (z ++ r) := by rw [← List.append_assoc, e1, hz]; rfl
    have s1 : skip (u ++ (w ++ r)) = [] := by
      have hd : (u ++ (w ++ r)).dropWhile (· != 10) = [] := dropWhile_none _ _ (fun y hy => by simpa using hr y hy)
      rw [e2] at hd ⊢
      rw [skip_rem (by decide) ⟨rfl, rfl⟩, hd]; rfl
    rw [scan_nil s1] at hs
    cases hs
end Go.Proofs.Ytpccakfbmbkmlaa.Tk
namespace Go.Proofs.Ytpccakfbmbkmlaa.PAll
open Go.RowKit Go.Proofs.YtpccakfbmbkmlaaW.PrintWords Go.Proofs.YtpccakfbmbkmlaaW.PrintLast Go.Proofs.YtpccakfbmbkmlaaW.PrintMore
set_option linter.unusedVariables false
set_option linter.unusedSimpArgs false
open Tk (B)
/-- The text of tokens, as bytes. -/
def jb : Option S31 → List S31 → B
  | _, [] => []
  | none, t :: ts => tx t ++ jb (some t) ts
  | some p, t :: ts => (if Tk.tg (tx p) (tx t) = true then [] else [32]) ++ (tx t ++ jb (some t) ts)
/-- Its tokens. -/
def tk : Nat → Option S31 → List S31 → List Tk.Tok
  | _, _, [] => []
  | a, none, t :: ts => ⟨t.f0, tx t, a⟩ :: tk (a + (tx t).length) (some t) ts
  | a, some p, t :: ts => ⟨t.f0, tx t, a + (if Tk.tg (tx p) (tx t) = true then 0 else 1)⟩ :: tk (a + (if Tk.tg (tx p) (tx t) = true then 0 else 1) + (tx t).length) (some t) ts
theorem joinT_jb (p : Option S31) (ts : List S31) : joinT p ts = (jb p ts).map (fun c => (c.toNat : Int)) := by
  induction ts generalizing p with
  | nil => cases p <;> rfl
  | cons t ts ih =>
    cases p with
    | none => show bytesOf t.f1 ++ joinT (some t) ts = (tx t ++ jb (some t) ts).map _; rw [ih, List.map_append]; rfl
    | some p =>
      show (if Tk.tg (tx p) (tx t) = true then [] else [32]) ++ (bytesOf t.f1 ++ joinT (some t) ts) = ((if Tk.tg (tx p) (tx t) = true then [] else [32]) ++ (tx t ++ jb (some t) ts)).map _
      rw [ih, List.map_append, List.map_append]
      congr 1
      split <;> rfl
theorem str_jb (l : B) : strOfNums (l.map (fun c => (c.toNat : Int))) = ba l := by simp [strOfNums, List.map_map, Function.comp_def, ba]
theorem tx_ne {t : S31} (h : sgT t = true) : tx t ≠ [] := (Tk.sg_ne h).1
theorem scan_jb (ts : List S31) : ∀ (t : S31) (a : Nat), sgT t = true → (∀ x ∈ ts, sgT x = true) → Tk.scan (tx t ++ jb (some t) ts) a = (⟨t.f0, tx t, a⟩ :: tk (a + (tx t).length) (some t) ts, none) := by
  induction ts with
  | nil =>
    intro t a h _
    have : tx t ++ jb (some t) [] = tx t := List.append_nil _
    rw [this]; exact Tk.step_end h a
  | cons x ts ih =>
    intro t a h hs
    have hx := hs x (by simp)
    have hi := fun b => ih x b hx (fun y hy => hs y (by simp [hy]))
    show Tk.scan (tx t ++ ((if Tk.tg (tx t) (tx x) = true then [] else [32]) ++ (tx x ++ jb (some x) ts))) a = (⟨t.f0, tx t, a⟩ :: ⟨x.f0, tx x, a + (tx t).length + (if Tk.tg (tx t) (tx x) = true then 0 else 1)⟩ :: tk (a + (tx t).length + (if Tk.tg (tx t) (tx x) = true then 0 else 1) + (tx x).length) (some x) ts, none)
    by_cases hg : Tk.tg (tx t) (tx x) = true
    · rw [if_pos hg, if_pos hg, List.nil_append, Tk.step_tg h hg (tx_ne hx), hi]; rfl
    · rw [if_neg hg, if_neg hg]
      show Tk.scan (tx t ++ 32 :: (tx x ++ jb (some x) ts)) a = _
      rw [Tk.step_sep h, hi]
theorem scan_join (xs : List S31) (hs : ∀ x ∈ xs, sgT x = true) : Tk.scan (jb none xs) 0 = (tk 0 none xs, none) := by
  cases xs with
  | nil => exact Tk.scan_nil rfl
  | cons t ts => exact scan_jb ts t 0 (hs t (by simp)) (fun x hx => hs x (by simp [hx]))
theorem tk_kt (ts : List S31) : ∀ (a : Nat) (p : Option S31), (tk a p ts).map (fun q => (q.k, q.t)) = ts.map (fun t => (t.f0, tx t)) := by
  induction ts with
  | nil => intro a p; cases p <;> rfl
  | cons t ts ih =>
    intro a p
    cases p with
    | none => simp only [tk, List.map_cons, ih]
    | some p => simp only [tk, List.map_cons, ih]
/-- Every byte of such a text is a token's or a space. -/
theorem jb_mem (ts : List S31) : ∀ (p : Option S31), (∀ x ∈ ts, sgT x = true) → ∀ c ∈ jb p ts, c ≠ 10 := by
  induction ts with
  | nil => intro p _ c hc; cases p <;> cases hc
  | cons t ts ih =>
    intro p hs c hc
    have h1 : ∀ c ∈ tx t, c ≠ 10 := fun c hc e => by
      have := Tk.sg_blank (hs t (by simp)) c hc
      rw [e] at this; exact this (by decide)
    have h2 := ih (some t) (fun x hx => hs x (by simp [hx]))
    have hc' : c ∈ ([32] : B) ∨ c ∈ tx t ∨ c ∈ jb (some t) ts := by
      cases p with
      | none =>
        rcases List.mem_append.mp (show c ∈ tx t ++ jb (some t) ts from hc) with h | h
        · exact Or.inr (Or.inl h)
        · exact Or.inr (Or.inr h)
      | some p =>
        rcases List.mem_append.mp (show c ∈ (if Tk.tg (tx p) (tx t) = true then [] else [32]) ++ (tx t ++ jb (some t) ts) from hc) with h | h
        · split at h
          · cases h
          · exact Or.inl h
        · rcases List.mem_append.mp h with h | h
          · exact Or.inr (Or.inl h)
          · exact Or.inr (Or.inr h)
    rcases hc' with h | h | h
    · rw [List.mem_singleton] at h; rw [h]; decide
    · exact h1 c h
    · exact h2 c h
/-- Without one of its spaces, the text has not the same tokens. -/
theorem least_jb (ts : List S31) : ∀ (t : S31) (a i : Nat), sgT t = true → (∀ x ∈ ts, sgT x = true) → (jb (some t) ts)[i]? = some 32 →
    ¬ (Tk.scan (tx t ++ ((jb (some t) ts).take i ++ (jb (some t) ts).drop (i + 1))) a).1.map (fun q => (q.k, q.t)) = (t :: ts).map (fun t => (t.f0, tx t)) := by
  induction ts with
  | nil => intro t a i _ _ hi; cases hi
  | cons x ts ih =>
    intro t a i h hs hi he
    have hx := hs x (by simp)
    have hts : ∀ y ∈ ts, sgT y = true := fun y hy => hs y (by simp [hy])
    have hj : jb (some t) (x :: ts) = (if Tk.tg (tx t) (tx x) = true then [] else [32]) ++ (tx x ++ jb (some x) ts) := rfl
    have hxb : ∀ n : Nat, (tx x)[n]? = some 32 → False := fun n hn => Tk.sg_blank hx 32 (List.mem_of_getElem? hn) (by decide)
    rw [hj] at hi he
    by_cases hg : Tk.tg (tx t) (tx x) = true
    · rw [if_pos hg, List.nil_append] at hi he
      by_cases hlt : i < (tx x).length
      · rw [List.getElem?_append_left hlt] at hi
        exact hxb _ hi
      · obtain ⟨j, rfl⟩ : ∃ j, i = (tx x).length + j := ⟨i - (tx x).length, by omega⟩
        rw [List.getElem?_append_right (by omega), Nat.add_sub_cancel_left] at hi
        rw [List.take_length_add_append, Nat.add_assoc, List.drop_length_add_append, List.append_assoc, Tk.step_tg h hg (tx_ne hx), List.map_cons, List.map_cons] at he
        injection he with _ he
        exact ih x _ j hx hts hi he
    · rw [if_neg hg] at hi he
      cases i with
      | zero =>
        have e1 : ([32] ++ (tx x ++ jb (some x) ts)).take 0 ++ ([32] ++ (tx x ++ jb (some x) ts)).drop (0 + 1) = tx x ++ jb (some x) ts := rfl
        rw [e1] at he
        have hne : ∀ c ∈ tx t ++ (tx x ++ jb (some x) ts), c ≠ 10 := by
          have := jb_mem (t :: x :: ts) none (fun y hy => by
            rcases List.mem_cons.mp hy with rfl | hy
            · exact h
            · exact hs y hy)
          intro c hc
          apply this
          show c ∈ tx t ++ ((if Tk.tg (tx t) (tx x) = true then [] else [32]) ++ (tx x ++ jb (some x) ts))
          rw [if_neg hg]
          rcases List.mem_append.mp hc with hc | hc
          · exact List.mem_append.mpr (Or.inl hc)
          · exact List.mem_append.mpr (Or.inr (List.mem_append.mpr (Or.inr hc)))
        cases hq : (Tk.scan (tx t ++ (tx x ++ jb (some x) ts)) a).1 with
        | nil => rw [hq] at he; cases he
        | cons q qs =>
          have hb := Tk.step_bad h (Bool.eq_false_iff.mpr hg) (tx_ne hx) (jb (some x) ts) hne a q qs hq
          rw [hq, List.map_cons, List.map_cons] at he
          injection he with he1 _
          injection he1 with _ he2
          exact hb he2
      | succ i =>
        have hi : (tx x ++ jb (some x) ts)[i]? = some 32 := hi
        have e1 : ([32] ++ (tx x ++ jb (some x) ts)).take (i + 1) ++ ([32] ++ (tx x ++ jb (some x) ts)).drop (i + 1 + 1) = 32 :: ((tx x ++ jb (some x) ts).take i ++ (tx x ++ jb (some x) ts).drop (i + 1)) := rfl
        rw [e1, Tk.step_sep h, List.map_cons, List.map_cons] at he
        injection he with _ he
        by_cases hlt : i < (tx x).length
        · rw [List.getElem?_append_left hlt] at hi
          exact hxb _ hi
        · obtain ⟨j, rfl⟩ : ∃ j, i = (tx x).length + j := ⟨i - (tx x).length, by omega⟩
          rw [List.getElem?_append_right (by omega), Nat.add_sub_cancel_left] at hi
          rw [List.take_length_add_append, Nat.add_assoc, List.drop_length_add_append, List.append_assoc] at he
          exact ih x _ j hx hts hi he
theorem least_join (xs : List S31) (i : Nat) (hs : ∀ x ∈ xs, sgT x = true) (hi : (jb none xs)[i]? = some 32) :
    ¬ (Tk.scan ((jb none xs).take i ++ (jb none xs).drop (i + 1)) 0).1.map (fun q => (q.k, q.t)) = xs.map (fun t => (t.f0, tx t)) := by
  cases xs with
  | nil => cases hi
  | cons t ts =>
    have ht := hs t (by simp)
    have hj : jb none (t :: ts) = tx t ++ jb (some t) ts := rfl
    rw [hj] at hi ⊢
    by_cases hlt : i < (tx t).length
    · rw [List.getElem?_append_left hlt] at hi
      exact absurd (by decide) (Tk.sg_blank ht 32 (List.mem_of_getElem? hi))
    · obtain ⟨j, rfl⟩ : ∃ j, i = (tx t).length + j := ⟨i - (tx t).length, by omega⟩
      rw [List.getElem?_append_right (by omega), Nat.add_sub_cancel_left] at hi
      rw [List.take_length_add_append, Nat.add_assoc, List.drop_length_add_append, List.append_assoc]
      exact least_jb ts t 0 j ht (fun x hx => hs x (by simp [hx])) hi
/-- What Join returns, as bytes. -/
theorem joinR_jb (xs : List S31) : joinR [] none xs = if xs.all sgT = true then (if ((jb none xs).length : Int) > 20000 then (⟨#[]⟩, 3) else (ba (jb none xs), 0)) else (⟨#[]⟩, 4) := by
  unfold joinR
  rw [List.nil_append, joinT_jb, List.length_map, str_jb]
/-- The reference's Same, of a text's tokens and others, offsets aside. -/
theorem same_kt (qs : List Tk.Tok) (xs : List S31) (hq : qs.length < 1000000) : ∃ r, Ev (fun k => biremeref02_Same.f k (qs.map toS) xs false) r ∧ (r = true ↔ qs.map (fun q => (q.k, q.t)) = xs.map (fun t => (t.f0, tx t))) := by
  obtain ⟨r, h1, h2⟩ := Same_ev (qs.map toS) xs false (by rw [List.length_map]; exact hq)
  refine ⟨r, h1, h2.trans ?_⟩
  constructor
  · rintro ⟨hl, h⟩
    rw [List.length_map] at hl
    apply List.ext_getElem (by rw [List.length_map, List.length_map]; exact hl)
    intro j j1 j2
    rw [List.length_map] at j1 j2
    obtain ⟨a1, a2, _⟩ := h j (by rw [List.length_map]; exact j1)
    rw [List.getElem_map] at a1 a2
    rw [List.getElem_map, List.getElem_map]
    have b1 : qs[j].k = xs[j].f0 := a1
    have b2 : (ba qs[j].t).toList = xs[j].f1.toList := a2
    rw [ba_toList, tx_ba xs[j], ba_toList] at b2
    rw [b1, b2]
  · intro h
    have hl : (qs.map toS).length = xs.length := by
      have := congrArg List.length h
      rw [List.length_map, List.length_map] at this
      rw [List.length_map]; exact this
    refine ⟨hl, fun j hj => ?_⟩
    rw [List.length_map] at hj
    have hx : j < xs.length := by rw [List.length_map] at hl; omega
    have e := List.getElem?_map (f := fun q : Tk.Tok => (q.k, q.t)) (l := qs) (i := j)
    rw [h, List.getElem?_map, List.getElem?_eq_getElem hx, List.getElem?_eq_getElem hj] at e
    simp only [Option.map_some, Option.some.injEq, Prod.mk.injEq] at e
    rw [List.getElem_map]
    refine ⟨e.1.symm, ?_, fun hh => by cases hh⟩
    show (ba qs[j].t).toList = xs[j].f1.toList
    rw [ba_toList, tx_ba xs[j], ba_toList]; exact e.2.symm
end Go.Proofs.Ytpccakfbmbkmlaa.PAll
