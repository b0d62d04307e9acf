/- One token alone: both sides' answers; the value of a number. -/
import Derived.Test.YtpccakfbmbkmlaaT5
import Derived.Test.YtpccakfbmbkmlaaT9
import Derived.Test.YtpccakfbmbkmlaaP4
namespace Go.Proofs.Ytpccakfbmbkmlaa.Tk
/-- Does a text consist of one token of a kind? -/
def sg (l : B) (k : Int) : Bool := decide (l ≠ [] ∧ l.take (next l).2 = l ∧ (next l).1 = k)
theorem blank_letter {c : UInt8} (h : blank c = true) : letter c ≠ true ∧ digit c ≠ true ∧ ∀ x ∈ signL, x.head? ≠ some c := by
  have : c = 32 ∨ c = 9 ∨ c = 10 ∨ c = 13 := by simpa [blank, or_assoc] using h
  rcases this with rfl | rfl | rfl | rfl <;> decide
theorem next_blank {c : UInt8} {r : B} (h : blank c = true) : (next (c :: r)).2 = 0 := by
  obtain ⟨h1, h2, h3⟩ := blank_letter h
  rw [next_sign h1 h2]
  have : signLen (c :: r) = 0 := by
    unfold signLen
    rw [if_neg (fun e => ?_), if_neg (fun e => ?_)]
    · exact h3 _ (List.contains_iff_mem.mp e.2) rfl
    · refine h3 _ (List.contains_iff_mem.mp e.2) ?_
      cases r <;> rfl
  rw [if_pos this]
theorem next_rem {r : B} (h : r.head? = some 47) : next (47 :: r) = (4, 1) := by
  cases r with
  | nil => cases h
  | cons x r =>
    obtain rfl : x = 47 := by simpa using h
    rw [next_sign (by decide) (by decide)]
    have : signLen (47 :: 47 :: r) = 1 := by
      unfold signLen
      rw [if_neg (fun e => absurd e.2 (show ¬ signL.contains [47, 47] = true by decide)), if_pos ⟨by simp, show signL.contains [47] = true by decide⟩]
    rw [this]; rfl
/-- A text that begins with blanks or a remark is no token. -/
theorem sg_skip {l : B} (h : skip l ≠ l) : l.take (next l).2 ≠ l := by
  cases l with
  | nil => exact absurd rfl h
  | cons c r =>
    intro e
    by_cases h1 : blank c = true
    · rw [next_blank h1] at e; cases e
    · by_cases h2 : c = 47 ∧ r.head? = some 47
      · obtain ⟨rfl, h3⟩ := h2
        rw [next_rem h3] at e
        cases r with
        | nil => cases h3
        | cons x r => simp at e
      · exact h (skip_stop h1 h2)
theorem skip_eq {l : B} (h : (skip l).length = l.length) : skip l = l := (skip_suffix l).eq_of_length h
theorem letter_digit {c : UInt8} (h : digit c = true) : letter c ≠ true := by
  intro h2
  unfold letter digit at *
  simp only [Bool.and_eq_true, Bool.or_eq_true, decide_eq_true_eq, beq_iff_eq] at h h2
  have : (97 : UInt8).toNat = 97 := rfl
  simp only [UInt8.le_iff_toNat_le] at h h2
  rcases h2 with (⟨a, b⟩ | ⟨a, b⟩) | rfl <;> simp at * <;> omega
theorem sg_three (l : B) : sg l 3 = decide (l ≠ [] ∧ (l.takeWhile digit).length = l.length) := by
  cases l with
  | nil => rfl
  | cons c r =>
    unfold sg
    rw [decide_eq_decide]
    by_cases h1 : letter c = true
    · rw [next_letter h1]
      constructor
      · rintro ⟨_, _, h⟩
        dsimp only at h
        split at h <;> cases h
      · rintro ⟨_, h⟩
        have : digit c = true := by
          rw [List.takeWhile_cons] at h
          by_cases h2 : digit c = true
          · exact h2
          · rw [if_neg h2] at h; simp at h
        exact absurd h1 (letter_digit this)
    · by_cases h2 : digit c = true
      · rw [next_digit h1 h2, take_takeWhile]
        constructor
        · rintro ⟨a, b, _⟩; exact ⟨a, by rw [b]⟩
        · rintro ⟨a, b⟩
          exact ⟨a, (List.takeWhile_prefix digit).eq_of_length b, rfl⟩
      · rw [next_sign h1 h2]
        constructor
        · rintro ⟨_, _, h⟩
          split at h <;> cases h
        · rintro ⟨_, h⟩
          rw [List.takeWhile_cons, if_neg h2] at h; simp at h
end Go.Proofs.Ytpccakfbmbkmlaa.Tk
namespace Go.Proofs.Ytpccakfbmbkmlaa.PAll
open Go.RowKit Go.Proofs.YtpccakfbmbkmlaaW.PrintWords Go.Proofs.YtpccakfbmbkmlaaW.PrintLast Go.Proofs.YtpccakfbmbkmlaaW.PrintMore
set_option linter.unusedVariables false
set_option linter.unusedSimpArgs false
open Tk (B)
theorem single_ev (l : B) (hl : l.length < 4611686018427387904) (n z : Int) : Ev (fun k => token_single.f k n (ba l) z) (Tk.sg l n) := by
  by_cases h : l = []
  · subst h
    refine Ev.congr (fun k => ?_) (Ev.now _)
    unfold token_single.f
    rw [if_pos (by rw [ba_toList])]; rfl
  · have h1 := first_ev l hl h
    refine Ev.congr (fun k => ?_) (Ev.bind (f := fun _ (bt : Int × ByteArray × Int) => if bt.1 = n then (if bt.2.1.toList = (ba l).toList then (some (bt.1 != 0)) else (some false)) else (some false)) h1 ?_)
    · unfold token_single.f
      rw [if_neg (by rw [ba_toList]; exact h)]
    · dsimp only
      rw [ba_toList, ba_toList]
      refine Ev.congr (fun k => ?_) (Ev.now _)
      unfold Tk.sg
      have hk := Tk.next_kind l
      by_cases h2 : (Tk.next l).1 = n
      · rw [if_pos h2]
        by_cases h3 : l.take (Tk.next l).2 = l
        · rw [if_pos h3, decide_eq_true ⟨h, h3, h2⟩]
          rcases hk with hk | hk
          · rw [hk.1, List.take_zero] at h3; exact absurd h3.symm h
          · have : ((Tk.next l).1 != 0) = true := bne_iff_ne.mpr (by omega)
            rw [this]
        · rw [if_neg h3, decide_eq_false (fun e => h3 e.2.1)]
      · rw [if_neg h2, decide_eq_false (fun e => h2 e.2.2)]
theorem rToken_ev (l : B) (hl : l.length < 4611686018427387904) (n z : Int) : Ev (fun k => biremeref02_Token.f k n (ba l) z) (Tk.sg l n) := by
  by_cases h : l = []
  · subst h
    refine Ev.congr (fun k => ?_) (Ev.now _)
    unfold biremeref02_Token.f
    rw [if_pos (show (((ba []).size : Int)) = 0 from rfl)]; rfl
  · have hpos := List.length_pos_iff.mpr h
    have h1 := Skip_ev l hl (i := 0) (Nat.zero_le _)
    have h2 := Next_ev l hl hpos
    rw [List.drop_zero] at h1
    have hle := Tk.skip_le l
    by_cases hs : Tk.skip l = l
    · rw [hs, Nat.sub_self] at h1
      refine Ev.congr (fun k => ?_) (Ev.bind (f := fun k t => if t > 0 then (some false) else ((biremeref02_Next.f k (ba l) 0).bind fun bt270 => (if bt270.2.2.2 = true then (if bt270.2.1.toList = (ba l).toList then (some (bt270.1 == n)) else (some false)) else (some false)))) h1 ?_)
      · unfold biremeref02_Token.f
        rw [if_neg (by rw [ba_size]; omega)]
        rfl
      · refine Ev.congr (fun k => if_neg (by omega)) ?_
        refine Ev.bind (f := fun _ (bt : Int × ByteArray × Int × Bool) => if bt.2.2.2 = true then (if bt.2.1.toList = (ba l).toList then (some (bt.1 == n)) else (some false)) else (some false)) h2 ?_
        unfold nextR
        dsimp only
        rw [List.drop_zero, ba_toList, ba_toList]
        refine Ev.congr (fun k => ?_) (Ev.now _)
        unfold Tk.sg
        have hk := Tk.next_kind l
        by_cases h3 : (Tk.next l).2 = 0
        · rw [h3, List.take_zero, decide_eq_false (by omega), if_neg (by decide), decide_eq_false (fun e => h e.2.1.symm)]
        · rw [decide_eq_true (by omega), if_pos rfl, if_neg h3]
          by_cases h4 : l.take (Tk.next l).2 = l
          · rw [if_pos h4]
            by_cases h5 : (Tk.next l).1 = n
            · rw [decide_eq_true ⟨h, h4, h5⟩, beq_iff_eq.mpr h5]
            · rw [decide_eq_false (fun e => h5 e.2.2), beq_eq_false_iff_ne.mpr h5]
          · rw [if_neg h4, decide_eq_false (fun e => h4 e.2.1)]
    · have hlt : (Tk.skip l).length < l.length := Nat.lt_of_le_of_ne hle (fun e => hs (Tk.skip_eq e))
      refine Ev.congr (fun k => ?_) (Ev.bind (f := fun k t => if t > 0 then (some false) else ((biremeref02_Next.f k (ba l) 0).bind fun bt270 => (if bt270.2.2.2 = true then (if bt270.2.1.toList = (ba l).toList then (some (bt270.1 == n)) else (some false)) else (some false)))) h1 ?_)
      · unfold biremeref02_Token.f
        rw [if_neg (by rw [ba_size]; omega)]
        rfl
      · refine Ev.congr (fun k => if_pos (by omega)) ?_
        have : Tk.sg l n = false := decide_eq_false (fun e => Tk.sg_skip hs e.2.1)
        rw [this]; exact Ev.now _
theorem isName_ev (l : B) : Ev (fun k => token_IsName.f k (ba l)) (decide (l.length ≤ 40) && Tk.sg l 1) := by
  by_cases h : l.length ≤ 40
  · rw [decide_eq_true h, Bool.true_and]
    refine Ev.congr (fun k => ?_) (Ev.bind (f := fun _ t => some t) (single_ev l (by omega) 1 0) (Ev.now _))
    unfold token_IsName.f
    rw [if_pos (by rw [ba_size]; omega)]
  · rw [decide_eq_false h, Bool.false_and]
    refine Ev.congr (fun k => ?_) (Ev.now _)
    unfold token_IsName.f
    rw [if_neg (by rw [ba_size]; omega)]
theorem rIsName_ev (l : B) : Ev (fun k => biremeref02_IsName.f k (ba l)) (decide (l.length ≤ 40) && Tk.sg l 1) := by
  by_cases h : l.length ≤ 40
  · rw [decide_eq_true h, Bool.true_and]
    refine Ev.congr (fun k => ?_) (Ev.bind (f := fun _ t => some t) (rToken_ev l (by omega) 1 0) (Ev.now _))
    unfold biremeref02_IsName.f
    rw [if_pos (by rw [ba_size]; omega)]
  · rw [decide_eq_false h, Bool.false_and]
    refine Ev.congr (fun k => ?_) (Ev.now _)
    unfold biremeref02_IsName.f
    rw [if_neg (by rw [ba_size]; omega)]
theorem texts_l0 (xs : List B) (hx : xs.length < 1000000) : ∀ (n i : Nat), xs.length - i = n → i ≤ xs.length → Ev (fun k => biremelaw02_texts.l0 k (xs.map ba) (xs.map ba) (i : Int)) true := by
  intro n
  induction n with
  | zero =>
    intro i hn hi
    refine Ev.one (Ev.congr (fun k => ?_) (Ev.now _))
    simp only [biremelaw02_texts.l0]
    rw [List.length_map, if_neg (by omega)]
  | succ n ih =>
    intro i hn hi
    refine Ev.one (Ev.congr (fun k => ?_) (ih (i + 1) (by omega) (by omega)))
    simp only [biremelaw02_texts.l0]
    rw [List.length_map, if_pos (by omega), if_pos (by omega), if_pos (by omega), if_pos trivial, w64 (n := (i : Int) + 1) (by omega) (by omega)]
    rfl
theorem texts_ev (xs : List B) (hx : xs.length < 1000000) : Ev (fun k => biremelaw02_texts.f k (xs.map ba) (xs.map ba)) true := by
  refine Ev.congr (fun k => ?_) (texts_l0 xs hx _ 0 rfl (Nat.zero_le _))
  unfold biremelaw02_texts.f
  rw [if_pos rfl]; rfl
theorem Number_ev (l : B) (hl : l.length < 4611686018427387904) (n z : Int) : Ev (fun k => biremeref02_Number.f k n (ba l) z) (decide (n = 3) && Tk.sg l 3) := by
  by_cases h : n = 3
  · subst h
    rw [decide_eq_true rfl, Bool.true_and]
    refine Ev.congr (fun k => ?_) (Ev.bind (f := fun _ t => some t) (rToken_ev l hl 3 z) (Ev.now _))
    unfold biremeref02_Number.f
    rw [if_pos rfl]
  · rw [decide_eq_false h, Bool.false_and]
    refine Ev.congr (fun k => ?_) (Ev.now _)
    unfold biremeref02_Number.f
    rw [if_neg h]
/-- Both sides' loops over a number's digits. -/
theorem value_l0 (l : B) (hl : l.length < 4611686018427387904) (n z : Int) : ∀ (d i : Nat) (x : Int), l.length - i = d → i ≤ l.length → 0 ≤ x → x ≤ 9223372036854775807 → ∃ (v : Int) (ok : Bool),
    Ev (fun k => token_Value.l0 k x (l.length : Int) (i : Int) n (ba l) z) (if ok = true then (v, 0) else (0, 3)) ∧ Ev (fun k => biremeref02_Value.l0 k (ba l) x (i : Int)) (if ok = true then (v, true) else (0, false)) := by
  intro d
  induction d with
  | zero =>
    intro i x hd hi h0 h1
    refine ⟨x, true, ?_, ?_⟩
    · rw [if_pos rfl]
      refine Ev.one (Ev.congr (fun k => ?_) (Ev.now _))
      simp only [token_Value.l0]
      rw [if_neg (by omega)]
    · rw [if_pos rfl]
      refine Ev.one (Ev.congr (fun k => ?_) (Ev.now _))
      simp only [biremeref02_Value.l0]
      rw [ba_size, if_neg (by omega)]
  | succ d ih =>
    intro i x hd hi h0 h1
    generalize hb : (bt (ba l) (i : Int) - 48) % 256 = c
    have hc : 0 ≤ c ∧ c < 256 := by omega
    by_cases hbig : x > (9223372036854775807 - c) / 10
    · refine ⟨0, false, ?_, ?_⟩
      · rw [if_neg (by decide)]
        refine Ev.one (Ev.congr (fun k => ?_) (Ev.now _))
        simp only [token_Value.l0]
        rw [if_pos (by omega), if_pos (by omega), ba_size, if_pos (by omega), hb, if_pos hbig]
      · rw [if_neg (by decide)]
        refine Ev.one (Ev.congr (fun k => ?_) (Ev.now _))
        simp only [biremeref02_Value.l0]
        rw [ba_size, if_pos (by omega), if_pos (by omega), hb, if_pos hbig]
    · obtain ⟨v, ok, e1, e2⟩ := ih (i + 1) (x * 10 + c) (by omega) (by omega) (by omega) (by omega)
      refine ⟨v, ok, ?_, ?_⟩
      · refine Ev.one (Ev.congr (fun k => ?_) e1)
        simp only [token_Value.l0]
        rw [if_pos (by omega), if_pos (by omega), ba_size, if_pos (by omega), hb, if_neg hbig, w64 (n := x * 10) (by omega) (by omega), w64 (n := x * 10 + c) (by omega) (by omega), w64 (n := (i : Int) + 1) (by omega) (by omega)]
        rfl
      · refine Ev.one (Ev.congr (fun k => ?_) e2)
        simp only [biremeref02_Value.l0]
        rw [ba_size, if_pos (by omega), if_pos (by omega), hb, if_neg hbig, Int.mul_comm 10 x, w64 (n := x * 10) (by omega) (by omega), w64 (n := x * 10 + c) (by omega) (by omega), w64 (n := (i : Int) + 1) (by omega) (by omega)]
        rfl
theorem Value_bad (l : B) (n z : Int) (x : Bool) (hx : x = true) : Ev (fun k => token_Value.j0 k x n (ba l) z) (0, 2) := by
  refine Ev.one (Ev.congr (fun k => ?_) (Ev.now _))
  simp only [token_Value.j0]
  rw [if_pos hx]
/-- Both sides on the value of a number. -/
theorem Value_both (l : B) (hl : l.length < 4611686018427387904) (n z : Int) :
    if (decide (n = 3) && Tk.sg l 3) = true then ∃ (v : Int) (ok : Bool), Ev (fun k => token_Value.f k n (ba l) z) (if ok = true then (v, 0) else (0, 3)) ∧ Ev (fun k => biremeref02_Value.f k (ba l)) (if ok = true then (v, true) else (0, false))
    else Ev (fun k => token_Value.f k n (ba l) z) (0, 2) := by
  rw [Tk.sg_three]
  have hw := while_f l 35 (p := Tk.digit) rfl (by omega)
  by_cases h : n = 3
  · subst h
    rw [decide_eq_true rfl, Bool.true_and]
    by_cases h2 : l = []
    · rw [decide_eq_false (fun e => e.1 h2), if_neg (by decide)]
      refine Ev.congr (fun k => ?_) (Value_bad l 3 z true rfl)
      unfold token_Value.f
      rw [if_pos rfl, if_pos (by rw [ba_toList]; exact h2)]
    · have hle := Tk.length_takeWhile_le Tk.digit l
      by_cases h3 : (l.takeWhile Tk.digit).length = l.length
      · rw [decide_eq_true ⟨h2, h3⟩, if_pos rfl]
        obtain ⟨v, ok, e1, e2⟩ := value_l0 l hl 3 z _ 0 0 rfl (Nat.zero_le _) (Int.le_refl _) (by omega)
        refine ⟨v, ok, ?_, ?_⟩
        · refine Ev.congr (f := fun k => token_Value.j0 k false 3 (ba l) z) (fun k => ?_) (Ev.one (Ev.congr (fun k => ?_) e1))
          · unfold token_Value.f
            rw [if_pos rfl, if_neg (by rw [ba_toList]; exact h2), hw, Option.bind_some, ba_size, decide_eq_false (by omega)]
          · simp only [token_Value.j0]
            rw [if_neg (by decide), ba_size]; rfl
        · exact Ev.congr (fun k => by unfold biremeref02_Value.f; rfl) e2
      · rw [decide_eq_false (fun e => h3 e.2), if_neg (by decide)]
        refine Ev.congr (fun k => ?_) (Value_bad l 3 z true rfl)
        unfold token_Value.f
        rw [if_pos rfl, if_neg (by rw [ba_toList]; exact h2), hw, Option.bind_some, ba_size, decide_eq_true (by omega)]
  · rw [decide_eq_false h, Bool.false_and, if_neg (by decide)]
    refine Ev.congr (fun k => ?_) (Value_bad l n z true rfl)
    unfold token_Value.f
    rw [if_neg h]
end Go.Proofs.Ytpccakfbmbkmlaa.PAll
