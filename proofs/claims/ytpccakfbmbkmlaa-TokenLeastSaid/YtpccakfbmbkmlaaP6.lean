/- One token alone: both sides' answers. -/
import Derived.Test.YtpccakfbmbkmlaaTS
import Derived.Test.YtpccakfbmbkmlaaP4
namespace Go.Proofs.Ytpccakfbmbkmlaa.Tk
/-- Does a text consist of one token of a kind? -/
def sg (l : B) (k : Int) : Bool := decide (l ≠ [] ∧ l.take (next l).2 = l ∧ (next l).1 = k)
theorem blank_letter {c : UInt8} (h : blank c = true) : letter c ≠ true ∧ digit c ≠ true ∧ ∀ x ∈ signL, x.head? ≠ some c := by
  have : c = 32 ∨ c = 9 ∨ c = 10 ∨ c = 13 := by simpa [blank, or_assoc] using h
  rcases this with rfl | rfl | rfl | rfl <;> decide
theorem next_blank {c : UInt8} {r : B} (h : blank c = true) : (next (c :: r)).2 = 0 := by
  obtain ⟨h1, h2, h3⟩ := blank_letter h
  rw [next_sign h1 h2]
  have : signLen (c :: r) = 0 := by
    unfold signLen
    rw [if_neg (fun e => ?_), if_neg (fun e => ?_)]
    · exact h3 _ (List.contains_iff_mem.mp e.2) rfl
    · refine h3 _ (List.contains_iff_mem.mp e.2) ?_
      cases r <;> rfl
  rw [if_pos this]
theorem next_rem {r : B} (h : r.head? = some 47) : next (47 :: r) = (4, 1) := by
  cases r with
  | nil => cases h
  | cons x r =>
    obtain rfl : x = 47 := by simpa using h
    rw [next_sign (by decide) (by decide)]
    have : signLen (47 :: 47 :: r) = 1 := by
      unfold signLen
      rw [if_neg (fun e => absurd e.2 (show ¬ signL.contains [47, 47] = true by decide)), if_pos ⟨by simp, show signL.contains [47] = true by decide⟩]
    rw [this]; rfl
/-- A text that begins with blanks or a remark is no token. -/
theorem sg_skip {l : B} (h : skip l ≠ l) : l.take (next l).2 ≠ l := by
  cases l with
  | nil => exact absurd rfl h
  | cons c r =>
    intro e
    by_cases h1 : blank c = true
    · rw [next_blank h1] at e; cases e
    · by_cases h2 : c = 47 ∧ r.head? = some 47
      · obtain ⟨rfl, h3⟩ := h2
        rw [next_rem h3] at e
        cases r with
        | nil => cases h3
        | cons x r => simp at e
      · exact h (skip_stop h1 h2)
theorem skip_eq {l : B} (h : (skip l).length = l.length) : skip l = l := (skip_suffix l).eq_of_length h
end Go.Proofs.Ytpccakfbmbkmlaa.Tk
namespace Go.Proofs.Ytpccakfbmbkmlaa.PAll
open Go.RowKit Go.Proofs.YtpccakfbmbkmlaaW.PrintWords Go.Proofs.YtpccakfbmbkmlaaW.PrintLast Go.Proofs.YtpccakfbmbkmlaaW.PrintMore
set_option linter.unusedVariables false
set_option linter.unusedSimpArgs false
open Tk (B)
theorem single_ev (l : B) (hl : l.length < 4611686018427387904) (n z : Int) : Ev (fun k => token_single.f k n (ba l) z) (Tk.sg l n) := by
  by_cases h : l = []
  · subst h
    refine Ev.congr (fun k => ?_) (Ev.now _)
    unfold token_single.f
    rw [if_pos (by rw [ba_toList])]; rfl
  · have h1 := first_ev l hl h
    refine Ev.congr (fun k => ?_) (Ev.bind (f := fun _ (bt : Int × ByteArray × Int) => if bt.1 = n then (if bt.2.1.toList = (ba l).toList then (some (bt.1 != 0)) else (some false)) else (some false)) h1 ?_)
    · unfold token_single.f
      rw [if_neg (by rw [ba_toList]; exact h)]
    · dsimp only
      rw [ba_toList, ba_toList]
      refine Ev.congr (fun k => ?_) (Ev.now _)
      unfold Tk.sg
      have hk := Tk.next_kind l
      by_cases h2 : (Tk.next l).1 = n
      · rw [if_pos h2]
        by_cases h3 : l.take (Tk.next l).2 = l
        · rw [if_pos h3, decide_eq_true ⟨h, h3, h2⟩]
          rcases hk with hk | hk
          · rw [hk.1, List.take_zero] at h3; exact absurd h3.symm h
          · have : ((Tk.next l).1 != 0) = true := bne_iff_ne.mpr (by omega)
            rw [this]
        · rw [if_neg h3, decide_eq_false (fun e => h3 e.2.1)]
      · rw [if_neg h2, decide_eq_false (fun e => h2 e.2.2)]
theorem rToken_ev (l : B) (hl : l.length < 4611686018427387904) (n z : Int) : Ev (fun k => biremeref02_Token.f k n (ba l) z) (Tk.sg l n) := by
  by_cases h : l = []
  · subst h
    refine Ev.congr (fun k => ?_) (Ev.now _)
    unfold biremeref02_Token.f
    rw [if_pos (show (((ba []).size : Int)) = 0 from rfl)]; rfl
  · have hpos := List.length_pos_iff.mpr h
    have h1 := Skip_ev l hl (i := 0) (Nat.zero_le _)
    have h2 := Next_ev l hl hpos
    rw [List.drop_zero] at h1
    have hle := Tk.skip_le l
    by_cases hs : Tk.skip l = l
    · rw [hs, Nat.sub_self] at h1
      refine Ev.congr (fun k => ?_) (Ev.bind (f := fun k t => if t > 0 then (some false) else ((biremeref02_Next.f k (ba l) 0).bind fun bt270 => (if bt270.2.2.2 = true then (if bt270.2.1.toList = (ba l).toList then (some (bt270.1 == n)) else (some false)) else (some false)))) h1 ?_)
      · unfold biremeref02_Token.f
        rw [if_neg (by rw [ba_size]; omega)]
        rfl
      · refine Ev.congr (fun k => if_neg (by omega)) ?_
        refine Ev.bind (f := fun _ (bt : Int × ByteArray × Int × Bool) => if bt.2.2.2 = true then (if bt.2.1.toList = (ba l).toList then (some (bt.1 == n)) else (some false)) else (some false)) h2 ?_
        unfold nextR
        dsimp only
        rw [List.drop_zero, ba_toList, ba_toList]
        refine Ev.congr (fun k => ?_) (Ev.now _)
        unfold Tk.sg
        have hk := Tk.next_kind l
        by_cases h3 : (Tk.next l).2 = 0
        · rw [h3, List.take_zero, decide_eq_false (by omega), if_neg (by decide), decide_eq_false (fun e => h e.2.1.symm)]
        · rw [decide_eq_true (by omega), if_pos rfl, if_neg h3]
          by_cases h4 : l.take (Tk.next l).2 = l
          · rw [if_pos h4]
            by_cases h5 : (Tk.next l).1 = n
            · rw [decide_eq_true ⟨h, h4, h5⟩, beq_iff_eq.mpr h5]
            · rw [decide_eq_false (fun e => h5 e.2.2), beq_eq_false_iff_ne.mpr h5]
          · rw [if_neg h4, decide_eq_false (fun e => h4 e.2.1)]
    · have hlt : (Tk.skip l).length < l.length := Nat.lt_of_le_of_ne hle (fun e => hs (Tk.skip_eq e))
      refine Ev.congr (fun k => ?_) (Ev.bind (f := fun k t => if t > 0 then (some false) else ((biremeref02_Next.f k (ba l) 0).bind fun bt270 => (if bt270.2.2.2 = true then (if bt270.2.1.toList = (ba l).toList then (some (bt270.1 == n)) else (some false)) else (some false)))) h1 ?_)
      · unfold biremeref02_Token.f
        rw [if_neg (by rw [ba_size]; omega)]
        rfl
      · refine Ev.congr (fun k => if_pos (by omega)) ?_
        have : Tk.sg l n = false := decide_eq_false (fun e => Tk.sg_skip hs e.2.1)
        rw [this]; exact Ev.now _
end Go.Proofs.Ytpccakfbmbkmlaa.PAll
