/- A call of while with one of the program's function values returns the length of the beginning of that sort. -/
import Derived.Test.YtpccakfbmbkmlaaT1
import Derived.Test.YtpccakfbmbkmlaaD
import Derived.Test.YtpccakfbmbkmlaaB1
import Derived.LoopTactic
namespace Go.Proofs.Ytpccakfbmbkmlaa.PAll
open Go.RowKit Go.Proofs.YtpccakfbmbkmlaaW.PrintWords Go.Proofs.YtpccakfbmbkmlaaW.PrintLast Go.Proofs.YtpccakfbmbkmlaaW.PrintMore
set_option linter.unusedVariables false
set_option linter.unusedSimpArgs false
/-- What is asked of a function value: on each byte it answers by p, and leaves what was there. -/
def Sorts (g : Nat) (p : UInt8 → Bool) : Prop := ∀ (c : UInt8) (w : World), Calls Try.prog g #[.int .u8 (c.toNat : Int)] w fun e w' => e = .returned (.bool (p c)) ∧ Drawn0 w w'

theorem digit_f (c : UInt8) : token_digit.f (c.toNat : Int) = some (Tk.digit c) := by
  unfold token_digit.f Tk.digit
  simp only [UInt8.le_iff_toNat_le]
  by_cases h : (48 : Int) ≤ c.toNat
  · rw [if_pos h]
    have h1 : 48 ≤ c.toNat := by omega
    have h2 : ((c.toNat : Int) ≤ 57) = (c.toNat ≤ 57) := by apply propext; omega
    simp [h1, h2]
  · rw [if_neg h]
    have h1 : ¬ 48 ≤ c.toNat := by omega
    simp [h1]
theorem letter_f (c : UInt8) : token_letter.f (c.toNat : Int) = some (Tk.letter c) := by
  unfold token_letter.f Tk.letter
  have e1 : ((c.toNat : Int) ≥ 97) = (97 ≤ c.toNat) := by apply propext; omega
  have e2 : ((c.toNat : Int) ≤ 122) = (c.toNat ≤ 122) := by apply propext; omega
  have e3 : ((c.toNat : Int) ≥ 65) = (65 ≤ c.toNat) := by apply propext; omega
  have e4 : ((c.toNat : Int) ≤ 90) = (c.toNat ≤ 90) := by apply propext; omega
  have e5 : ((c.toNat : Int) == 95) = (c == 95) := by rw [Bool.eq_iff_iff]; simp [← UInt8.toNat_inj]; omega
  simp only [e1, e2, e3, e4, e5, UInt8.le_iff_toNat_le]
  by_cases h1 : 97 ≤ c.toNat <;> by_cases h2 : c.toNat ≤ 122 <;> by_cases h3 : 65 ≤ c.toNat <;> by_cases h4 : c.toNat ≤ 90 <;> simp [h1, h2, h3, h4]
theorem sorts_digit : Sorts 35 Tk.digit := fun c w => token_digit.calls (c.toNat : Int) (Tk.digit c) w (digit_f c)
theorem sorts_ne : Sorts 55 (fun c => c != 10) := fun c w => by
  have hb : ((c.toNat : Int) != 10) = (c != 10) := by
    rw [Bool.eq_iff_iff]; simp [← UInt8.toNat_inj]; omega
  go_enter Try.func55, Try.ntmps55
  go_wp2
  go_ret
  exact ⟨rfl, Drawn0.refl _⟩
theorem blank_ix (c : UInt8) : decide (0 ≤ Lib.indexByte [32, 9, 10, 13] c) = Tk.blank c := by
  unfold Tk.blank
  by_cases h1 : c = 32
  · subst h1; rfl
  by_cases h2 : c = 9
  · subst h2; rfl
  by_cases h3 : c = 10
  · subst h3; rfl
  by_cases h4 : c = 13
  · subst h4; rfl
  have g1 : (32 == c) = false := beq_eq_false_iff_ne.mpr (Ne.symm h1)
  have g2 : (9 == c) = false := beq_eq_false_iff_ne.mpr (Ne.symm h2)
  have g3 : (10 == c) = false := beq_eq_false_iff_ne.mpr (Ne.symm h3)
  have g4 : (13 == c) = false := beq_eq_false_iff_ne.mpr (Ne.symm h4)
  simp [Lib.indexByte, g1, g2, g3, g4, h1, h2, h3, h4]
theorem sorts_blank : Sorts 53 Tk.blank := fun c w => by
  have hb := blank_ix c
  go_enter Try.func53, Try.ntmps53
  go_wp2_with (go_at_call 54; refine (Try.strings_IndexByte _ _ _).mono ?_; rintro e w' ⟨rfl, rfl⟩)
  go_ret
  refine ⟨?_, Drawn0.refl _⟩
  have : (c.toNat : Int).toNat.toUInt8 = c := by simp
  simp [this, hb]
theorem sorts_name : Sorts 57 (fun c => Tk.letter c || Tk.digit c) := fun c w => by
  by_cases h : Tk.letter c = true
  · have hl := h ▸ letter_f c
    go_enter Try.func57, Try.ntmps57
    go_wp2_with (go_at_call 56; refine (token_letter.calls _ _ _ hl).mono ?_; rintro e w' ⟨rfl, ⟨n, rfl⟩⟩)
    go_ret
    exact ⟨by simp [h], by repeat (first | exact Drawn0.refl _ | apply Drawn0.step)⟩
  · have h' : Tk.letter c = false := by simpa using h
    have hl := h' ▸ letter_f c
    have hd := digit_f c
    go_enter Try.func57, Try.ntmps57
    go_wp2_with (first | (go_at_call 56; refine (token_letter.calls _ _ _ hl).mono ?_; rintro e w' ⟨rfl, ⟨n, rfl⟩⟩) | (go_at_call 35; refine (token_digit.calls _ _ _ hd).mono ?_; rintro e w' ⟨rfl, ⟨n, rfl⟩⟩))
    go_ret
    exact ⟨by simp [h'], by repeat (first | exact Drawn0.refl _ | apply Drawn0.step)⟩
theorem span_step {p : UInt8 → Bool} {l : List UInt8} {k : Nat} (hk : k < l.length) (hall : k ≤ (l.takeWhile p).length) :
    (p l[k] = true → k + 1 ≤ (l.takeWhile p).length) ∧ (p l[k] = false → (l.takeWhile p).length = k) := by
  induction l generalizing k with
  | nil => simp at hk
  | cons c l ih =>
    cases k with
    | zero =>
      constructor
      · intro h; simp only [List.getElem_cons_zero] at h; simp [List.takeWhile_cons, h]
      · intro h; simp only [List.getElem_cons_zero] at h; simp [List.takeWhile_cons, h]
    | succ k =>
      by_cases hc : p c = true
      · simp only [List.takeWhile_cons, hc, if_true, List.length_cons] at hall ⊢
        have := ih (k := k) (by simpa using hk) (by omega)
        simp only [List.getElem_cons_succ]
        exact ⟨fun h => by have := this.1 h; omega, fun h => by have := this.2 h; omega⟩
      · simp [List.takeWhile_cons, hc] at hall
theorem while_35 (s : ByteArray) (hs : s.size ≤ 9223372036854775807) (w : World) :
    Calls Try.prog 34 #[.string s, .func (.func 35) #[] #[]] w fun e w' => e = .returned (.int .i64 ((s.data.toList.takeWhile Tk.digit).length : Int)) ∧ Below w.heap.size w w' := by
  obtain ⟨p, hp⟩ : ∃ p : UInt8 → Bool, p = Tk.digit := ⟨_, rfl⟩
  rw [← hp]
  have hS : Sorts 35 p := hp ▸ sorts_digit
  clear hp
  have hlen : (s.data.toList.takeWhile p).length ≤ s.size := by
    have := (List.takeWhile_sublist p (l := s.data.toList)).length_le
    simpa using this
  go_enter Try.func34, Try.ntmps34
  go_wp2
  go_loopw [4, 5, 8] (fun n5 n9 i wr => ∃ k : Nat, k ≤ (s.data.toList.takeWhile p).length ∧ i = .int .i64 k ∧ n5 = .int .i64 0 ∧ Below w.heap.size w wr) (fun _ _ i _ => s.size - (intOf i).toNat)
  case atStart => exact ⟨0, Nat.zero_le _, rfl, rfl, Below.refl _ _⟩
  case round =>
    obtain ⟨k, hk, rfl, rfl, hb⟩ := hrel
    by_cases hlt : k < s.size
    · have hst := span_step (p := p) (l := s.data.toList) (k := k) (by simpa using hlt) hk
      have hc := hS s[k]
      by_cases hpc : p s[k] = true
      · have hk1 := hst.1 hpc
        clear hst
        go_wp2_with (go_at_call 35; refine (hc _).mono ?_; rintro e w' ⟨rfl, ⟨n, rfl⟩⟩)
        go_roundw
        case rel => exact ⟨k + 1, hk1, by go_num, rfl, pw_below_drewN hb _⟩
        case measure => simp [intOf]; omega
      · have hpc' : p s[k] = false := by simpa using hpc
        have hk1 := hst.2 hpc'
        clear hst hpc
        go_wp2_with (go_at_call 35; refine (hc _).mono ?_; rintro e w' ⟨rfl, ⟨n, rfl⟩⟩)
        go_ret
        exact ⟨by rw [hk1]; rfl, pw_below_drewN hb _⟩
    · have hk1 : (s.data.toList.takeWhile p).length = s.size := by omega
      have hk2 : k = s.size := by omega
      subst hk2
      go_wp2
      go_ret
      exact ⟨by rw [hk1]; rfl, hb⟩
theorem while_53 (s : ByteArray) (hs : s.size ≤ 9223372036854775807) (w : World) :
    Calls Try.prog 34 #[.string s, .func (.func 53) #[] #[]] w fun e w' => e = .returned (.int .i64 ((s.data.toList.takeWhile Tk.blank).length : Int)) ∧ Below w.heap.size w w' := by
  obtain ⟨p, hp⟩ : ∃ p : UInt8 → Bool, p = Tk.blank := ⟨_, rfl⟩
  rw [← hp]
  have hS : Sorts 53 p := hp ▸ sorts_blank
  clear hp
  have hlen : (s.data.toList.takeWhile p).length ≤ s.size := by
    have := (List.takeWhile_sublist p (l := s.data.toList)).length_le
    simpa using this
  go_enter Try.func34, Try.ntmps34
  go_wp2
  go_loopw [4, 5, 8] (fun n5 n9 i wr => ∃ k : Nat, k ≤ (s.data.toList.takeWhile p).length ∧ i = .int .i64 k ∧ n5 = .int .i64 0 ∧ Below w.heap.size w wr) (fun _ _ i _ => s.size - (intOf i).toNat)
  case atStart => exact ⟨0, Nat.zero_le _, rfl, rfl, Below.refl _ _⟩
  case round =>
    obtain ⟨k, hk, rfl, rfl, hb⟩ := hrel
    by_cases hlt : k < s.size
    · have hst := span_step (p := p) (l := s.data.toList) (k := k) (by simpa using hlt) hk
      have hc := hS s[k]
      by_cases hpc : p s[k] = true
      · have hk1 := hst.1 hpc
        clear hst
        go_wp2_with (go_at_call 53; refine (hc _).mono ?_; rintro e w' ⟨rfl, ⟨n, rfl⟩⟩)
        go_roundw
        case rel => exact ⟨k + 1, hk1, by go_num, rfl, pw_below_drewN hb _⟩
        case measure => simp [intOf]; omega
      · have hpc' : p s[k] = false := by simpa using hpc
        have hk1 := hst.2 hpc'
        clear hst hpc
        go_wp2_with (go_at_call 53; refine (hc _).mono ?_; rintro e w' ⟨rfl, ⟨n, rfl⟩⟩)
        go_ret
        exact ⟨by rw [hk1]; rfl, pw_below_drewN hb _⟩
    · have hk1 : (s.data.toList.takeWhile p).length = s.size := by omega
      have hk2 : k = s.size := by omega
      subst hk2
      go_wp2
      go_ret
      exact ⟨by rw [hk1]; rfl, hb⟩
theorem while_55 (s : ByteArray) (hs : s.size ≤ 9223372036854775807) (w : World) :
    Calls Try.prog 34 #[.string s, .func (.func 55) #[] #[]] w fun e w' => e = .returned (.int .i64 ((s.data.toList.takeWhile (fun c => c != 10)).length : Int)) ∧ Below w.heap.size w w' := by
  obtain ⟨p, hp⟩ : ∃ p : UInt8 → Bool, p = (fun c => c != 10) := ⟨_, rfl⟩
  rw [← hp]
  have hS : Sorts 55 p := hp ▸ sorts_ne
  clear hp
  have hlen : (s.data.toList.takeWhile p).length ≤ s.size := by
    have := (List.takeWhile_sublist p (l := s.data.toList)).length_le
    simpa using this
  go_enter Try.func34, Try.ntmps34
  go_wp2
  go_loopw [4, 5, 8] (fun n5 n9 i wr => ∃ k : Nat, k ≤ (s.data.toList.takeWhile p).length ∧ i = .int .i64 k ∧ n5 = .int .i64 0 ∧ Below w.heap.size w wr) (fun _ _ i _ => s.size - (intOf i).toNat)
  case atStart => exact ⟨0, Nat.zero_le _, rfl, rfl, Below.refl _ _⟩
  case round =>
    obtain ⟨k, hk, rfl, rfl, hb⟩ := hrel
    by_cases hlt : k < s.size
    · have hst := span_step (p := p) (l := s.data.toList) (k := k) (by simpa using hlt) hk
      have hc := hS s[k]
      by_cases hpc : p s[k] = true
      · have hk1 := hst.1 hpc
        clear hst
        go_wp2_with (go_at_call 55; refine (hc _).mono ?_; rintro e w' ⟨rfl, ⟨n, rfl⟩⟩)
        go_roundw
        case rel => exact ⟨k + 1, hk1, by go_num, rfl, pw_below_drewN hb _⟩
        case measure => simp [intOf]; omega
      · have hpc' : p s[k] = false := by simpa using hpc
        have hk1 := hst.2 hpc'
        clear hst hpc
        go_wp2_with (go_at_call 55; refine (hc _).mono ?_; rintro e w' ⟨rfl, ⟨n, rfl⟩⟩)
        go_ret
        exact ⟨by rw [hk1]; rfl, pw_below_drewN hb _⟩
    · have hk1 : (s.data.toList.takeWhile p).length = s.size := by omega
      have hk2 : k = s.size := by omega
      subst hk2
      go_wp2
      go_ret
      exact ⟨by rw [hk1]; rfl, hb⟩
theorem while_57 (s : ByteArray) (hs : s.size ≤ 9223372036854775807) (w : World) :
    Calls Try.prog 34 #[.string s, .func (.func 57) #[] #[]] w fun e w' => e = .returned (.int .i64 ((s.data.toList.takeWhile (fun c => Tk.letter c || Tk.digit c)).length : Int)) ∧ Below w.heap.size w w' := by
  obtain ⟨p, hp⟩ : ∃ p : UInt8 → Bool, p = (fun c => Tk.letter c || Tk.digit c) := ⟨_, rfl⟩
  rw [← hp]
  have hS : Sorts 57 p := hp ▸ sorts_name
  clear hp
  have hlen : (s.data.toList.takeWhile p).length ≤ s.size := by
    have := (List.takeWhile_sublist p (l := s.data.toList)).length_le
    simpa using this
  go_enter Try.func34, Try.ntmps34
  go_wp2
  go_loopw [4, 5, 8] (fun n5 n9 i wr => ∃ k : Nat, k ≤ (s.data.toList.takeWhile p).length ∧ i = .int .i64 k ∧ n5 = .int .i64 0 ∧ Below w.heap.size w wr) (fun _ _ i _ => s.size - (intOf i).toNat)
  case atStart => exact ⟨0, Nat.zero_le _, rfl, rfl, Below.refl _ _⟩
  case round =>
    obtain ⟨k, hk, rfl, rfl, hb⟩ := hrel
    by_cases hlt : k < s.size
    · have hst := span_step (p := p) (l := s.data.toList) (k := k) (by simpa using hlt) hk
      have hc := hS s[k]
      by_cases hpc : p s[k] = true
      · have hk1 := hst.1 hpc
        clear hst
        go_wp2_with (go_at_call 57; refine (hc _).mono ?_; rintro e w' ⟨rfl, ⟨n, rfl⟩⟩)
        go_roundw
        case rel => exact ⟨k + 1, hk1, by go_num, rfl, pw_below_drewN hb _⟩
        case measure => simp [intOf]; omega
      · have hpc' : p s[k] = false := by simpa using hpc
        have hk1 := hst.2 hpc'
        clear hst hpc
        go_wp2_with (go_at_call 57; refine (hc _).mono ?_; rintro e w' ⟨rfl, ⟨n, rfl⟩⟩)
        go_ret
        exact ⟨by rw [hk1]; rfl, pw_below_drewN hb _⟩
    · have hk1 : (s.data.toList.takeWhile p).length = s.size := by omega
      have hk2 : k = s.size := by omega
      subst hk2
      go_wp2
      go_ret
      exact ⟨by rw [hk1]; rfl, hb⟩
def token_while.f (a0 : ByteArray) (g : Nat) : Option Int := if a0.size ≤ 9223372036854775807 then (Tk.sortOf g).map (fun p => ((a0.data.toList.takeWhile p).length : Int)) else none
theorem token_while.calls (a0 : ByteArray) (g : Nat) (r : Int) (w : World) (h : token_while.f a0 g = some r) :
    Calls Try.prog 34 #[.string a0, .func (.func g) #[] #[]] w fun e w' => e = .returned (.int .i64 r) ∧ Below w.heap.size w w' := by
  unfold token_while.f at h
  by_cases hs : a0.size ≤ 9223372036854775807
  · rw [if_pos hs] at h
    unfold Tk.sortOf at h
    by_cases h1 : g = 53
    · subst h1; obtain rfl := Option.some.inj h; exact while_53 a0 hs w
    by_cases h2 : g = 55
    · subst h2; obtain rfl := Option.some.inj h; exact while_55 a0 hs w
    by_cases h3 : g = 57
    · subst h3; obtain rfl := Option.some.inj h; exact while_57 a0 hs w
    by_cases h4 : g = 35
    · subst h4; obtain rfl := Option.some.inj h; exact while_35 a0 hs w
    · rw [if_neg h1, if_neg h2, if_neg h3, if_neg h4] at h; cases h
  · rw [if_neg hs] at h; cases h
end Go.Proofs.Ytpccakfbmbkmlaa.PAll
