/- What the printed functions on bytes, beginnings and lists compute, in plain words. -/
import Derived.Test.YtpccakfbmbkmlaaT8
import Derived.Test.YtpccakfbmbkmlaaT2
import Derived.Test.YtpccakfbmbkmlaaM1
namespace Go.Proofs.Ytpccakfbmbkmlaa.PAll
open Go.RowKit Go.Proofs.YtpccakfbmbkmlaaW.PrintWords Go.Proofs.YtpccakfbmbkmlaaW.PrintLast Go.Proofs.YtpccakfbmbkmlaaW.PrintMore
set_option linter.unusedVariables false
set_option linter.unusedSimpArgs false
open Tk (B)
/-- A text as the program has it. -/
def ba (l : B) : ByteArray := ⟨l.toArray⟩
theorem ba_data (l : B) : (ba l).data.toList = l := rfl
theorem ba_size (l : B) : (ba l).size = l.length := rfl
theorem ba_toList (l : B) : (ba l).toList = l := by rw [ByteArray.toList_eq]; rfl
theorem ba_of (s : ByteArray) : s = ba s.data.toList := rfl
theorem ba_surj (s : ByteArray) : ∃ l, s = ba l := ⟨_, ba_of s⟩
theorem ba_inj {a b : B} (h : ba a = ba b) : a = b := by rw [← ba_data a, h, ba_data]
theorem ba_append (a b : B) : ba a ++ ba b = ba (a ++ b) := by
  apply Go.WideShapes.bytes_inj
  rw [ByteArray.data_append, ba_data]
  simp [ba]
theorem ba_extract (l : B) (i j : Nat) : (ba l).extract i j = ba ((l.take j).drop i) := by
  apply Go.WideShapes.bytes_inj
  rw [ByteArray.data_extract, ba_data, Array.toList_extract]
  simp [ba, List.extract, List.drop_take]
theorem bt_ba {l : B} {i : Nat} (h : i < l.length) : bt (ba l) (i : Int) = (l[i].toNat : Int) := by
  unfold bt
  rw [dif_pos (by simpa [ba_size] using h)]
  rfl
theorem rdOf_map (xs : List B) {i : Nat} (h : i < xs.length) : rdOf ByteArray.empty (xs.map ba) (i : Int) = ba xs[i] := by
  unfold rdOf
  simp [h]
theorem w64 {n : Int} (h : -9223372036854775808 ≤ n) (h2 : n < 9223372036854775808) : wrap64 n = n := by
  unfold wrap64; omega

/-! ### Bytes -/
theorem rLetter_f (c : UInt8) : biremeref02_Letter.f (c.toNat : Int) = some (Tk.letter c) := letter_f c
theorem rDigit_f (c : UInt8) : biremeref02_Digit.f (c.toNat : Int) = some (Tk.digit c) := digit_f c
theorem rBlank_f (c : UInt8) : biremeref02_Blank.f (c.toNat : Int) = some (Tk.blank c) := by
  unfold biremeref02_Blank.f Tk.blank
  have e : ∀ n : Nat, n < 256 → (((c.toNat : Int) = (n : Int)) ↔ c = n.toUInt8) := by
    intro n hn
    rw [← UInt8.toNat_inj]
    have : (n.toUInt8).toNat = n := by simp; omega
    rw [this]; omega
  have e1 : ((c.toNat : Int) = 32) ↔ c = 32 := e 32 (by decide)
  have e2 : ((c.toNat : Int) = 9) ↔ c = 9 := e 9 (by decide)
  have e3 : ((c.toNat : Int) = 10) ↔ c = 10 := e 10 (by decide)
  have e4 : ((c.toNat : Int) = 13) ↔ c = 13 := e 13 (by decide)
  have e4' : ((c.toNat : Int) == 13) = (c == 13) := by rw [Bool.eq_iff_iff]; simpa using e4
  rw [e4']
  simp only [e1, e2, e3]
  by_cases h1 : c = 32
  · subst h1; rfl
  by_cases h2 : c = 9
  · subst h2; rfl
  by_cases h3 : c = 10
  · subst h3; rfl
  simp [h1, h2, h3]
theorem byte_eq (c : UInt8) (n : Nat) (hn : n < 256) : ((c.toNat : Int) = (n : Int)) = (c = n.toUInt8) := by
  apply propext
  rw [← UInt8.toNat_inj]
  have : (n.toUInt8).toNat = n := by simp; omega
  rw [this]; omega

/-! ### Beginnings and lists -/
theorem prefix_f (l p : B) : strings_HasPrefix.f (ba l) (ba p) = some (p.isPrefixOf l) := by
  unfold strings_HasPrefix.f stringslite_HasPrefix.f
  have e1 := ba_size l
  have e2 := ba_size p
  by_cases h : p.length ≤ l.length
  · rw [if_pos (by omega), if_pos (by omega), if_pos (by omega), Option.bind_some]
    congr 1
    rw [show (((ba p).size : Int)).toNat = p.length from rfl, ba_extract, ba_toList, ba_toList]
    rw [Bool.eq_iff_iff, List.isPrefixOf_iff_prefix, beq_iff_eq, List.drop_zero]
    constructor
    · intro h2; rw [← h2]; exact List.take_prefix _ _
    · intro h2; exact (List.prefix_iff_eq_take.mp h2).symm
  · rw [if_neg (by omega), Option.bind_some]
    congr 1
    rw [eq_comm, Bool.eq_false_iff]
    intro h2
    exact h (List.isPrefixOf_iff_prefix.mp h2).length_le
/-- One round more. -/
theorem Ev.one {α : Type} {g : Nat → Option α} {r : α} (h : Ev (fun k => g (k + 1)) r) : Ev g r := Ev.step (fun _ => rfl) h
theorem Has_l0 (xs : List B) (x : B) (hx : xs.length < 1000000) : ∀ (n i : Nat), xs.length - i = n → i ≤ xs.length →
    Ev (fun k => biremeref02_Has.l0 k (xs.map ba) (ba x) (i : Int)) ((xs.drop i).contains x) := by
  intro n
  induction n with
  | zero =>
    intro i hn hi
    refine Ev.one (Ev.congr (fun k => ?_) (Ev.now _))
    simp only [biremeref02_Has.l0]
    rw [if_neg (by rw [List.length_map]; omega), List.drop_eq_nil_of_le (by omega)]; rfl
  | succ n ih =>
    intro i hn hi
    have hlt : i < xs.length := by omega
    rw [List.drop_eq_getElem_cons hlt, List.contains_cons]
    by_cases he : xs[i] = x
    · refine Ev.one (Ev.congr (fun k => ?_) (Ev.now _))
      simp only [biremeref02_Has.l0]
      rw [if_pos (by rw [List.length_map]; omega), if_pos (by omega), rdOf_map xs hlt, ba_toList, ba_toList, if_pos he]
      simp [he]
    · have hb : (x == xs[i]) = false := beq_eq_false_iff_ne.mpr (fun e => he e.symm)
      rw [hb, Bool.false_or]
      refine Ev.one (Ev.congr (fun k => ?_) (ih (i + 1) (by omega) (by omega)))
      simp only [biremeref02_Has.l0]
      rw [if_pos (by rw [List.length_map]; omega), if_pos (by omega), rdOf_map xs hlt, ba_toList, ba_toList, if_neg he, w64 (by omega) (by omega)]
      rfl
theorem Has_ev (xs : List B) (x : B) (hx : xs.length < 1000000) : Ev (fun k => biremeref02_Has.f k (xs.map ba) (ba x)) (xs.contains x) := Has_l0 xs x hx _ 0 rfl (Nat.zero_le _)
theorem Index_l0 (xs : List B) (x : B) (hx : xs.length < 1000000) : ∀ (n i : Nat), xs.length - i = n → i ≤ xs.length →
    ∃ r : Int, Ev (fun k => slices_Index_string_string.l0 k (xs.map ba) (ba x) (xs.length : Int) (i : Int)) r ∧ (0 ≤ r ↔ (xs.drop i).contains x = true) := by
  intro n
  induction n with
  | zero =>
    intro i hn hi
    refine ⟨-1, Ev.one (Ev.congr (fun k => ?_) (Ev.now _)), ?_⟩
    · simp only [slices_Index_string_string.l0]; rw [if_neg (by omega)]
    · rw [List.drop_eq_nil_of_le (by omega)]; simp
  | succ n ih =>
    intro i hn hi
    have hlt : i < xs.length := by omega
    rw [List.drop_eq_getElem_cons hlt, List.contains_cons]
    by_cases he : xs[i] = x
    · refine ⟨(i : Int), Ev.one (Ev.congr (fun k => ?_) (Ev.now _)), ?_⟩
      · simp only [slices_Index_string_string.l0]; rw [if_pos (by omega), if_pos (by omega), if_pos (by rw [List.length_map]; omega), rdOf_map xs hlt, ba_toList, ba_toList, if_pos he.symm]
      · simp [he]
    · obtain ⟨r, h1, h2⟩ := ih (i + 1) (by omega) (by omega)
      refine ⟨r, Ev.one (Ev.congr (fun k => ?_) h1), ?_⟩
      · simp only [slices_Index_string_string.l0]; rw [if_pos (by omega), if_pos (by omega), if_pos (by rw [List.length_map]; omega), rdOf_map xs hlt, ba_toList, ba_toList, if_neg (fun e => he e.symm), w64 (by omega) (by omega)]
        rfl
      · have : (x == xs[i]) = false := beq_eq_false_iff_ne.mpr (fun e => he e.symm)
        rw [this, Bool.false_or]; exact h2
theorem Contains_ev (xs : List B) (x : B) (hx : xs.length < 1000000) : Ev (fun k => slices_Contains_string_string.f k (xs.map ba) (ba x)) (xs.contains x) := by
  obtain ⟨r, h1, h2⟩ := Index_l0 xs x hx _ 0 rfl (Nat.zero_le _)
  refine Ev.bind (f := fun _ t => some (decide (t ≥ 0))) (a := r) (Ev.congr (fun k => ?_) h1) ?_
  · show slices_Index_string_string.l0 k (xs.map ba) (ba x) ((xs.map ba).length : Int) 0 = _
    rw [List.length_map]; rfl
  · have : decide (r ≥ 0) = xs.contains x := by
      rw [Bool.eq_iff_iff, decide_eq_true_iff]; exact h2
    rw [this]; exact Ev.now _
theorem words_f : token_Words.f = some (Tk.wordL.map ba) := rfl
theorem signs_f : token_Signs.f = some (Tk.signL.map ba) := rfl
theorem rWords_f : biremeref02_Words.f = some (Tk.wordL.map ba) := rfl
theorem rSigns_f : biremeref02_Signs.f = some (Tk.signL.map ba) := rfl
end Go.Proofs.Ytpccakfbmbkmlaa.PAll
