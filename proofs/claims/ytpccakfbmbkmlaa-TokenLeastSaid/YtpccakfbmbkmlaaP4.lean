/- What the reference's Lex, Same, Short and alive compute, in plain words. -/
import Derived.Test.YtpccakfbmbkmlaaT4
namespace Go.Proofs.Ytpccakfbmbkmlaa.PAll
open Go.RowKit Go.Proofs.YtpccakfbmbkmlaaW.PrintWords Go.Proofs.YtpccakfbmbkmlaaW.PrintLast Go.Proofs.YtpccakfbmbkmlaaW.PrintMore
set_option linter.unusedVariables false
set_option linter.unusedSimpArgs false
open Tk (B)
/-- What Lex returns. -/
def lexR (l : B) : List S31 × Int × Int :=
  if 20000 < l.length then ([], 0, 3) else match (Tk.scan l 0).2 with
    | none => ((Tk.scan l 0).1.map toS, 0, 0)
    | some e => ([], (e : Int), 4)
theorem Lex_f (l : B) : token_Lex.f (ba l) = some (lexR l) := by
  unfold token_Lex.f lexR
  rw [ba_size, ba_data]
  by_cases h : 20000 < l.length
  · rw [if_pos h, if_pos h]
  · rw [if_neg h, if_neg h]
    cases (Tk.scan l 0).2 <;> rfl
theorem Short_f (l : B) : biremeref02_Short.f (ba l) = some (ba (l.take 20001)) := by
  unfold biremeref02_Short.f
  have e := ba_size l
  have h1 : mn ((ba l).size : Int) 20001 = ((min l.length 20001 : Nat) : Int) := by unfold mn; rw [e]; split <;> omega
  rw [h1, if_pos (by omega), if_pos (by omega), Int.toNat_natCast, ba_extract, List.drop_zero]
  congr 2
  rw [Nat.min_comm, List.take_eq_take_iff]
  omega
theorem scan_skip (l : B) (a : Nat) : Tk.scan (Tk.skip l) (a + (l.length - (Tk.skip l).length)) = Tk.scan l a := by
  have hs := Tk.skip_skip l
  by_cases h : Tk.skip l = []
  · rw [Tk.scan_nil h, Tk.scan_nil (by rw [hs]; exact h)]
  · by_cases h2 : (Tk.next (Tk.skip l)).2 = 0
    · rw [Tk.scan_bad h h2, Tk.scan_bad (by rw [hs]; exact h) (by rw [hs]; exact h2), hs, Nat.sub_self, Nat.add_zero]
    · rw [Tk.scan_tok h h2, Tk.scan_tok (by rw [hs]; exact h) (by rw [hs]; exact h2), hs, Nat.sub_self, Nat.add_zero]
/-- What All returns, from an offset on. -/
def allR (acc : List S31) (p : List Tk.Tok × Option Nat) : List S31 × Int × Bool := match p.2 with
  | none => (acc ++ p.1.map toS, 0, true)
  | some e => ([], (e : Int), false)
theorem All_l0 (l : B) (hl : l.length ≤ 20000) : ∀ (n i : Nat) (acc : List S31), l.length - i ≤ n → i ≤ l.length → Tk.skip (l.drop i) = l.drop i → acc.length ≤ i →
    Ev (fun k => biremeref02_All.l0 k (ba l) acc (i : Int)) (allR acc (Tk.scan (l.drop i) i)) := by
  intro n
  induction n using Nat.strongRecOn with
  | _ n ih =>
    intro i acc hn hi hu ha
    by_cases hlt : i < l.length
    · have hN := Next_ev l (by omega) hlt
      have hul : (l.drop i).length = l.length - i := List.length_drop
      have hune : l.drop i ≠ [] := by intro e; rw [e] at hul; simp at hul; omega
      obtain ⟨kd, nn, hkn⟩ : ∃ kd nn, Tk.next (l.drop i) = (kd, nn) := ⟨_, _, rfl⟩
      have hle := Tk.next_le (l.drop i)
      have hkind := Tk.next_kind (l.drop i)
      unfold nextR at hN
      rw [hkn] at hN hle hkind
      dsimp only at hN hle hkind
      by_cases hz : nn = 0
      · have e : Tk.scan (l.drop i) i = ([], some i) := by
          rw [Tk.scan_bad (by rw [hu]; exact hune) (by rw [hu, hkn]; exact hz), hu, Nat.sub_self, Nat.add_zero]
        rw [e]
        subst hz
        rw [if_pos rfl] at hN
        refine Ev.one (Ev.congr (g := fun k => biremeref02_All.l0 (k + 1) (ba l) acc (i : Int)) (fun k => ?_) (Ev.bind (f := fun k b => if b.2.2.2 = true then (if acc.length < 4398046511104 then ((biremeref02_Skip.f k (ba l) (wrap64 ((i : Int) + (b.2.1.size : Int)))).bind fun t => (biremeref02_All.l0 k (ba l) (acc ++ [(⟨b.1, b.2.1, b.2.2.1⟩ : S31)]) t)) else none) else some (([] : List S31), (i : Int), false)) hN ?_))
        · simp only [biremeref02_All.l0]
          rw [if_pos (by rw [ba_size]; omega)]
        · refine Ev.congr (fun k => ?_) (Ev.now _)
          rw [if_neg (by simp)]
          rfl
      · have hpos : 0 < nn := Nat.pos_of_ne_zero hz
        have hS := Skip_ev l (by omega) (i := i + nn) (by omega)
        have hvl : (l.drop (i + nn)).length = l.length - (i + nn) := List.length_drop
        have hsv := Tk.skip_le (l.drop (i + nn))
        have hdv : l.drop (l.length - (Tk.skip (l.drop (i + nn))).length) = Tk.skip (l.drop (i + nn)) := by
          have e9 : l.length - (Tk.skip (l.drop (i + nn))).length = (i + nn) + ((l.drop (i + nn)).length - (Tk.skip (l.drop (i + nn))).length) := by omega
          rw [e9, ← List.drop_drop]; exact (Tk.skip_drop _).symm
        have e : Tk.scan (l.drop i) i = (⟨kd, (l.drop i).take nn, i⟩ :: (Tk.scan (l.drop (i + nn)) (i + nn)).1, (Tk.scan (l.drop (i + nn)) (i + nn)).2) := by
          rw [Tk.scan_tok (by rw [hu]; exact hune) (by rw [hu, hkn]; exact hz), hu, hkn, Nat.sub_self, Nat.add_zero, List.drop_drop]
        have hrec := ih (l.length - (l.length - (Tk.skip (l.drop (i + nn))).length)) (by omega) (l.length - (Tk.skip (l.drop (i + nn))).length) (acc ++ [⟨kd, ba ((l.drop i).take nn), (i : Int)⟩]) (Nat.le_refl _) (by omega) (by rw [hdv]; exact Tk.skip_skip _) (by rw [List.length_append]; simp; omega)
        rw [hdv, show l.length - (Tk.skip (l.drop (i + nn))).length = (i + nn) + ((l.drop (i + nn)).length - (Tk.skip (l.drop (i + nn))).length) by omega, scan_skip] at hrec
        have hres : allR acc (Tk.scan (l.drop i) i) = allR (acc ++ [⟨kd, ba ((l.drop i).take nn), (i : Int)⟩]) (Tk.scan (l.drop (i + nn)) (i + nn)) := by
          rw [e]
          unfold allR
          cases (Tk.scan (l.drop (i + nn)) (i + nn)).2 with
          | none => simp [toS]
          | some x => rfl
        rw [hres]
        rw [if_neg hz] at hN
        refine Ev.one (Ev.congr (g := fun k => biremeref02_All.l0 (k + 1) (ba l) acc (i : Int)) (fun k => ?_) (Ev.bind (f := fun k b => if b.2.2.2 = true then (if acc.length < 4398046511104 then ((biremeref02_Skip.f k (ba l) (wrap64 ((i : Int) + (b.2.1.size : Int)))).bind fun t => (biremeref02_All.l0 k (ba l) (acc ++ [(⟨b.1, b.2.1, b.2.2.1⟩ : S31)]) t)) else none) else some (([] : List S31), (i : Int), false)) hN ?_))
        · simp only [biremeref02_All.l0]
          rw [if_pos (by rw [ba_size]; omega)]
        · have htk : (ba ((l.drop i).take nn)).size = nn := by rw [ba_size, List.length_take]; omega
          refine Ev.congr (g := fun k => _) (fun k => ?_) (Ev.bind (f := fun k t => biremeref02_All.l0 k (ba l) (acc ++ [(⟨kd, ba ((l.drop i).take nn), (i : Int)⟩ : S31)]) t) hS ?_)
          · dsimp only
            rw [if_pos (by simpa using hpos), if_pos (by omega), htk, w64 (by omega) (by omega)]
            rfl
          · refine Ev.congr (fun k => ?_) hrec
            congr 1
            omega
    · have hi2 : i = l.length := by omega
      subst hi2
      have e : Tk.scan (l.drop l.length) l.length = ([], none) := Tk.scan_nil (by rw [List.drop_eq_nil_of_le (Nat.le_refl _)]; rfl)
      rw [e]
      refine Ev.one (Ev.congr (fun k => ?_) (Ev.now _))
      simp only [biremeref02_All.l0]
      rw [if_neg (by rw [ba_size]; omega)]
      simp [allR]
theorem rLex_ev (l : B) : Ev (fun k => biremeref02_Lex.f k (ba l)) (lexR l) := by
  unfold lexR
  by_cases h : 20000 < l.length
  · rw [if_pos h]
    refine Ev.congr (fun k => ?_) (Ev.now _)
    unfold biremeref02_Lex.f
    rw [if_pos (by rw [ba_size]; omega)]
  · rw [if_neg h]
    have hS := Skip_ev l (by omega) (i := 0) (Nat.zero_le _)
    rw [List.drop_zero] at hS
    have hdv : l.drop (l.length - (Tk.skip l).length) = Tk.skip l := (Tk.skip_drop l).symm
    have hA := All_l0 l (by omega) _ (l.length - (Tk.skip l).length) [] (Nat.le_refl _) (by omega) (by rw [hdv]; exact Tk.skip_skip _) (by simp)
    have e0 := scan_skip l 0
    rw [Nat.zero_add] at e0
    rw [hdv, e0] at hA
    have hAll : Ev (fun k => biremeref02_All.f k (ba l)) (allR [] (Tk.scan l 0)) :=
      Ev.congr (g := fun k => biremeref02_All.f k (ba l)) (fun k => rfl) (Ev.bind (f := fun k t => biremeref02_All.l0 k (ba l) ([] : List S31) t) hS hA)
    refine Ev.congr (g := fun k => biremeref02_Lex.f k (ba l)) (fun k => ?_) (Ev.bind (f := fun _ b => if b.2.2 = true then some (b.1, 0, 0) else some (([] : List S31), b.2.1, 4)) hAll ?_)
    · unfold biremeref02_Lex.f
      rw [if_neg (by rw [ba_size]; omega)]
    · unfold allR
      cases (Tk.scan l 0).2 with
      | none => exact Ev.congr (fun k => by rw [if_pos rfl]; simp) (Ev.now _)
      | some e => exact Ev.congr (fun k => by rw [if_neg (by simp)]) (Ev.now _)

/-! ### Same -/
def SameAt (b : Bool) (x y : S31) : Prop := x.f0 = y.f0 ∧ x.f1.toList = y.f1.toList ∧ (b = true → x.f2 = y.f2)
theorem rd_get (xs : List S31) {i : Nat} (h : i < xs.length) : rd_T31 xs (i : Int) = xs[i] := by
  unfold rd_T31; simp [h]
theorem Same_l0 (xs ys : List S31) (b : Bool) (hx : xs.length < 1000000) (hl : xs.length = ys.length) : ∀ (n i : Nat), xs.length - i = n → i ≤ xs.length →
    ∃ r, Ev (fun k => biremeref02_Same.l0 k xs ys b (i : Int)) r ∧ (r = true ↔ ∀ j, i ≤ j → (h : j < xs.length) → SameAt b xs[j] (ys[j]'(by omega))) := by
  intro n
  induction n with
  | zero =>
    intro i hn hi
    refine ⟨true, Ev.one (Ev.congr (fun k => ?_) (Ev.now _)), ?_⟩
    · simp only [biremeref02_Same.l0]; rw [if_neg (by omega)]
    · simp only [true_iff]; intro j h1 h2; omega
  | succ n ih =>
    intro i hn hi
    have hlt : i < xs.length := by omega
    have hlt2 : i < ys.length := by omega
    obtain ⟨r, h1, h2⟩ := ih (i + 1) (by omega) (by omega)
    have hw : wrap64 ((i : Int) + 1) = ((i + 1 : Nat) : Int) := by rw [w64 (by omega) (by omega)]; rfl
    have split : SameAt b xs[i] ys[i] → ((∀ j, i ≤ j → (h : j < xs.length) → SameAt b xs[j] (ys[j]'(by omega))) ↔ (∀ j, i + 1 ≤ j → (h : j < xs.length) → SameAt b xs[j] (ys[j]'(by omega)))) := by
      intro h0
      constructor
      · intro h j hj hjl; exact h j (by omega) hjl
      · intro h j hj hjl
        by_cases e : j = i
        · subst e; exact h0
        · exact h j (by omega) hjl
    have no : ¬ SameAt b xs[i] ys[i] → ((false = true) ↔ ∀ j, i ≤ j → (h : j < xs.length) → SameAt b xs[j] (ys[j]'(by omega))) := by
      intro h0
      constructor
      · intro h; cases h
      · intro h; exact absurd (h i (Nat.le_refl _) hlt) h0
    by_cases a1 : xs[i].f0 = ys[i].f0
    · by_cases a2 : xs[i].f1.toList = ys[i].f1.toList
      · by_cases a3 : b = true
        · by_cases a4 : xs[i].f2 = ys[i].f2
          · refine ⟨r, Ev.one (Ev.congr (fun k => ?_) h1), by rw [split ⟨a1, a2, fun _ => a4⟩]; exact h2⟩
            simp only [biremeref02_Same.l0]
            rw [if_pos (by omega), if_pos (by omega), if_pos (by omega), rd_get xs hlt, rd_get ys hlt2, if_pos a1, if_pos a2, if_pos a3, if_pos a4, hw]
          · refine ⟨false, Ev.one (Ev.congr (fun k => ?_) (Ev.now _)), no (fun h => a4 (h.2.2 a3))⟩
            simp only [biremeref02_Same.l0]
            rw [if_pos (by omega), if_pos (by omega), if_pos (by omega), rd_get xs hlt, rd_get ys hlt2, if_pos a1, if_pos a2, if_pos a3, if_neg a4]
        · refine ⟨r, Ev.one (Ev.congr (fun k => ?_) h1), by rw [split ⟨a1, a2, fun h => absurd h a3⟩]; exact h2⟩
          simp only [biremeref02_Same.l0]
          rw [if_pos (by omega), if_pos (by omega), if_pos (by omega), rd_get xs hlt, rd_get ys hlt2, if_pos a1, if_pos a2, if_neg a3, hw]
      · refine ⟨false, Ev.one (Ev.congr (fun k => ?_) (Ev.now _)), no (fun h => a2 h.2.1)⟩
        simp only [biremeref02_Same.l0]
        rw [if_pos (by omega), if_pos (by omega), if_pos (by omega), rd_get xs hlt, rd_get ys hlt2, if_pos a1, if_neg a2]
    · refine ⟨false, Ev.one (Ev.congr (fun k => ?_) (Ev.now _)), no (fun h => a1 h.1)⟩
      simp only [biremeref02_Same.l0]
      rw [if_pos (by omega), if_pos (by omega), if_pos (by omega), rd_get xs hlt, rd_get ys hlt2, if_neg a1]
theorem Same_ev (xs ys : List S31) (b : Bool) (hx : xs.length < 1000000) : ∃ r, Ev (fun k => biremeref02_Same.f k xs ys b) r ∧ (r = true ↔ ∃ hl : xs.length = ys.length, ∀ j, (h : j < xs.length) → SameAt b xs[j] (ys[j]'(by omega))) := by
  by_cases hl : xs.length = ys.length
  · obtain ⟨r, h1, h2⟩ := Same_l0 xs ys b hx hl _ 0 rfl (Nat.zero_le _)
    refine ⟨r, Ev.congr (fun k => ?_) h1, ?_⟩
    · unfold biremeref02_Same.f; rw [if_pos (by omega)]; rfl
    · rw [h2]
      exact ⟨fun h => ⟨hl, fun j hj => h j (Nat.zero_le _) hj⟩, fun ⟨_, h⟩ j _ hj => h j hj⟩
  · refine ⟨false, Ev.congr (fun k => ?_) (Ev.now _), ?_⟩
    · unfold biremeref02_Same.f; rw [if_neg (by omega)]
    · constructor
      · intro h; cases h
      · rintro ⟨h, _⟩; exact absurd h hl
theorem Same_self (xs : List S31) (b : Bool) (hx : xs.length < 1000000) : Ev (fun k => biremeref02_Same.f k xs xs b) true := by
  obtain ⟨r, h1, h2⟩ := Same_ev xs xs b hx
  have : r = true := h2.mpr ⟨rfl, fun j hj => ⟨rfl, rfl, fun _ => rfl⟩⟩
  rw [this] at h1; exact h1

/-! ### alive -/
theorem alive_a : token_Lex.f (⟨#[97, 60, 61, 98, 47, 47, 120]⟩ : ByteArray) = some ([(⟨1, (⟨#[97]⟩ : ByteArray), 0⟩ : S31), (⟨4, (⟨#[60, 61]⟩ : ByteArray), 1⟩ : S31), (⟨1, (⟨#[98]⟩ : ByteArray), 3⟩ : S31)], 0, 0) := rfl
theorem alive_b : token_Lex.f (⟨#[38, 38, 38, 32, 49, 97]⟩ : ByteArray) = some ([(⟨4, (⟨#[38, 38]⟩ : ByteArray), 0⟩ : S31), (⟨4, (⟨#[38]⟩ : ByteArray), 2⟩ : S31), (⟨3, (⟨#[49]⟩ : ByteArray), 4⟩ : S31), (⟨1, (⟨#[97]⟩ : ByteArray), 5⟩ : S31)], 0, 0) := rfl
theorem alive_ev : Ev (fun k => biremelaw02_alive.f k) true := by
  have hS := Same_self [(⟨1, (⟨#[97]⟩ : ByteArray), 0⟩ : S31), (⟨4, (⟨#[60, 61]⟩ : ByteArray), 1⟩ : S31), (⟨1, (⟨#[98]⟩ : ByteArray), 3⟩ : S31)] true (by decide)
  refine Ev.congr (g := fun k => biremelaw02_alive.f k) (fun k => ?_) (Ev.bind (f := fun _ t => if t = true then some true else some false) hS (Ev.now _))
  unfold biremelaw02_alive.f
  rw [alive_a, Option.bind_some, alive_b, Option.bind_some]
  dsimp only
  rw [if_pos rfl, if_pos rfl]
  have e1 : (rd_T31 [(⟨4, (⟨#[38, 38]⟩ : ByteArray), 0⟩ : S31), (⟨4, (⟨#[38]⟩ : ByteArray), 2⟩ : S31), (⟨3, (⟨#[49]⟩ : ByteArray), 4⟩ : S31), (⟨1, (⟨#[97]⟩ : ByteArray), 5⟩ : S31)] 0).f1.toList = [38, 38] := by
    show (⟨#[38, 38]⟩ : ByteArray).toList = _
    exact ba_toList [38, 38]
  have e2 : (rd_T31 [(⟨4, (⟨#[38, 38]⟩ : ByteArray), 0⟩ : S31), (⟨4, (⟨#[38]⟩ : ByteArray), 2⟩ : S31), (⟨3, (⟨#[49]⟩ : ByteArray), 4⟩ : S31), (⟨1, (⟨#[97]⟩ : ByteArray), 5⟩ : S31)] 3).f1.toList = [97] := by
    show (⟨#[97]⟩ : ByteArray).toList = _
    exact ba_toList [97]
  rw [e1, e2]
  congr 1
end Go.Proofs.Ytpccakfbmbkmlaa.PAll
