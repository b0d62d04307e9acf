/- What first and Next compute, in plain words. -/
import Derived.Test.YtpccakfbmbkmlaaP2
namespace Go.Proofs.Ytpccakfbmbkmlaa.PAll
open Go.RowKit Go.Proofs.YtpccakfbmbkmlaaW.PrintWords Go.Proofs.YtpccakfbmbkmlaaW.PrintLast Go.Proofs.YtpccakfbmbkmlaaW.PrintMore
set_option linter.unusedVariables false
set_option linter.unusedSimpArgs false
open Tk (B)
theorem sorts_len : ∀ x ∈ Tk.signL, x.length ≤ 2 := by decide
theorem first_l0 (l : B) (xs : List B) (hx : xs.length < 1000000) : ∀ (n i : Nat) (best : B), xs.length - i = n → i ≤ xs.length →
    Ev (fun k => token_first.l0 k (ba l) (ba best) (xs.map ba) (xs.length : Int) (i : Int)) (if Tk.bestOf l (xs.drop i) best = [] then (0, ba [], 0) else (4, ba (Tk.bestOf l (xs.drop i) best), 0)) := by
  intro n
  induction n with
  | zero =>
    intro i best hn hi
    have e : Tk.bestOf l (xs.drop i) best = best := by rw [List.drop_eq_nil_of_le (by omega)]; rfl
    rw [e]
    refine Ev.one (Ev.congr (fun k => ?_) (Ev.now _))
    simp only [token_first.l0]
    rw [if_neg (by omega), ba_toList]
    by_cases hb : best = []
    · rw [if_pos hb, if_pos hb]; rfl
    · rw [if_neg hb, if_neg hb]
  | succ n ih =>
    intro i best hn hi
    have hlt : i < xs.length := by omega
    rw [List.drop_eq_getElem_cons hlt, Tk.bestOf_cons]
    have hp := prefix_f l xs[i]
    by_cases h1 : xs[i].isPrefixOf l = true
    · by_cases h2 : best.length < xs[i].length
      · rw [show (if xs[i].isPrefixOf l = true ∧ best.length < xs[i].length then xs[i] else best) = xs[i] from if_pos ⟨h1, h2⟩]
        refine Ev.one (Ev.congr (fun k => ?_) (ih (i + 1) xs[i] (by omega) (by omega)))
        simp only [token_first.l0]
        rw [if_pos (by omega), if_pos (by omega), if_pos (by rw [List.length_map]; omega), rdOf_map xs hlt, hp, Option.bind_some, if_pos h1, if_pos (by rw [ba_size, ba_size]; omega), w64 (by omega) (by omega)]
        rfl
      · rw [show (if xs[i].isPrefixOf l = true ∧ best.length < xs[i].length then xs[i] else best) = best from if_neg (fun e => h2 e.2)]
        refine Ev.one (Ev.congr (fun k => ?_) (ih (i + 1) best (by omega) (by omega)))
        simp only [token_first.l0]
        rw [if_pos (by omega), if_pos (by omega), if_pos (by rw [List.length_map]; omega), rdOf_map xs hlt, hp, Option.bind_some, if_pos h1, if_neg (by rw [ba_size, ba_size]; omega), w64 (by omega) (by omega)]
        rfl
    · rw [show (if xs[i].isPrefixOf l = true ∧ best.length < xs[i].length then xs[i] else best) = best from if_neg (fun e => h1 e.1)]
      refine Ev.one (Ev.congr (fun k => ?_) (ih (i + 1) best (by omega) (by omega)))
      simp only [token_first.l0]
      rw [if_pos (by omega), if_pos (by omega), if_pos (by rw [List.length_map]; omega), rdOf_map xs hlt, hp, Option.bind_some, if_neg h1, w64 (by omega) (by omega)]
      rfl
theorem nameC_fun : (fun c => Tk.letter c || Tk.digit c) = Tk.nameC := rfl
/-- The first token of a text that is not empty. -/
theorem first_ev (l : B) (hl : l.length < 4611686018427387904) (hne : l ≠ []) : Ev (fun k => token_first.f k (ba l)) ((Tk.next l).1, ba (l.take (Tk.next l).2), 0) := by
  obtain ⟨c, r, rfl⟩ : ∃ c r, l = c :: r := by cases l with
    | nil => exact absurd rfl hne
    | cons c r => exact ⟨c, r, rfl⟩
  have h0 : bt (ba (c :: r)) 0 = (c.toNat : Int) := bt_ba (l := c :: r) (i := 0) (by simp)
  have hL := letter_f c
  have hD := digit_f c
  have hpos : (0 : Int) < ((ba (c :: r)).size : Int) := by rw [ba_size, List.length_cons]; omega
  by_cases h1 : Tk.letter c = true
  · have hw := while_f (c :: r) 57 (p := Tk.nameC) rfl (by omega)
    have hle := Tk.length_takeWhile_le Tk.nameC (c :: r)
    have hC := Contains_ev Tk.wordL ((c :: r).takeWhile Tk.nameC) (by decide)
    rw [Tk.next_letter h1]
    dsimp only
    rw [Tk.take_takeWhile]
    refine Ev.congr (g := fun k => token_first.f k (ba (c :: r))) (fun k => ?_) (Ev.bind (f := fun _ t => if t = true then some (2, ba ((c :: r).takeWhile Tk.nameC), 0) else some (1, ba ((c :: r).takeWhile Tk.nameC), 0)) hC ?_)
    · unfold token_first.f
      rw [if_pos hpos, h0, hL, Option.bind_some, if_pos h1, hw, Option.bind_some, if_pos (by omega), if_pos (by rw [ba_size]; omega), words_f, Option.bind_some, Int.toNat_natCast, ba_extract, List.drop_zero, Tk.take_takeWhile]
    · by_cases hc : Tk.wordL.contains ((c :: r).takeWhile Tk.nameC) = true
      · rw [if_pos hc]; refine Ev.congr (fun k => ?_) (Ev.now _); rw [if_pos hc]
      · rw [if_neg hc]; refine Ev.congr (fun k => ?_) (Ev.now _); rw [if_neg hc]
  · by_cases h2 : Tk.digit c = true
    · have hw := while_f (c :: r) 35 (p := Tk.digit) rfl (by omega)
      have hle := Tk.length_takeWhile_le Tk.digit (c :: r)
      rw [Tk.next_digit h1 h2]
      refine Ev.congr (fun k => ?_) (Ev.now _)
      unfold token_first.f
      rw [if_pos hpos, h0, hL, Option.bind_some, if_neg h1, hD, Option.bind_some, if_pos h2, hw, Option.bind_some, if_pos (by omega), if_pos (by rw [ba_size]; omega), Int.toNat_natCast, ba_extract, List.drop_zero]
    · have hf := first_l0 (c :: r) Tk.signL (by decide) _ 0 [] rfl (Nat.zero_le _)
      rw [List.drop_zero, Tk.best_sign] at hf
      rw [Tk.next_sign h1 h2]
      have hs := Tk.signLen_le (c :: r)
      have e : (if (c :: r).take (Tk.signLen (c :: r)) = [] then ((0 : Int), ba [], (0 : Int)) else (4, ba ((c :: r).take (Tk.signLen (c :: r))), 0)) = ((if Tk.signLen (c :: r) = 0 then ((0 : Int), 0) else (4, Tk.signLen (c :: r))).1, ba ((c :: r).take (if Tk.signLen (c :: r) = 0 then ((0 : Int), 0) else (4, Tk.signLen (c :: r))).2), 0) := by
        by_cases hz : Tk.signLen (c :: r) = 0
        · rw [hz]; rfl
        · rw [if_neg hz, if_neg (by intro e; rw [List.take_eq_nil_iff] at e; simp at e; exact hz e)]
      rw [e] at hf
      refine Ev.congr (fun k => ?_) hf
      unfold token_first.f
      rw [if_pos hpos, h0, hL, Option.bind_some, if_neg h1, hD, Option.bind_some, if_neg h2, signs_f, Option.bind_some, List.length_map]
      rfl

/-! ### The reference's Next -/
/-- What Next returns. -/
def nextR (l : B) (i : Nat) : Int × ByteArray × Int × Bool :=
  (if (Tk.next (l.drop i)).2 = 0 then 4 else (Tk.next (l.drop i)).1, ba ((l.drop i).take (Tk.next (l.drop i)).2), (i : Int), decide (0 < (Tk.next (l.drop i)).2))
theorem slice_ba (l : B) (i m : Nat) : (ba l).extract ((i : Int)).toNat (((i + m : Nat) : Int)).toNat = ba ((l.drop i).take m) := by
  rw [Int.toNat_natCast, Int.toNat_natCast, ba_extract]
  congr 1
  rw [List.drop_take]; congr 1; omega
theorem Next_ev (l : B) (hl : l.length < 4611686018427387904) {i : Nat} (hi : i < l.length) : Ev (fun k => biremeref02_Next.f k (ba l) (i : Int)) (nextR l i) := by
  have hc := List.drop_eq_getElem_cons hi
  have hL := rLetter_f l[i]
  have hD := rDigit_f l[i]
  have hbt := bt_ba hi
  have hlen : (l.drop i).length = l.length - i := List.length_drop
  unfold nextR
  by_cases h1 : Tk.letter l[i] = true
  · have hle := Tk.length_takeWhile_le Tk.nameC (l.drop i)
    have hC := Has_ev Tk.wordL ((l.drop i).takeWhile Tk.nameC) (by decide)
    have hnx : Tk.next (l.drop i) = (if Tk.wordL.contains ((l.drop i).takeWhile Tk.nameC) = true then 2 else 1, ((l.drop i).takeWhile Tk.nameC).length) := by rw [hc]; exact Tk.next_letter h1
    have hpos : 0 < ((l.drop i).takeWhile Tk.nameC).length := by rw [hc, List.takeWhile_cons, if_pos (Tk.letter_nameC h1)]; simp
    rw [hnx]
    dsimp only
    rw [Tk.take_takeWhile, if_neg (by omega)]
    -- behind the name
    have hj1 : Ev (fun k => biremeref02_Next.j1 k (ba l) (i : Int) ((i + ((l.drop i).takeWhile Tk.nameC).length : Nat) : Int) 0 (ba []) (i : Int))
        (if Tk.wordL.contains ((l.drop i).takeWhile Tk.nameC) = true then 2 else 1, ba ((l.drop i).takeWhile Tk.nameC), (i : Int), decide (0 < ((l.drop i).takeWhile Tk.nameC).length)) := by
      refine Ev.one (Ev.congr (g := fun k => biremeref02_Next.j1 (k + 1) _ _ _ _ _ _) (fun k => ?_) (Ev.bind (f := fun _ t => if t = true then some (2, ba ((l.drop i).takeWhile Tk.nameC), (i : Int), decide (0 < ((l.drop i).takeWhile Tk.nameC).length)) else some (1, ba ((l.drop i).takeWhile Tk.nameC), (i : Int), decide (0 < ((l.drop i).takeWhile Tk.nameC).length))) hC ?_))
      · simp only [biremeref02_Next.j1]
        rw [rWords_f, Option.bind_some, if_pos (by omega), if_pos (by omega), if_pos (by rw [ba_size]; omega), slice_ba, Tk.take_takeWhile]
        have e : decide (((i + ((l.drop i).takeWhile Tk.nameC).length : Nat) : Int) > (i : Int)) = decide (0 < ((l.drop i).takeWhile Tk.nameC).length) := by
          rw [Bool.eq_iff_iff, decide_eq_true_iff, decide_eq_true_iff]; omega
        rw [e]
      · by_cases hcn : Tk.wordL.contains ((l.drop i).takeWhile Tk.nameC) = true
        · rw [if_pos hcn]; refine Ev.congr (fun k => ?_) (Ev.now _); rw [if_pos hcn]
        · rw [if_neg hcn]; refine Ev.congr (fun k => ?_) (Ev.now _); rw [if_neg hcn]
    -- the name, byte by byte
    have hloop : ∀ (m j : Nat), ((l.drop i).takeWhile Tk.nameC).length - j = m → j ≤ ((l.drop i).takeWhile Tk.nameC).length →
        Ev (fun k => biremeref02_Next.l0 k (ba l) (i : Int) ((i + j : Nat) : Int) 0 (ba []) (i : Int))
        (if Tk.wordL.contains ((l.drop i).takeWhile Tk.nameC) = true then 2 else 1, ba ((l.drop i).takeWhile Tk.nameC), (i : Int), decide (0 < ((l.drop i).takeWhile Tk.nameC).length)) := by
      intro m
      induction m with
      | zero =>
        intro j hm hj
        have ej : j = ((l.drop i).takeWhile Tk.nameC).length := by omega
        by_cases hlt : i + j < l.length
        · have hst := span_step (p := Tk.nameC) (l := l.drop i) (k := j) (by omega) hj
          rw [List.getElem_drop] at hst
          have hn : Tk.nameC l[i + j] = false := by
            cases hh : Tk.nameC l[i + j] with
            | false => rfl
            | true => have := hst.1 hh; omega
          have hnl : Tk.letter l[i + j] ≠ true := fun e => by rw [Tk.letter_nameC e] at hn; cases hn
          have hnd : Tk.digit l[i + j] ≠ true := fun e => by rw [Tk.digit_nameC e] at hn; cases hn
          refine Ev.one (Ev.congr (fun k => ?_) hj1)
          simp only [biremeref02_Next.l0]
          rw [if_pos (by rw [ba_size]; omega), if_pos (by omega), bt_ba hlt, rLetter_f, Option.bind_some, if_neg hnl, rDigit_f, Option.bind_some, if_neg hnd, ej]
        · refine Ev.one (Ev.congr (fun k => ?_) hj1)
          simp only [biremeref02_Next.l0]
          rw [if_neg (by rw [ba_size]; omega), ej]
      | succ m ih =>
        intro j hm hj
        have hlt : i + j < l.length := by omega
        have hst := span_step (p := Tk.nameC) (l := l.drop i) (k := j) (by omega) hj
        rw [List.getElem_drop] at hst
        have hn : Tk.nameC l[i + j] = true := by
          cases hh : Tk.nameC l[i + j] with
          | true => rfl
          | false => have := hst.2 hh; omega
        refine Ev.one (Ev.congr (fun k => ?_) (ih (j + 1) (by omega) (by omega)))
        simp only [biremeref02_Next.l0]
        rw [if_pos (by rw [ba_size]; omega), if_pos (by omega), bt_ba hlt, rLetter_f, Option.bind_some, w64 (by omega) (by omega)]
        by_cases hll : Tk.letter l[i + j] = true
        · rw [if_pos hll]; rfl
        · have hdd : Tk.digit l[i + j] = true := by
            unfold Tk.nameC at hn
            rw [Bool.or_eq_true] at hn
            exact hn.resolve_left hll
          rw [if_neg hll, rDigit_f, Option.bind_some, if_pos hdd]; rfl
    refine Ev.congr (fun k => ?_) (hloop _ 0 rfl (Nat.zero_le _))
    unfold biremeref02_Next.f
    rw [if_pos (by omega), if_pos (by rw [ba_size]; omega), hbt, hL, Option.bind_some, if_pos h1]
    rfl
  · by_cases h2 : Tk.digit l[i] = true
    · have hle := Tk.length_takeWhile_le Tk.digit (l.drop i)
      have hnx : Tk.next (l.drop i) = (3, ((l.drop i).takeWhile Tk.digit).length) := by rw [hc]; exact Tk.next_digit h1 h2
      have hpos : 0 < ((l.drop i).takeWhile Tk.digit).length := by rw [hc, List.takeWhile_cons, if_pos h2]; simp
      rw [hnx]
      dsimp only
      rw [Tk.take_takeWhile, if_neg (by omega)]
      have edec : decide (((i + ((l.drop i).takeWhile Tk.digit).length : Nat) : Int) > (i : Int)) = decide (0 < ((l.drop i).takeWhile Tk.digit).length) := by
        rw [Bool.eq_iff_iff, decide_eq_true_iff, decide_eq_true_iff]; omega
      have hloop : ∀ (m j : Nat), ((l.drop i).takeWhile Tk.digit).length - j = m → j ≤ ((l.drop i).takeWhile Tk.digit).length →
          Ev (fun k => biremeref02_Next.l1 k (ba l) (i : Int) ((i + j : Nat) : Int) 0 (ba []) (i : Int))
          (3, ba ((l.drop i).takeWhile Tk.digit), (i : Int), decide (0 < ((l.drop i).takeWhile Tk.digit).length)) := by
        intro m
        induction m with
        | zero =>
          intro j hm hj
          have ej : j = ((l.drop i).takeWhile Tk.digit).length := by omega
          by_cases hlt : i + j < l.length
          · have hst := span_step (p := Tk.digit) (l := l.drop i) (k := j) (by omega) hj
            rw [List.getElem_drop] at hst
            have hnd : Tk.digit l[i + j] ≠ true := fun e => by have := hst.1 e; omega
            refine Ev.one (Ev.congr (fun k => ?_) (Ev.now _))
            simp only [biremeref02_Next.l1]
            rw [if_pos (by rw [ba_size]; omega), if_pos (by omega), bt_ba hlt, rDigit_f, Option.bind_some, if_neg hnd, ej, if_pos (by omega), if_pos (by omega), if_pos (by rw [ba_size]; omega), slice_ba, Tk.take_takeWhile, edec]
          · refine Ev.one (Ev.congr (fun k => ?_) (Ev.now _))
            simp only [biremeref02_Next.l1]
            rw [if_neg (by rw [ba_size]; omega), ej, if_pos (by omega), if_pos (by omega), if_pos (by rw [ba_size]; omega), slice_ba, Tk.take_takeWhile, edec]
        | succ m ih =>
          intro j hm hj
          have hlt : i + j < l.length := by omega
          have hst := span_step (p := Tk.digit) (l := l.drop i) (k := j) (by omega) hj
          rw [List.getElem_drop] at hst
          have hn : Tk.digit l[i + j] = true := by
            cases hh : Tk.digit l[i + j] with
            | true => rfl
            | false => have := hst.2 hh; omega
          refine Ev.one (Ev.congr (fun k => ?_) (ih (j + 1) (by omega) (by omega)))
          simp only [biremeref02_Next.l1]
          rw [if_pos (by rw [ba_size]; omega), if_pos (by omega), bt_ba hlt, rDigit_f, Option.bind_some, if_pos hn, w64 (by omega) (by omega)]
          rfl
      refine Ev.congr (fun k => ?_) (hloop _ 0 rfl (Nat.zero_le _))
      unfold biremeref02_Next.f
      rw [if_pos (by omega), if_pos (by rw [ba_size]; omega), hbt, hL, Option.bind_some, if_neg h1, hD, Option.bind_some, if_pos h2]
      rfl
    · have hnx : Tk.next (l.drop i) = if Tk.signLen (l.drop i) = 0 then (0, 0) else (4, Tk.signLen (l.drop i)) := by rw [hc]; exact Tk.next_sign h1 h2
      have e2 : (if (Tk.next (l.drop i)).2 = 0 then (4 : Int) else (Tk.next (l.drop i)).1) = 4 ∧ (Tk.next (l.drop i)).2 = Tk.signLen (l.drop i) := by
        rw [hnx]
        by_cases hz : Tk.signLen (l.drop i) = 0
        · rw [if_pos hz]; exact ⟨rfl, hz.symm⟩
        · rw [if_neg hz]; exact ⟨if_neg hz, rfl⟩
      rw [e2.1, e2.2]
      -- the end: what is handed back
      have hend : ∀ m : Nat, m ≤ l.length - i → ∀ x, x = false → ∀ q : Int, Ev (fun k => biremeref02_Next.j4 k (ba l) (i : Int) ((i + m : Nat) : Int) q x 4 (ba []) (i : Int)) (4, ba ((l.drop i).take m), (i : Int), decide (0 < m)) := by
        rintro m hm x rfl q
        refine Ev.one (Ev.congr (fun k => ?_) (Ev.now _))
        simp only [biremeref02_Next.j4]
        have edec : decide (((i + m : Nat) : Int) > (i : Int)) = decide (0 < m) := by
          rw [Bool.eq_iff_iff, decide_eq_true_iff, decide_eq_true_iff]; omega
        rw [if_neg (by decide), if_pos (by omega), if_pos (by omega), if_pos (by rw [ba_size]; omega), slice_ba, edec]
      -- the round of two bytes
      have htwo : ∀ m : Nat, m ≤ 1 → Ev (fun k => biremeref02_Next.l2 k (ba l) (i : Int) ((i + m : Nat) : Int) 2 4 (ba []) (i : Int))
          (4, ba ((l.drop i).take (if 2 ≤ (l.drop i).length ∧ Tk.signL.contains ((l.drop i).take 2) = true then 2 else m)), (i : Int), decide (0 < (if 2 ≤ (l.drop i).length ∧ Tk.signL.contains ((l.drop i).take 2) = true then 2 else m))) := by
        intro m hm
        by_cases hlt : i + 2 ≤ l.length
        · have hC := Has_ev Tk.signL ((l.drop i).take 2) (by decide)
          have hthree : ∀ m2 : Nat, m2 ≤ 2 → Ev (fun k => biremeref02_Next.l2 k (ba l) (i : Int) ((i + m2 : Nat) : Int) 3 4 (ba []) (i : Int)) (4, ba ((l.drop i).take m2), (i : Int), decide (0 < m2)) := by
            intro m2 hm2
            refine Ev.one (Ev.congr (fun k => ?_) (hend m2 (by omega) _ rfl 3))
            simp only [biremeref02_Next.l2]
            rw [if_neg (by decide)]
          refine Ev.one (Ev.one (Ev.congr (g := fun k => biremeref02_Next.l2 (k + 1 + 1) _ _ _ _ _ _ _) (fun k => ?_) (Ev.bind (f := fun k t => if t = true then biremeref02_Next.l2 k (ba l) (i : Int) ((i + 2 : Nat) : Int) 3 4 (ba []) (i : Int) else biremeref02_Next.l2 k (ba l) (i : Int) ((i + m : Nat) : Int) 3 4 (ba []) (i : Int)) hC ?_)))
          · simp only [biremeref02_Next.l2]
            rw [if_pos (by decide), w64 (by omega) (by omega), decide_eq_true (show (i : Int) + 2 ≤ ((ba l).size : Int) by rw [ba_size]; omega)]
            simp only [biremeref02_Next.j4]
            rw [if_pos True.intro, rSigns_f, Option.bind_some, w64 (by omega) (by omega), if_pos (by omega), if_pos (by omega), if_pos (by rw [ba_size]; omega), show ((i : Int) + 2) = ((i + 2 : Nat) : Int) from rfl, slice_ba, w64 (n := 2 + 1) (by decide) (by decide)]
            rfl
          · by_cases hcn : Tk.signL.contains ((l.drop i).take 2) = true
            · rw [if_pos ⟨by omega, hcn⟩]
              refine Ev.congr (fun k => ?_) (hthree 2 (by omega))
              rw [if_pos hcn]
            · rw [if_neg (fun e => hcn e.2)]
              refine Ev.congr (fun k => ?_) (hthree m (by omega))
              rw [if_neg hcn]
        · rw [if_neg (by omega)]
          refine Ev.one (Ev.congr (fun k => ?_) (hend m (by omega) _ rfl 2))
          simp only [biremeref02_Next.l2]
          rw [if_pos (by decide), w64 (by omega) (by omega), decide_eq_false (show ¬ ((i : Int) + 2 ≤ ((ba l).size : Int)) by rw [ba_size]; omega)]
      -- the round of one byte
      have hC := Has_ev Tk.signL ((l.drop i).take 1) (by decide)
      have hone : Ev (fun k => biremeref02_Next.l2 k (ba l) (i : Int) (i : Int) 1 4 (ba []) (i : Int)) (4, ba ((l.drop i).take (Tk.signLen (l.drop i))), (i : Int), decide (0 < Tk.signLen (l.drop i))) := by
        refine Ev.one (Ev.one (Ev.congr (g := fun k => biremeref02_Next.l2 (k + 1 + 1) _ _ _ _ _ _ _) (fun k => ?_) (Ev.bind (f := fun k t => if t = true then biremeref02_Next.l2 k (ba l) (i : Int) ((i + 1 : Nat) : Int) 2 4 (ba []) (i : Int) else biremeref02_Next.l2 k (ba l) (i : Int) ((i + 0 : Nat) : Int) 2 4 (ba []) (i : Int)) hC ?_)))
        · simp only [biremeref02_Next.l2]
          rw [if_pos (by decide), w64 (by omega) (by omega), decide_eq_true (show (i : Int) + 1 ≤ ((ba l).size : Int) by rw [ba_size]; omega)]
          simp only [biremeref02_Next.j4]
          rw [if_pos True.intro, rSigns_f, Option.bind_some, w64 (by omega) (by omega), if_pos (by omega), if_pos (by omega), if_pos (by rw [ba_size]; omega), show ((i : Int) + 1) = ((i + 1 : Nat) : Int) from rfl, slice_ba, w64 (n := 1 + 1) (by decide) (by decide)]
          rfl
        · have e1 : Tk.signLen (l.drop i) = if 2 ≤ (l.drop i).length ∧ Tk.signL.contains ((l.drop i).take 2) = true then 2 else if Tk.signL.contains ((l.drop i).take 1) = true then 1 else 0 := by
            unfold Tk.signLen
            by_cases hx : 2 ≤ (l.drop i).length ∧ Tk.signL.contains ((l.drop i).take 2) = true
            · rw [if_pos hx, if_pos hx]
            · rw [if_neg hx, if_neg hx]
              by_cases hy : Tk.signL.contains ((l.drop i).take 1) = true
              · rw [if_pos ⟨by omega, hy⟩, if_pos hy]
              · rw [if_neg (fun e => hy e.2), if_neg hy]
          rw [e1]
          by_cases hy : Tk.signL.contains ((l.drop i).take 1) = true
          · rw [if_pos hy]
            refine Ev.congr (fun k => ?_) (htwo 1 (by omega))
            rw [if_pos hy]
          · rw [if_neg hy]
            refine Ev.congr (fun k => ?_) (htwo 0 (by omega))
            rw [if_neg hy]
      refine Ev.congr (fun k => ?_) hone
      unfold biremeref02_Next.f
      rw [if_pos (by omega), if_pos (by rw [ba_size]; omega), hbt, hL, Option.bind_some, if_neg h1, hD, Option.bind_some, if_neg h2]
      rfl
end Go.Proofs.Ytpccakfbmbkmlaa.PAll
