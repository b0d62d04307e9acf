/- What blank, Skip, first and Next compute, in plain words. -/
import Derived.Test.YtpccakfbmbkmlaaP1
import Derived.Test.YtpccakfbmbkmlaaM2
namespace Go.Proofs.Ytpccakfbmbkmlaa.PAll
open Go.RowKit Go.Proofs.YtpccakfbmbkmlaaW.PrintWords Go.Proofs.YtpccakfbmbkmlaaW.PrintLast Go.Proofs.YtpccakfbmbkmlaaW.PrintMore
set_option linter.unusedVariables false
set_option linter.unusedSimpArgs false
open Tk (B)
theorem ba_from (l : B) (i : Nat) : (ba l).extract i (ba l).size = ba (l.drop i) := by
  rw [ba_extract, ba_size, List.take_length]
theorem ba_from' (l : B) (i : Nat) : (ba l).extract ((i : Int)).toNat (ba l).size = ba (l.drop i) := ba_from l i
theorem while_f (l : B) (g : Nat) {p : UInt8 → Bool} (hp : Tk.sortOf g = some p) (hl : l.length ≤ 9223372036854775807) : token_while.f (ba l) g = some ((l.takeWhile p).length : Int) := by
  unfold token_while.f
  rw [if_pos (by rw [ba_size]; exact hl), hp]
  rfl
theorem slashes : (⟨#[47, 47]⟩ : ByteArray) = ba [47, 47] := rfl
/-- How far blanks and remarks reach from an offset on. -/
theorem blank_l0 (l : B) (hl : l.length < 4611686018427387904) : ∀ (n i : Nat), l.length - i ≤ n → i ≤ l.length →
    Ev (fun k => token_blank.l0 k (ba l) (i : Int)) ((l.length - (Tk.skip (l.drop i)).length : Nat) : Int) := by
  intro n
  induction n using Nat.strongRecOn with
  | _ n ih =>
    intro i hn hi
    have hd : (l.drop i).length = l.length - i := List.length_drop
    have h1 := Tk.length_takeWhile_le Tk.blank (l.drop i)
    have hw := while_f (l.drop i) 53 (p := Tk.blank) rfl (by omega)
    generalize ht : ((l.drop i).takeWhile Tk.blank).length = t at *
    have e1 : l.drop (i + t) = (l.drop i).dropWhile Tk.blank := by rw [← List.drop_drop, ← ht, Tk.drop_takeWhile]
    have hsk : Tk.skip (l.drop (i + t)) = Tk.skip (l.drop i) := by rw [e1, Tk.skip_dropBlank]
    have hp := prefix_f (l.drop (i + t)) [47, 47]
    by_cases hr : [47, 47].isPrefixOf (l.drop (i + t)) = true
    · have h2 := Tk.remark_two hr
      have h3 := Tk.length_takeWhile_le (· != 10) (l.drop (i + t))
      have hw2 := while_f (l.drop (i + t)) 55 (p := fun c => c != 10) rfl (by rw [List.length_drop]; omega)
      generalize ht2 : ((l.drop (i + t)).takeWhile (fun c => c != 10)).length = t2 at *
      have e2 : l.drop (i + t + t2) = (l.drop (i + t)).dropWhile (fun c => c != 10) := by rw [← List.drop_drop, ← ht2, Tk.drop_takeWhile]
      have hd2 : (l.drop (i + t)).length = l.length - (i + t) := List.length_drop
      have hsk2 : Tk.skip (l.drop (i + t + t2)) = Tk.skip (l.drop i) := by rw [e2, ← Tk.skip_remark hr, hsk]
      have hrec := ih (l.length - (i + t + t2)) (by omega) (i + t + t2) (Nat.le_refl _) (by omega)
      rw [hsk2] at hrec
      refine Ev.one (Ev.congr (fun k => ?_) hrec)
      simp only [token_blank.l0]
      rw [if_pos (by omega), if_pos (by rw [ba_size]; omega), ba_from', hw, Option.bind_some, w64 (by omega) (by omega), if_pos (by omega), if_pos (by rw [ba_size]; omega),
        show (((i : Int) + (t : Int)).toNat) = i + t by omega, ba_from, slashes, hp, Option.bind_some, if_pos hr, hw2, Option.bind_some, w64 (by omega) (by omega)]
      rfl
    · have hs : Tk.skip (l.drop i) = l.drop (i + t) := by
        rw [← hsk]
        refine Tk.skip_same ?_ hr
        rw [e1]
        exact Tk.dropWhile_head _ _
      rw [hs]
      refine Ev.one (Ev.congr (fun k => ?_) (Ev.now _))
      simp only [token_blank.l0]
      rw [if_pos (by omega), if_pos (by rw [ba_size]; omega), ba_from', hw, Option.bind_some, w64 (by omega) (by omega), if_pos (by omega), if_pos (by rw [ba_size]; omega),
        show (((i : Int) + (t : Int)).toNat) = i + t by omega, ba_from, slashes, hp, Option.bind_some, if_neg hr]
      congr 1
      rw [List.length_drop]; omega
theorem blank_ev (l : B) (hl : l.length < 4611686018427387904) : Ev (fun k => token_blank.f k (ba l)) ((l.length - (Tk.skip l).length : Nat) : Int) := blank_l0 l hl _ 0 (Nat.le_refl _) (Nat.zero_le _)

/-- The reference's Skip, from an offset on. -/
theorem Skip_both (l : B) (hl : l.length < 4611686018427387904) : ∀ (n i : Nat), l.length - i ≤ n → i ≤ l.length →
    Ev (fun k => biremeref02_Skip.l0 k (ba l) (i : Int)) ((l.length - (Tk.skip (l.drop i)).length : Nat) : Int) := by
  intro n
  induction n using Nat.strongRecOn with
  | _ n ih =>
    intro i hn hi
    by_cases hlt : i < l.length
    · have hc := List.drop_eq_getElem_cons hlt
      have hb := rBlank_f l[i]
      by_cases b1 : Tk.blank l[i] = true
      · have hrec := ih (l.length - (i + 1)) (by omega) (i + 1) (Nat.le_refl _) (by omega)
        rw [hc, Tk.skip_blank b1]
        refine Ev.one (Ev.congr (fun k => ?_) hrec)
        simp only [biremeref02_Skip.l0]
        rw [if_pos (by rw [ba_size]; omega), if_pos (by omega), bt_ba hlt, hb, Option.bind_some, if_pos b1, w64 (by omega) (by omega)]
        rfl
      · by_cases b2 : l[i] = 47 ∧ (l.drop (i + 1)).head? = some 47
        · have hlt1 : i + 1 < l.length := by
            rcases Nat.lt_or_ge (i + 1) l.length with h | h
            · exact h
            · rw [List.drop_eq_nil_of_le h] at b2; simp at b2
          have hc1 := List.drop_eq_getElem_cons hlt1
          have e47 : l[i + 1] = 47 := by have := b2.2; rw [hc1, List.head?_cons] at this; exact Option.some.inj this
          -- the remark, byte by byte
          have hrem : ∀ (m j : Nat), l.length - j = m → i ≤ j → j ≤ l.length → (j ≤ i + 1 ∨ i + 1 < j) → (∀ q, (h : q < l.length) → i ≤ q → q < j → l[q] ≠ 10) →
              Ev (fun k => biremeref02_Skip.l1 k (ba l) (j : Int)) ((l.length - (Tk.skip (l.drop i)).length : Nat) : Int) := by
            intro m
            induction m with
            | zero =>
              intro j hm h1 h2 _ h3
              have hj : j = l.length := by omega
              have hrec := ih (l.length - j) (by omega) j (Nat.le_refl _) h2
              have hall : (l.drop i).dropWhile (fun c => c != 10) = l.drop j := by
                have ej : l.drop j = [] := List.drop_eq_nil_of_le (by omega)
                rw [ej]
                have ea : (l.drop i).dropWhile (fun c => c != 10) = ((l.drop i) ++ []).dropWhile (fun c => c != 10) := by rw [List.append_nil]
                rw [ea, List.dropWhile_append_of_pos]
                · rfl
                intro c hcm
                obtain ⟨q, hq, rfl⟩ := List.getElem_of_mem hcm
                rw [List.length_drop] at hq
                rw [List.getElem_drop]
                have := h3 (i + q) (by omega) (by omega) (by omega)
                simpa using this
              have e : Tk.skip (l.drop i) = Tk.skip (l.drop j) := by
                rw [← hall]
                conv => lhs; rw [hc]
                rw [Tk.skip_rem b1 b2, ← hc]
              rw [e]
              refine Ev.one (Ev.congr (fun k => ?_) hrec)
              simp only [biremeref02_Skip.l1]
              rw [if_neg (by rw [ba_size]; omega)]
            | succ m ihm =>
              intro j hm h1 h2 _ h3
              have hj : j < l.length := by omega
              by_cases b3 : l[j] = 10
              · have hj2 : i + 1 < j := by
                  rcases Nat.lt_or_ge (i + 1) j with h | h
                  · exact h
                  · exfalso
                    have : j = i ∨ j = i + 1 := by omega
                    rcases this with rfl | rfl
                    · rw [b2.1] at b3; exact absurd b3 (by decide)
                    · rw [e47] at b3; exact absurd b3 (by decide)
                have hrec := ih (l.length - j) (by omega) j (Nat.le_refl _) h2
                have hall : (l.drop i).dropWhile (fun c => c != 10) = l.drop j := by
                  have hs : l.drop i = (l.drop i).take (j - i) ++ l.drop j := by
                    conv => lhs; rw [← List.take_append_drop (j - i) (l.drop i)]
                    rw [List.drop_drop, show i + (j - i) = j by omega]
                  rw [hs, List.dropWhile_append_of_pos]
                  · rw [List.drop_eq_getElem_cons hj, List.dropWhile_cons, b3, if_neg (by decide)]
                  · intro c hcm
                    obtain ⟨q, hq, rfl⟩ := List.getElem_of_mem hcm
                    rw [List.length_take, List.length_drop] at hq
                    rw [List.getElem_take, List.getElem_drop]
                    have := h3 (i + q) (by omega) (by omega) (by omega)
                    simpa using this
                have e : Tk.skip (l.drop i) = Tk.skip (l.drop j) := by
                  rw [← hall]
                  conv => lhs; rw [hc]
                  rw [Tk.skip_rem b1 b2, ← hc]
                rw [e]
                refine Ev.one (Ev.congr (fun k => ?_) hrec)
                simp only [biremeref02_Skip.l1]
                rw [if_pos (by rw [ba_size]; omega), if_pos (by omega), bt_ba hj, if_pos (by rw [b3]; rfl)]
              · have hrec := ihm (j + 1) (by omega) (by omega) (by omega) (by omega) (by
                  intro q hq h4 h5
                  by_cases hqj : q = j
                  · subst hqj; exact b3
                  · exact h3 q hq h4 (by omega))
                refine Ev.one (Ev.congr (fun k => ?_) hrec)
                simp only [biremeref02_Skip.l1]
                rw [if_pos (by rw [ba_size]; omega), if_pos (by omega), bt_ba hj, if_neg (by rw [show (10 : Int) = ((10 : Nat) : Int) from rfl, byte_eq _ 10 (by decide)]; exact b3), w64 (by omega) (by omega)]
                rfl
          have h0 := hrem _ i rfl (Nat.le_refl _) (by omega) (by omega) (fun q _ h4 h5 => by omega)
          refine Ev.one (Ev.one (Ev.congr (fun k => ?_) h0))
          simp only [biremeref02_Skip.l0]
          rw [if_pos (by rw [ba_size]; omega), if_pos (by omega), bt_ba hlt, hb, Option.bind_some, if_neg b1, if_pos (by rw [b2.1]; rfl), w64 (by omega) (by omega), if_pos (by rw [ba_size]; omega), if_pos (by omega),
            show ((i : Int) + 1) = ((i + 1 : Nat) : Int) from rfl, bt_ba hlt1, e47]
          simp only [biremeref02_Skip.j1]
          rfl
        · rw [hc, Tk.skip_stop b1 b2]
          have hj : ∀ x : Bool, x = false → Ev (fun k => biremeref02_Skip.j1 k (ba l) (i : Int) x) ((l.length - (l[i] :: l.drop (i + 1)).length : Nat) : Int) := by
            rintro x rfl
            refine Ev.one (Ev.congr (fun k => ?_) (Ev.now _))
            simp only [biremeref02_Skip.j1]
            rw [if_neg (by decide)]
            congr 1
            rw [← hc, List.length_drop]; omega
          by_cases b3 : l[i] = 47
          · by_cases hlt1 : i + 1 < l.length
            · have e47 : l[i + 1] ≠ 47 := by
                intro e; apply b2; refine ⟨b3, ?_⟩
                rw [List.drop_eq_getElem_cons hlt1, e]; rfl
              refine Ev.one (Ev.congr (fun k => ?_) (hj _ rfl))
              simp only [biremeref02_Skip.l0]
              rw [if_pos (by rw [ba_size]; omega), if_pos (by omega), bt_ba hlt, hb, Option.bind_some, if_neg b1, if_pos (by rw [b3]; rfl), w64 (by omega) (by omega), if_pos (by rw [ba_size]; omega), if_pos (by omega),
                show ((i : Int) + 1) = ((i + 1 : Nat) : Int) from rfl, bt_ba hlt1]
              have : ((l[i + 1].toNat : Int) == 47) = false := by
                rw [beq_eq_false_iff_ne]; intro e; apply e47
                have := byte_eq l[i + 1] 47 (by decide)
                exact this.mp e
              rw [this]
            · refine Ev.one (Ev.congr (fun k => ?_) (hj _ rfl))
              simp only [biremeref02_Skip.l0]
              rw [if_pos (by rw [ba_size]; omega), if_pos (by omega), bt_ba hlt, hb, Option.bind_some, if_neg b1, if_pos (by rw [b3]; rfl), w64 (by omega) (by omega), if_neg (by rw [ba_size]; omega)]
          · refine Ev.one (Ev.congr (fun k => ?_) (hj _ rfl))
            simp only [biremeref02_Skip.l0]
            rw [if_pos (by rw [ba_size]; omega), if_pos (by omega), bt_ba hlt, hb, Option.bind_some, if_neg b1, if_neg (by rw [show (47 : Int) = ((47 : Nat) : Int) from rfl, byte_eq _ 47 (by decide)]; exact b3)]
    · have hi2 : i = l.length := by omega
      subst hi2
      refine Ev.one (Ev.congr (fun k => ?_) (Ev.now _))
      simp only [biremeref02_Skip.l0]
      rw [if_neg (by rw [ba_size]; omega), List.drop_eq_nil_of_le (Nat.le_refl _)]
      rfl
theorem Skip_ev (l : B) (hl : l.length < 4611686018427387904) {i : Nat} (hi : i ≤ l.length) : Ev (fun k => biremeref02_Skip.f k (ba l) (i : Int)) ((l.length - (Tk.skip (l.drop i)).length : Nat) : Int) := Skip_both l hl _ i (Nat.le_refl _) hi
end Go.Proofs.Ytpccakfbmbkmlaa.PAll
