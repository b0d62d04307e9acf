/- Tokens joined by Join, as plain mathematics. -/
import Derived.Test.YtpccakfbmbkmlaaP6
import Derived.Test.YtpccakfbmbkmlaaP5
import Derived.Test.YtpccakfbmbkmlaaM4
import Derived.Test.YtpccakfbmbkmlaaT6
import Derived.Test.YtpccakfbmbkmlaaGJ
namespace Go.Proofs.Ytpccakfbmbkmlaa.Tk
/-- Are two texts side by side read as these two? -/
def tg (a b : B) : Bool := decide ((a ++ b).take (next (a ++ b)).2 = a ∧ skip (a ++ b) = a ++ b)
theorem sg_ne {a : B} {k : Int} (h : sg a k = true) : a ≠ [] ∧ a.take (next a).2 = a ∧ (next a).1 = k ∧ skip a = a := by
  have h := of_decide_eq_true h
  refine ⟨h.1, h.2.1, h.2.2, ?_⟩
  by_cases hs : skip a = a
  · exact hs
  · exact absurd h.2.1 (sg_skip hs)
theorem sg_head {a : B} {k : Int} (h : sg a k = true) : ∃ c r, a = c :: r ∧ blank c ≠ true := by
  obtain ⟨h1, _, _, h4⟩ := sg_ne h
  rcases skip_head a with e | ⟨c, r, e, hb, _⟩
  · rw [h4] at e; exact absurd e h1
  · rw [h4] at e; exact ⟨c, r, e, hb⟩
/-- A text that begins with no blank is passed over nowhere just if no remark begins it. -/
theorem skip_iff {c : UInt8} {r : B} (hb : blank c ≠ true) : skip (c :: r) = c :: r ↔ [47, 47].isPrefixOf (c :: r) ≠ true := by
  rw [Ne, isPrefix2]
  constructor
  · rintro h ⟨q, e⟩
    have h1 : c = 47 ∧ r.head? = some 47 := by
      injection e with e1 e2
      rw [e2]; exact ⟨e1, rfl⟩
    have h2 := skip_rem hb h1
    have h3 := skip_le ((c :: r).dropWhile (· != 10))
    have h4 := rem_shorter (c := c) (r := r) h1.1
    rw [h] at h2
    have h5 := congrArg List.length h2
    simp only [List.length_cons] at h5
    omega
  · intro h
    refine skip_stop hb (fun h1 => h ?_)
    obtain ⟨rfl, h2⟩ := h1
    cases r with
    | nil => cases h2
    | cons x r => exact ⟨r, by simpa using h2⟩
end Go.Proofs.Ytpccakfbmbkmlaa.Tk
namespace Go.Proofs.Ytpccakfbmbkmlaa.PAll
open Go.RowKit Go.Proofs.YtpccakfbmbkmlaaW.PrintWords Go.Proofs.YtpccakfbmbkmlaaW.PrintLast Go.Proofs.YtpccakfbmbkmlaaW.PrintMore
set_option linter.unusedVariables false
set_option linter.unusedSimpArgs false
open Tk (B)
theorem apart_ev {a b : B} {n m z y : Int} (ha : Tk.sg a n = true) (hl : (a ++ b).length < 4611686018427387904) : Ev (fun k => token_apart.f k n (ba a) z m (ba b) y) (Tk.tg a b) := by
  obtain ⟨h1, h2, h3, h4⟩ := Tk.sg_ne ha
  obtain ⟨c, r, hc, hb⟩ := Tk.sg_head ha
  have hs : a ++ b = c :: (r ++ b) := by rw [hc]; rfl
  have hsk := Tk.skip_iff (r := r ++ b) hb
  rw [← hs] at hsk
  have hne : a ++ b ≠ [] := by rw [hs]; simp
  have hf := first_ev (a ++ b) hl hne
  by_cases hp : [47, 47].isPrefixOf (a ++ b) = true
  · have : Tk.tg a b = false := decide_eq_false (fun e => hsk.mp e.2 hp)
    rw [this]
    refine Ev.congr (fun k => ?_) (Ev.now _)
    unfold token_apart.f
    rw [if_pos (by rw [ba_size, ba_size]; simp at hl; omega), ba_append, slashes, prefix_f, Option.bind_some, if_pos hp]
  · refine Ev.congr (fun k => ?_) (Ev.bind (f := fun _ (bt : Int × ByteArray × Int) => if bt.1 = n then (some (bt.2.1.toList == (ba a).toList)) else (some false)) hf ?_)
    · unfold token_apart.f
      rw [if_pos (by rw [ba_size, ba_size]; simp at hl; omega), ba_append, slashes, prefix_f, Option.bind_some, if_neg hp]
    · dsimp only
      rw [ba_toList, ba_toList]
      refine Ev.congr (fun k => ?_) (Ev.now _)
      by_cases ht : (a ++ b).take (Tk.next (a ++ b)).2 = a
      · have : Tk.tg a b = true := decide_eq_true ⟨ht, hsk.mpr hp⟩
        have hpos : 0 < (Tk.next (a ++ b)).2 := by
          rcases Nat.eq_zero_or_pos (Tk.next (a ++ b)).2 with e | e
          · rw [e, List.take_zero] at ht; exact absurd ht.symm h1
          · exact e
        have hk : (Tk.next (a ++ b)).1 = n := by
          have := Tk.next_take hpos (Nat.le_refl _) (Or.inr trivial)
          rw [ht] at this
          rw [← this]; exact h3
        rw [this, if_pos hk, ht]; simp
      · have : Tk.tg a b = false := decide_eq_false (fun e => ht e.1)
        rw [this]
        by_cases hk : (Tk.next (a ++ b)).1 = n
        · rw [if_pos hk, beq_eq_false_iff_ne.mpr ht]
        · rw [if_neg hk]
/-! ### Lists of tokens joined -/
/-- A token's text. -/
def tx (t : S31) : B := t.f1.data.toList
theorem tx_ba (t : S31) : t.f1 = ba (tx t) := rfl
def sgT (t : S31) : Bool := Tk.sg (tx t) t.f0
/-- The text of tokens, behind one or none. -/
def joinT : Option S31 → List S31 → List Int
  | _, [] => []
  | none, t :: ts => bytesOf t.f1 ++ joinT (some t) ts
  | some p, t :: ts => (if Tk.tg (tx p) (tx t) = true then [] else [32]) ++ (bytesOf t.f1 ++ joinT (some t) ts)
def joinR (acc : List Int) (p : Option S31) (ts : List S31) : ByteArray × Int :=
  if ts.all sgT = true then (if ((acc ++ joinT p ts).length : Int) > 20000 then (⟨#[]⟩, 3) else (strOfNums (acc ++ joinT p ts), 0)) else (⟨#[]⟩, 4)
theorem bytesOf_len (s : ByteArray) : (bytesOf s).length = s.size := by simp [bytesOf]
theorem single_T (t : S31) (h : t.f1.size ≤ 20001) : Ev (fun k => token_single.f k t.f0 t.f1 t.f2) (sgT t) := single_ev (tx t) (by have := ba_size (tx t); rw [← tx_ba] at this; omega) _ _
theorem rToken_T (t : S31) (h : t.f1.size ≤ 20001) : Ev (fun k => biremeref02_Token.f k t.f0 t.f1 t.f2) (sgT t) := rToken_ev (tx t) (by have := ba_size (tx t); rw [← tx_ba] at this; omega) _ _
theorem tx_len (t : S31) : (tx t).length = t.f1.size := rfl
theorem get_last (pre : List S31) (p : S31) (ts : List S31) : rd_T31 (pre ++ [p] ++ ts) (((pre ++ [p]).length : Int) - 1) = p := by
  have e : (((pre ++ [p]).length : Int) - 1) = (pre.length : Int) := by simp
  rw [e, rd_get _ (by simp)]; simp
theorem get_next (pre : List S31) (t : S31) (ts : List S31) : rd_T31 (pre ++ t :: ts) (pre.length : Int) = t := by
  rw [rd_get _ (by simp)]; simp
theorem Join_l0 (xs : List S31) (hn : xs.length ≤ 20001) (hs : ∀ t ∈ xs, t.f1.size ≤ 20001) : ∀ (ts pre : List S31) (acc : List Int), xs = pre ++ ts → acc.length ≤ 20002 * pre.length → pre.all sgT = true →
    Ev (fun k => token_Join.l0 k xs acc xs (xs.length : Int) (pre.length : Int)) (joinR acc pre.getLast? ts) := by
  intro ts
  induction ts with
  | nil =>
    intro pre acc hx hacc hpre
    have hlen : xs.length = pre.length := by rw [hx]; simp
    refine Ev.one (Ev.congr (fun k => ?_) (Ev.now _))
    simp only [token_Join.l0]
    rw [if_neg (by omega)]
    unfold joinR
    have : joinT pre.getLast? [] = [] := by cases pre.getLast? <;> rfl
    rw [if_pos (show ([] : List S31).all sgT = true from rfl), this, List.append_nil]
    split <;> rfl
  | cons t ts ih =>
    intro pre acc hx hacc hpre
    have hlen : xs.length = pre.length + ts.length + 1 := by rw [hx]; simp; omega
    have ht : t ∈ xs := by rw [hx]; simp
    have hsz := hs t ht
    have hrd : rd_T31 xs (pre.length : Int) = t := by rw [hx]; exact get_next _ _ _
    have h1 := single_T t hsz
    have hx2 : xs = (pre ++ [t]) ++ ts := by rw [hx]; simp
    have hbl := bytesOf_len t.f1
    refine Ev.one (Ev.congr (fun k => ?_) (Ev.bind (f := fun k t166 => (if t166 = true then (if (pre.length : Int) > 0 then (if 0 ≤ (wrap64 ((pre.length : Int) - 1)) then (if (wrap64 ((pre.length : Int) - 1)) < (xs.length : Int) then ((token_apart.f k ((rd_T31 xs (wrap64 ((pre.length : Int) - 1))).f0) ((rd_T31 xs (wrap64 ((pre.length : Int) - 1))).f1) ((rd_T31 xs (wrap64 ((pre.length : Int) - 1))).f2) (t.f0) (t.f1) (t.f2)).bind fun t168 => (if t168 = true then (if acc.length + (t.f1).size < 140737488355328 then (token_Join.l0 k xs (acc ++ bytesOf (t.f1)) xs (xs.length : Int) (wrap64 ((pre.length : Int) + 1))) else (none)) else (if acc.length < 140737488355328 then ((some (acc ++ [32] : List Int)).bind fun y172 => (if y172.length + (t.f1).size < 140737488355328 then (token_Join.l0 k xs (y172 ++ bytesOf (t.f1)) xs (xs.length : Int) (wrap64 ((pre.length : Int) + 1))) else (none))) else (none)))) else (none)) else (none)) else (if acc.length + (t.f1).size < 140737488355328 then (token_Join.l0 k xs (acc ++ bytesOf (t.f1)) xs (xs.length : Int) (wrap64 ((pre.length : Int) + 1))) else (none))) else (some ((⟨#[]⟩ : ByteArray), 4)))) h1 ?_))
    · simp only [token_Join.l0]
      rw [if_pos (by omega), if_pos (by omega), if_pos (by omega), hrd]
    · have hw : wrap64 ((pre.length : Int) + 1) = ((pre ++ [t]).length : Int) := by rw [w64 (by omega) (by omega)]; simp
      cases hsg : sgT t with
      | false =>
        refine Ev.congr (fun k => if_neg (by decide)) ?_
        have : joinR acc pre.getLast? (t :: ts) = (⟨#[]⟩, 4) := by unfold joinR; rw [if_neg (by simp [hsg])]
        rw [this]; exact Ev.now _
      | true =>
        refine Ev.congr (fun k => if_pos rfl) ?_
        have hpre2 : (pre ++ [t]).all sgT = true := by rw [List.all_append, hpre]; simp [hsg]
        have hih := fun acc' h => ih (pre ++ [t]) acc' hx2 h hpre2
        rw [List.getLast?_concat] at hih
        rcases List.eq_nil_or_concat pre with rfl | ⟨q, p, rfl⟩
        · have ha0 : acc.length = 0 := by have h := hacc; rw [List.length_nil] at h; omega
          have := hih (acc ++ bytesOf t.f1) (by rw [List.length_append, hbl, ha0]; show 0 + t.f1.size ≤ 20002 * 1; omega)
          have e : joinR acc ([] : List S31).getLast? (t :: ts) = joinR (acc ++ bytesOf t.f1) (some t) ts := by
            unfold joinR
            have e1 : (t :: ts).all sgT = ts.all sgT := by simp [hsg]
            have e2 : acc ++ joinT ([] : List S31).getLast? (t :: ts) = acc ++ bytesOf t.f1 ++ joinT (some t) ts := by rw [List.append_assoc]; rfl
            rw [e1, e2]
          rw [e]
          refine Ev.congr (fun k => ?_) this
          rw [if_neg (by simp), if_pos (by omega), hw]
        · rw [List.concat_eq_append] at *
          have hplen : (q ++ [p]).length = q.length + 1 := by simp
          have hp : p ∈ xs := by rw [hx]; simp
          have hpz := hs p hp
          have hsp : sgT p = true := by
            rw [List.all_append] at hpre
            simp at hpre; exact hpre.2
          have hlast : rd_T31 xs (wrap64 (((q ++ [p]).length : Int) - 1)) = p := by
            rw [w64 (by omega) (by omega), hx]; exact get_last _ _ _
          have hap := apart_ev (a := tx p) (b := tx t) (n := p.f0) (m := t.f0) (z := p.f2) (y := t.f2) hsp (by rw [List.length_append, tx_len, tx_len]; omega)
          have hjoin : ∀ g : List Int, joinT (q ++ [p]).getLast? (t :: ts) = (if Tk.tg (tx p) (tx t) = true then [] else [32]) ++ (bytesOf t.f1 ++ joinT (some t) ts) := by
            intro _; rw [List.getLast?_concat]; rfl
          refine Ev.congr (fun k => ?_) (Ev.bind (f := fun k t168 => (if t168 = true then (if acc.length + (t.f1).size < 140737488355328 then (token_Join.l0 k xs (acc ++ bytesOf (t.f1)) xs (xs.length : Int) (wrap64 (((q ++ [p]).length : Int) + 1))) else (none)) else (if acc.length < 140737488355328 then ((some (acc ++ [32] : List Int)).bind fun y172 => (if y172.length + (t.f1).size < 140737488355328 then (token_Join.l0 k xs (y172 ++ bytesOf (t.f1)) xs (xs.length : Int) (wrap64 (((q ++ [p]).length : Int) + 1))) else (none))) else (none)))) hap ?_)
          · rw [if_pos (by omega), if_pos (by rw [w64 (by omega) (by omega)]; omega), if_pos (by rw [w64 (by omega) (by omega)]; omega), hlast]
            rfl
          · have e1 : (t :: ts).all sgT = ts.all sgT := by simp [hsg]
            cases htg : Tk.tg (tx p) (tx t) with
            | true =>
              have := hih (acc ++ bytesOf t.f1) (by rw [List.length_append, List.length_append, hbl, List.length_singleton]; omega)
              have e : joinR acc (q ++ [p]).getLast? (t :: ts) = joinR (acc ++ bytesOf t.f1) (some t) ts := by
                unfold joinR
                rw [e1, hjoin [], htg, if_pos rfl, List.nil_append, ← List.append_assoc]
              rw [e]
              refine Ev.congr (fun k => ?_) this
              rw [if_pos rfl, if_pos (by omega), hw]
            | false =>
              have := hih (acc ++ [32] ++ bytesOf t.f1) (by rw [List.length_append, List.length_append, List.length_append, hbl, List.length_singleton, List.length_singleton]; omega)
              have e : joinR acc (q ++ [p]).getLast? (t :: ts) = joinR (acc ++ [32] ++ bytesOf t.f1) (some t) ts := by
                unfold joinR
                rw [e1, hjoin [], htg, if_neg (show ¬ (false = true) by decide), ← List.append_assoc, ← List.append_assoc]
              rw [e]
              refine Ev.congr (fun k => ?_) this
              rw [if_neg (by decide), if_pos (by omega), Option.bind_some, if_pos (by rw [List.length_append, List.length_singleton]; omega), hw]
theorem Join_ev (xs : List S31) (hn : xs.length ≤ 20001) (hs : ∀ t ∈ xs, t.f1.size ≤ 20001) : Ev (fun k => token_Join.f k xs) (joinR [] none xs) :=
  Ev.congr (fun k => by unfold token_Join.f; rfl) (Join_l0 xs hn hs xs [] [] rfl (by simp) rfl)
/-! ### The list that the laws take -/
theorem list_l0 (ys : List S31) : ∀ (d i : Nat) (acc : List S31) (z : Int), 20001 - i = d → i ≤ 20001 → i ≤ ys.length → acc.length = i → (∀ t ∈ acc, t.f1.size ≤ 20001) → 0 ≤ z → z ≤ 20002 * i →
    ∃ xs : List S31, Ev (fun k => biremelaw02_list.l0 k ys acc z (i : Int)) xs ∧ xs.length ≤ 20001 ∧ ∀ t ∈ xs, t.f1.size ≤ 20001 := by
  intro d
  induction d with
  | zero =>
    intro i acc z hd hi hy ha hs h0 h1
    refine ⟨acc, Ev.one (Ev.congr (fun k => ?_) (Ev.now _)), by omega, hs⟩
    simp only [biremelaw02_list.l0]
    by_cases hlt : (i : Int) < (ys.length : Int)
    · rw [if_pos hlt, if_neg (by omega)]
    · rw [if_neg hlt]
  | succ d ih =>
    intro i acc z hd hi hy ha hs h0 h1
    by_cases hlt : (i : Int) < (ys.length : Int)
    · by_cases hz : z ≤ 20000
      · obtain ⟨v, hv⟩ := ba_surj (rd_T31 ys (i : Int)).f1
        have hvl := List.length_take_le 20001 v
        obtain ⟨xs, e, h2, h3⟩ := ih (i + 1) (acc ++ [(⟨(rd_T31 ys (i : Int)).f0, ba (v.take 20001), (rd_T31 ys (i : Int)).f2⟩ : S31)]) (z + ((v.take 20001).length : Int)) (by omega) (by omega) (by omega) (by simp; omega)
          (fun t ht => by
            rcases List.mem_append.mp ht with ht | ht
            · exact hs t ht
            · rw [List.mem_singleton] at ht; rw [ht]; exact hvl) (by omega) (by omega)
        refine ⟨xs, Ev.one (Ev.congr (fun k => ?_) e), h2, h3⟩
        simp only [biremelaw02_list.l0]
        rw [if_pos hlt, if_pos (by omega), if_pos hz, if_pos (by omega), hv, Short_f, Option.bind_some, if_pos (by omega), ba_size, w64 (n := z + ((v.take 20001).length : Int)) (by omega) (by omega), w64 (n := (i : Int) + 1) (by omega) (by omega)]
        rfl
      · refine ⟨acc, Ev.one (Ev.congr (fun k => ?_) (Ev.now _)), by omega, hs⟩
        simp only [biremelaw02_list.l0]
        rw [if_pos hlt, if_pos (by omega), if_neg hz]
    · refine ⟨acc, Ev.one (Ev.congr (fun k => ?_) (Ev.now _)), by omega, hs⟩
      simp only [biremelaw02_list.l0]
      rw [if_neg hlt]
theorem list_ev (ys : List S31) : ∃ xs : List S31, Ev (fun k => biremelaw02_list.f k ys) xs ∧ xs.length ≤ 20001 ∧ ∀ t ∈ xs, t.f1.size ≤ 20001 := by
  obtain ⟨xs, e, h⟩ := list_l0 ys _ 0 [] 0 rfl (by omega) (Nat.zero_le _) rfl (fun t ht => by cases ht) (Int.le_refl _) (by omega)
  exact ⟨xs, Ev.congr (fun k => by unfold biremelaw02_list.f; rfl) e, h⟩
end Go.Proofs.Ytpccakfbmbkmlaa.PAll
