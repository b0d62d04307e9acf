/- Without one of its blanks, a joined text has not the same tokens: the law TokenLeast, as plain mathematics. -/
import Derived.Test.YtpccakfbmbkmlaaLLeast
import Derived.Test.YtpccakfbmbkmlaaP8
namespace Go.Proofs.Ytpccakfbmbkmlaa.Pure
open Go.RowKit Go.Proofs.Ytpccakfbmbkmlaa.PAll Go.Proofs.YtpccakfbmbkmlaaW.PrintWords Go.Proofs.YtpccakfbmbkmlaaW.PrintLast
open Tk (B)
theorem least_end : Ev (fun k => (biremelaw02_alive.f k).bind fun t => some t) true := Ev.bind (f := fun _ t => some t) alive_ev (Ev.now _)
theorem byte_32 (c : UInt8) : ((c.toNat : Int) = 32) = (c = 32) := byte_eq c 32 (by decide)
theorem least_stop (xs : List S31) (s : ByteArray) (z w : Int) (x : Bool) (hx : x = false) : Ev (fun k => biremelaw02_TokenLeast.j1 k xs s z w x) true := by
  subst hx
  refine Ev.one (Ev.congr (fun k => ?_) least_end)
  simp only [biremelaw02_TokenLeast.j1]
  rw [if_neg (by decide)]
theorem scan_count (l : B) (a : Nat) : (Tk.scan l a).1.length ≤ l.length := by
  induction l, a using Tk.scan_ind with
  | h0 l a h => rw [Tk.scan_nil h]; exact Nat.zero_le _
  | h1 l a h h2 => rw [Tk.scan_bad h h2]; exact Nat.zero_le _
  | h2 l a h h2 ih =>
    rw [Tk.scan_tok h h2, List.length_cons]
    have h3 := Tk.skip_le l
    have h4 := Tk.next_le (Tk.skip l)
    rw [List.length_drop] at ih
    omega
theorem scan_size (l : B) (hl : l.length ≤ 20000) : (Tk.scan l 0).1.length < 1000000 := by
  have := scan_count l 0
  omega
theorem Least_l0 (xs : List S31) (s : B) (hl : s.length ≤ 20000) (hb : ∀ i, s[i]? = some 32 → ¬ (Tk.scan (s.take i ++ s.drop (i + 1)) 0).1.map (fun q => (q.k, q.t)) = xs.map (fun t => (t.f0, tx t))) :
    ∀ (d i : Nat) (z : Int), s.length - i = d → i ≤ s.length → 0 ≤ z → z ≤ i → Ev (fun k => biremelaw02_TokenLeast.l0 k xs (ba s) z (i : Int)) true := by
  intro d
  induction d with
  | zero =>
    intro i z hd hi h0 h1
    refine Ev.one (Ev.congr (fun k => ?_) (least_stop xs (ba s) z (i : Int) false rfl))
    simp only [biremelaw02_TokenLeast.l0]
    rw [ba_size, if_neg (by omega)]
  | succ d ih =>
    intro i z hd hi h0 h1
    have hlt : i < s.length := by omega
    have hw : wrap64 ((i : Int) + 1) = ((i + 1 : Nat) : Int) := by rw [w64 (by omega) (by omega)]; rfl
    have hwz : wrap64 (z + 1) = z + 1 := w64 (by omega) (by omega)
    have hnext := ih (i + 1) z (by omega) (by omega) h0 (by omega)
    have hnext1 := ih (i + 1) (z + 1) (by omega) (by omega) (by omega) (by omega)
    refine Ev.one (Ev.congr (f := fun k => biremelaw02_TokenLeast.j1 k xs (ba s) z (i : Int) (decide (z < 200))) (fun k => ?_) ?_)
    · simp only [biremelaw02_TokenLeast.l0]
      rw [ba_size, if_pos (by omega)]
    · by_cases hz : z < 200
      · rw [decide_eq_true hz]
        by_cases hc : s[i] = 32
        · have hm := hb i (by rw [List.getElem?_eq_getElem hlt, hc])
          have hlen : (s.take i ++ s.drop (i + 1)).length ≤ 20000 := by simp only [List.length_append, List.length_take, List.length_drop]; omega
          obtain ⟨r, hS, hr⟩ := same_kt (Tk.scan (s.take i ++ s.drop (i + 1)) 0).1 xs (scan_size _ hlen)
          have hrf : r = false := Bool.eq_false_iff.mpr (fun e => hm (hr.mp e))
          subst hrf
          have e1 : (ba s).extract 0 (i : Int).toNat = ba (s.take i) := by rw [Int.toNat_natCast, ba_extract, List.drop_zero]
          have e2 : (ba s).extract ((i + 1 : Nat) : Int).toNat (ba s).size = ba (s.drop (i + 1)) := ba_from' s (i + 1)
          have hstart : ∀ k, biremelaw02_TokenLeast.j1 (k + 1) xs (ba s) z (i : Int) true = (if (lexR (s.take i ++ s.drop (i + 1))).2.2 = 0 then ((biremeref02_Same.f k (lexR (s.take i ++ s.drop (i + 1))).1 xs false).bind fun t280 => (if t280 = true then (some false) else (biremelaw02_TokenLeast.l0 k xs (ba s) (z + 1) ((i + 1 : Nat) : Int)))) else (biremelaw02_TokenLeast.l0 k xs (ba s) (z + 1) ((i + 1 : Nat) : Int))) := by
            intro k
            simp only [biremelaw02_TokenLeast.j1]
            rw [if_pos True.intro, if_pos (Int.natCast_nonneg _), hw, hwz, e1, e2, ba_size, if_pos (Int.ofNat_lt.mpr hlt), bt_ba hlt, if_pos (by rw [hc]; rfl), if_pos (Int.ofNat_le.mpr hi), if_pos (Int.natCast_nonneg _), if_pos (Int.ofNat_le.mpr hlt), ba_size, ba_size, if_pos (by simp only [List.length_take, List.length_drop]; omega), ba_append, Lex_f, Option.bind_some]
          refine Ev.one (Ev.congr hstart ?_)
          have rN : lexR (s.take i ++ s.drop (i + 1)) = match (Tk.scan (s.take i ++ s.drop (i + 1)) 0).2 with | none => ((Tk.scan (s.take i ++ s.drop (i + 1)) 0).1.map toS, 0, 0) | some e => ([], (e : Int), 4) := if_neg (by omega)
          cases he : (Tk.scan (s.take i ++ s.drop (i + 1)) 0).2 with
          | some e =>
            rw [he] at rN
            rw [rN]
            exact Ev.congr (fun k => rfl) hnext1
          | none =>
            rw [he] at rN
            rw [rN]
            refine Ev.congr (fun k => if_pos rfl) (Ev.bind (f := fun k t280 => (if t280 = true then (some false) else (biremelaw02_TokenLeast.l0 k xs (ba s) (z + 1) ((i + 1 : Nat) : Int)))) hS ?_)
            exact Ev.congr (fun k => if_neg (by decide)) hnext1
        · refine Ev.one (Ev.congr (fun k => ?_) hnext)
          simp only [biremelaw02_TokenLeast.j1]
          rw [if_pos True.intro, if_pos (Int.natCast_nonneg _), hw, ba_size, if_pos (Int.ofNat_lt.mpr hlt), bt_ba hlt, if_neg (by rw [byte_32]; exact hc)]
      · exact least_stop xs (ba s) z _ _ (decide_eq_false hz)
theorem TokenLeast (ys : List S31) : ∃ k, biremelaw02_TokenLeast.f k ys = some true := by
  refine Ev.rounds ?_
  obtain ⟨xs, hL, hn, hs⟩ := list_ev ys
  have hJ := Join_ev xs hn hs
  rw [joinR_jb] at hJ
  refine Ev.congr (fun k => ?_) (Ev.bind (f := fun k t262 => ((some (([] : List (S31)) : List (S31))).bind fun y265 => (if y265.length + t262.length < 4398046511104 then ((token_Join.f k (y265 ++ t262)).bind fun bt271 => (if bt271.2 = 0 then (biremelaw02_TokenLeast.l0 k t262 bt271.1 0 0) else ((biremelaw02_alive.f k).bind fun t273 => (some t273)))) else (none)))) hL ?_)
  · unfold biremelaw02_TokenLeast.f
    rfl
  · refine Ev.congr (fun k => ?_) (Ev.bind (f := fun k (bt271 : ByteArray × Int) => (if bt271.2 = 0 then (biremelaw02_TokenLeast.l0 k xs bt271.1 0 0) else ((biremelaw02_alive.f k).bind fun t273 => (some t273)))) hJ ?_)
    · rw [Option.bind_some, List.nil_append, List.length_nil, if_pos (by omega)]
    · by_cases hall : xs.all sgT = true
      · rw [if_pos hall]
        by_cases hbig : ((jb none xs).length : Int) > 20000
        · rw [if_pos hbig]
          exact Ev.congr (fun k => if_neg (by decide)) least_end
        · rw [if_neg hbig]
          have hsg : ∀ x ∈ xs, sgT x = true := fun x hx => List.all_eq_true.mp hall x hx
          have hl := Least_l0 xs (jb none xs) (by omega) (fun i hi => least_join xs i hsg hi) _ 0 0 rfl (Nat.zero_le _) (Int.le_refl _) (Int.le_refl _)
          exact Ev.congr (fun k => if_pos rfl) hl
      · rw [if_neg hall]
        exact Ev.congr (fun k => if_neg (by decide)) least_end
end Go.Proofs.Ytpccakfbmbkmlaa.Pure
