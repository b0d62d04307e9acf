/- The tokens of joined tokens are these, where they are: the law TokenBack, as plain mathematics. -/
import Derived.Test.YtpccakfbmbkmlaaLBack
import Derived.Test.YtpccakfbmbkmlaaP8
namespace Go.Proofs.Ytpccakfbmbkmlaa.Pure
open Go.RowKit Go.Proofs.Ytpccakfbmbkmlaa.PAll Go.Proofs.YtpccakfbmbkmlaaW.PrintWords Go.Proofs.YtpccakfbmbkmlaaW.PrintLast
open Tk (B)
theorem back_end : Ev (fun k => (biremelaw02_alive.f k).bind fun t => some t) true := Ev.bind (f := fun _ t => some t) alive_ev (Ev.now _)
theorem back_empty : (⟨#[]⟩ : ByteArray).toList = ([] : List UInt8) := by rw [ByteArray.toList_eq]
theorem back_ne (e : Nat) : ¬ ((e + 1 : Nat) : Int) = (e : Int) := by omega
theorem back_pos {n : Nat} (h : 0 < n) : ¬ (n : Int) = 0 := by omega
theorem back_small (e : Nat) (h : e ≤ 20000) : wrap64 ((e : Int) + 1) = ((e + 1 : Nat) : Int) := by rw [w64 (by omega) (by omega)]; rfl
/-- The loop over the tokens that were read back. -/
theorem Back_l0 (s : B) (hl : s.length ≤ 20000) : ∀ (ts : List S31) (p : Option S31) (e : Nat) (pre : List S31), s.drop e = jb p ts → e ≤ s.length → (∀ x ∈ ts, sgT x = true) → (p = none ↔ pre = []) → pre.length + ts.length < 1000000 →
    Ev (fun k => biremelaw02_TokenBack.l0 k (ba s) (pre ++ (tk e p ts).map toS) (e : Int) (pre.length : Int)) true := by
  intro ts
  induction ts with
  | nil =>
    intro p e pre hd he _ _ _
    have h0 : jb p [] = [] := by cases p <;> rfl
    have h1 : tk e p [] = [] := by cases p <;> rfl
    rw [h0] at hd
    have h2 := congrArg List.length hd
    rw [List.length_drop, List.length_nil] at h2
    rw [h1]
    refine Ev.one (Ev.congr (fun k => ?_) back_end)
    simp only [biremelaw02_TokenBack.l0]
    rw [List.map_nil, List.append_nil, if_neg (by omega), ba_size, if_pos (by omega)]
  | cons t ts ih =>
    intro p e pre hd he hs hp hlen
    have ht := hs t (by simp)
    have hts : ∀ x ∈ ts, sgT x = true := fun x hx => hs x (by simp [hx])
    -- how far the token is from the end of the one ahead
    obtain ⟨g, hg⟩ : ∃ g : Nat, g = (match p with | none => 0 | some q => if Tk.tg (tx q) (tx t) = true then 0 else 1) := ⟨_, rfl⟩
    have hg1 : g = 0 ∨ g = 1 ∧ p ≠ none := by
      cases p with
      | none => exact Or.inl hg
      | some q =>
        dsimp only at hg
        by_cases hq : Tk.tg (tx q) (tx t) = true
        · rw [if_pos hq] at hg; exact Or.inl hg
        · rw [if_neg hq] at hg; exact Or.inr ⟨hg, by simp⟩
    have hj : jb p (t :: ts) = List.replicate g 32 ++ (tx t ++ jb (some t) ts) := by
      cases p with
      | none => rw [hg]; rfl
      | some q =>
        show (if Tk.tg (tx q) (tx t) = true then [] else [32]) ++ (tx t ++ jb (some t) ts) = _
        dsimp only at hg
        by_cases hq : Tk.tg (tx q) (tx t) = true
        · rw [if_pos hq] at hg ⊢; rw [hg]; rfl
        · rw [if_neg hq] at hg ⊢; rw [hg]; rfl
    have hk : tk e p (t :: ts) = ⟨t.f0, tx t, e + g⟩ :: tk (e + g + (tx t).length) (some t) ts := by
      cases p with
      | none => rw [hg]; rfl
      | some q => rw [hg]; rfl
    rw [hj] at hd
    have hdl := congrArg List.length hd
    rw [List.length_drop, List.length_append, List.length_append, List.length_replicate] at hdl
    have hd2 : s.drop (e + g + (tx t).length) = jb (some t) ts := by
      rw [← List.drop_drop, ← List.drop_drop, hd]
      have : (List.replicate g (32 : UInt8) ++ (tx t ++ jb (some t) ts)).drop g = tx t ++ jb (some t) ts := by
        have := List.drop_left (l₁ := List.replicate g (32 : UInt8)) (l₂ := tx t ++ jb (some t) ts)
        rw [List.length_replicate] at this
        exact this
      rw [this, List.drop_left]
    have hih := ih (some t) (e + g + (tx t).length) (pre ++ [toS ⟨t.f0, tx t, e + g⟩]) hd2 (by omega) hts (by simp) (by simp at hlen ⊢; omega)
    have hm : pre ++ (tk e p (t :: ts)).map toS = pre ++ [toS ⟨t.f0, tx t, e + g⟩] ++ (tk (e + g + (tx t).length) (some t) ts).map toS := by rw [hk]; simp
    have hrd : rd_T31 (pre ++ (tk e p (t :: ts)).map toS) (pre.length : Int) = toS ⟨t.f0, tx t, e + g⟩ := by rw [hk, List.map_cons]; exact get_next _ _ _
    have hlt : (pre.length : Int) < ((pre ++ (tk e p (t :: ts)).map toS).length : Int) := by rw [hk]; simp; omega
    have f1 : (toS ⟨t.f0, tx t, e + g⟩).f1 = ba (tx t) := rfl
    have f2 : (toS ⟨t.f0, tx t, e + g⟩).f2 = ((e + g : Nat) : Int) := rfl
    have hw1 : wrap64 (((e + g : Nat) : Int) + ((ba (tx t)).size : Int)) = ((e + g + (tx t).length : Nat) : Int) := by rw [ba_size, w64 (by omega) (by omega)]; omega
    have hw2 : wrap64 ((pre.length : Int) + 1) = ((pre ++ [toS ⟨t.f0, tx t, e + g⟩]).length : Int) := by rw [w64 (by omega) (by omega)]; simp
    have hpos : (0 : Int) ≤ (pre.length : Int) := Int.natCast_nonneg _
    have hfin : ((e + g : Nat) : Int) = (e : Int) ∨ (¬ ((e + g : Nat) : Int) = (e : Int) ∧ ¬ (pre.length : Int) = 0 ∧ ((e + g : Nat) : Int) = wrap64 ((e : Int) + 1) ∧ (0 : Int) ≤ (e : Int) ∧ (e : Int) < ((ba s).size : Int) ∧ bt (ba s) (e : Int) = 32) := by
      rcases hg1 with h0 | ⟨h1, hpn⟩
      · exact Or.inl (by rw [h0]; rfl)
      · have hpre : pre ≠ [] := fun e0 => hpn (hp.mpr e0)
        have hpl := List.length_pos_iff.mpr hpre
        have hes : e < s.length := by clear hih hm hrd hlt hw1 hw2 hk hj; omega
        refine Or.inr ⟨?_, ?_, ?_, Int.natCast_nonneg _, ?_, ?_⟩
        · rw [h1]; exact back_ne e
        · exact back_pos hpl
        · rw [h1]; exact (back_small e (Nat.le_trans he hl)).symm
        · rw [ba_size]; exact Int.ofNat_lt.mpr hes
        · rw [bt_ba hes]
          have h5 := List.drop_eq_getElem_cons hes
          rw [hd, h1] at h5
          injection h5 with h6 _
          rw [← h6]; rfl
    clear hd hdl hd2 hk hj hg hg1 hp hlen hs ht hts ih
    generalize ((e + g + (tx t).length : Nat) : Int) = z1 at *
    generalize ((e + g : Nat) : Int) = z2 at *
    generalize ((pre ++ [toS ⟨t.f0, tx t, e + g⟩]).length : Int) = z3 at *
    rw [← hm] at hih
    generalize pre ++ (tk e p (t :: ts)).map toS = m at *
    refine Ev.one (Ev.congr (fun k => ?_) hih)
    simp only [biremelaw02_TokenBack.l0]
    rw [if_pos hlt, if_pos hpos, hrd, f1, f2, hw1, hw2]
    rcases hfin with h0 | ⟨h1, h2, h3, h4, h5, h6⟩
    · rw [if_pos h0]
    · rw [if_neg h1, if_neg h2, if_pos h3, if_pos h4, if_pos h5, if_pos h6]
theorem TokenBack (ys : List S31) : ∃ k, biremelaw02_TokenBack.f k ys = some true := by
  refine Ev.rounds ?_
  obtain ⟨xs, hL, hn, hs⟩ := list_ev ys
  have hJ := Join_ev xs hn hs
  rw [joinR_jb] at hJ
  refine Ev.congr (fun k => ?_) (Ev.bind (f := fun k t236 => ((some (([] : List (S31)) : List (S31))).bind fun y239 => (if y239.length + t236.length < 4398046511104 then ((token_Join.f k (y239 ++ t236)).bind fun bt245 => (if bt245.2 = 0 then ((token_Lex.f bt245.1).bind fun bt249 => (if bt249.2.2 = 0 then (if bt249.2.1 = 0 then ((biremeref02_Same.f k bt249.1 t236 false).bind fun t254 => (biremelaw02_TokenBack.j0 k bt245.1 bt249.1 (!t254))) else (biremelaw02_TokenBack.j0 k bt245.1 bt249.1 true)) else (biremelaw02_TokenBack.j0 k bt245.1 bt249.1 true))) else (if bt245.1.toList = ([] : List UInt8) then (if bt245.2 = 4 then ((biremelaw02_alive.f k).bind fun t247 => (some t247)) else (if bt245.2 = 3 then ((biremelaw02_alive.f k).bind fun t248 => (some t248)) else (some false))) else (some false)))) else (none)))) hL ?_)
  · unfold biremelaw02_TokenBack.f
    rfl
  · refine Ev.congr (fun k => ?_) (Ev.bind (f := fun k (bt245 : ByteArray × Int) => (if bt245.2 = 0 then ((token_Lex.f bt245.1).bind fun bt249 => (if bt249.2.2 = 0 then (if bt249.2.1 = 0 then ((biremeref02_Same.f k bt249.1 xs false).bind fun t254 => (biremelaw02_TokenBack.j0 k bt245.1 bt249.1 (!t254))) else (biremelaw02_TokenBack.j0 k bt245.1 bt249.1 true)) else (biremelaw02_TokenBack.j0 k bt245.1 bt249.1 true))) else (if bt245.1.toList = ([] : List UInt8) then (if bt245.2 = 4 then ((biremelaw02_alive.f k).bind fun t247 => (some t247)) else (if bt245.2 = 3 then ((biremelaw02_alive.f k).bind fun t248 => (some t248)) else (some false))) else (some false)))) hJ ?_)
    · rw [Option.bind_some, List.nil_append, List.length_nil, if_pos (by omega)]
    · by_cases hall : xs.all sgT = true
      · rw [if_pos hall]
        by_cases hbig : ((jb none xs).length : Int) > 20000
        · rw [if_pos hbig]
          refine Ev.congr (fun k => ?_) back_end
          dsimp only
          rw [if_neg (by decide), if_pos back_empty, if_neg (by decide), if_pos rfl]
        · rw [if_neg hbig]
          have hsg : ∀ x ∈ xs, sgT x = true := fun x hx => List.all_eq_true.mp hall x hx
          have hsc := scan_join xs hsg
          have hlex : lexR (jb none xs) = ((tk 0 none xs).map toS, 0, 0) := by
            have : lexR (jb none xs) = match (Tk.scan (jb none xs) 0).2 with | none => ((Tk.scan (jb none xs) 0).1.map toS, 0, 0) | some e => ([], (e : Int), 4) := if_neg (by omega)
            rw [this, hsc]
          have hkl : (tk 0 none xs).length < 1000000 := by
            have := congrArg List.length (tk_kt xs 0 none)
            rw [List.length_map, List.length_map] at this
            omega
          obtain ⟨r, hS, hr⟩ := same_kt (tk 0 none xs) xs hkl
          have hrt : r = true := hr.mpr (tk_kt xs 0 none)
          subst hrt
          have hl := Back_l0 (jb none xs) (by omega) xs none 0 [] rfl (Nat.zero_le _) hsg (by simp) (by simp; omega)
          refine Ev.congr (fun k => ?_) (Ev.bind (f := fun k t254 => (biremelaw02_TokenBack.j0 k (ba (jb none xs)) ((tk 0 none xs).map toS) (!t254))) hS ?_)
          · dsimp only
            rw [if_pos rfl, Lex_f, Option.bind_some, hlex]
            dsimp only
            rw [if_pos rfl, if_pos rfl]
          · refine Ev.one (Ev.congr (fun k => ?_) hl)
            simp only [biremelaw02_TokenBack.j0]
            rw [if_neg (by decide)]
            rfl
      · rw [if_neg hall]
        refine Ev.congr (fun k => ?_) back_end
        dsimp only
        rw [if_neg (by decide), if_pos back_empty, if_pos rfl]
end Go.Proofs.Ytpccakfbmbkmlaa.Pure
