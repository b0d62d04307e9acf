/- Blanks and a remark ahead of a token: the law TokenBlanks, as plain mathematics. -/
import Derived.Test.YtpccakfbmbkmlaaLBlanks
import Derived.Test.YtpccakfbmbkmlaaP5
import Derived.Test.YtpccakfbmbkmlaaM4
namespace Go.Proofs.Ytpccakfbmbkmlaa.Pure
open Go.RowKit Go.Proofs.Ytpccakfbmbkmlaa.PAll Go.Proofs.YtpccakfbmbkmlaaW.PrintWords Go.Proofs.YtpccakfbmbkmlaaW.PrintLast
open Tk (B)
theorem blanks_end : Ev (fun k => (biremelaw02_alive.f k).bind fun t => some t) true := Ev.bind (f := fun _ t => some t) alive_ev (Ev.now _)
/-- The loop that moves the tokens from one on, and what follows. -/
theorem Blanks_l0 (w : B) (hw : w.length ≤ 20000) (e : Int) (he : e = 0) (n : List S31) (hn : n.length < 1000000) : ∀ (m l : List S31), (∀ x ∈ m, 0 ≤ x.f2 ∧ x.f2 ≤ 20000) → l.length + m.length < 1000000 → n = l ++ m.map (mv (w.length : Int)) →
    Ev (fun k => biremelaw02_TokenBlanks.l0 k (l ++ m) (ba w) n e (l.length : Int)) true := by
  intro m
  induction m with
  | nil =>
    intro l _ hlen hsame
    rw [List.map_nil, List.append_nil] at hsame
    subst hsame
    have hS := Same_self n true hn
    refine Ev.one (Ev.congr (g := fun k => biremelaw02_TokenBlanks.l0 (k + 1) (n ++ []) (ba w) n e (n.length : Int)) (fun k => ?_) (Ev.bind (f := fun k t => if t = true then ((biremelaw02_alive.f k).bind fun t => (some t)) else (some false)) hS ?_))
    · simp only [biremelaw02_TokenBlanks.l0]
      rw [List.append_nil, if_neg (by omega), if_pos he]
    · refine Ev.congr (fun k => ?_) blanks_end
      rw [if_pos rfl]
  | cons x m ih =>
    intro l hb hlen hsame
    have hx := hb x (by simp)
    have hl : (l ++ x :: m).length = l.length + m.length + 1 := by simp; omega
    have := ih (l ++ [mv (w.length : Int) x]) (fun y hy => hb y (by simp [hy])) (by simp at hlen ⊢; omega) (by rw [hsame]; simp)
    refine Ev.one (Ev.congr (fun k => ?_) this)
    simp only [biremelaw02_TokenBlanks.l0]
    have hrd : rd_T31 (l ++ x :: m) (l.length : Int) = x := by
      rw [rd_get _ (by omega)]; simp
    rw [hl, if_pos (by omega), if_pos (by omega), hrd, Int.toNat_natCast, ba_size, w64 (n := x.f2 + (w.length : Int)) (by omega) (by omega), w64 (n := (l.length : Int) + 1) (by omega) (by omega)]
    have e1 : (l ++ x :: m).set l.length (⟨x.f0, x.f1, x.f2 + (w.length : Int)⟩ : S31) = l ++ [mv (w.length : Int) x] ++ m := by
      rw [List.set_append_right _ _ (Nat.le_refl _), Nat.sub_self, List.set_cons_zero]
      simp [mv]
    rw [e1]
    congr 1
    simp
theorem TokenBlanks : biremelaw02_TokenBlanks.Pure := by
  intro a0 a1 _ ha1
  obtain ⟨u, rfl⟩ := ba_surj a0
  refine Ev.rounds ?_
  have hA := List.length_take_le 20001 u
  generalize hAe : u.take 20001 = A at *
  have ha : 0 ≤ a1 ∧ a1 ≤ 65535 := by
    simp only [Lit.wf, IntKind.min, IntKind.max, IntKind.signed, IntKind.bits, Bool.and_eq_true, decide_eq_true_eq] at ha1
    simp at ha1
    omega
  have hins : (⟨#[32, 9, 47, 47, 32, 110, 111, 32, 43, 32, 116, 111, 107, 101, 110, 32, 59, 10, 13]⟩ : ByteArray) = ba Tk.insW := rfl
  have hstop : ∀ (x5 : ByteArray) (x6 : List S31) (x9 : ByteArray), Ev (fun k => biremelaw02_TokenBlanks.j0 k a1 x5 x6 x9 true) true := by
    intro x5 x6 x9
    refine Ev.one (Ev.congr (fun k => ?_) blanks_end)
    simp only [biremelaw02_TokenBlanks.j0]
    rw [if_pos True.intro]
  have hstart : ∀ k, biremelaw02_TokenBlanks.f k (ba u) a1 = (if (lexR A).2.2 = 0 then (if ((lexR A).1.length : Int) = 0 then (biremelaw02_TokenBlanks.j0 k a1 (ba A) (lexR A).1 (ba Tk.insW) true) else (biremelaw02_TokenBlanks.j0 k a1 (ba A) (lexR A).1 (ba Tk.insW) (decide ((wrap64 (((ba A).size : Int) + 19)) > 20000)))) else (biremelaw02_TokenBlanks.j0 k a1 (ba A) (lexR A).1 (ba Tk.insW) true)) := by
    intro k
    unfold biremelaw02_TokenBlanks.f
    rw [Short_f, hAe, Option.bind_some, Lex_f, Option.bind_some, hins]
  refine Ev.congr hstart ?_
  by_cases h1 : (lexR A).2.2 = 0
  · refine Ev.congr (fun k => if_pos h1) ?_
    by_cases h2 : ((lexR A).1.length : Int) = 0
    · exact Ev.congr (fun k => if_pos h2) (hstop _ _ _)
    · refine Ev.congr (fun k => if_neg h2) ?_
      rw [ba_size, w64 (n := (A.length : Int) + 19) (by omega) (by omega)]
      by_cases h3 : (A.length : Int) + 19 > 20000
      · rw [decide_eq_true h3]; exact hstop _ _ _
      · rw [decide_eq_false h3]
        have rA : lexR A = match (Tk.scan A 0).2 with | none => ((Tk.scan A 0).1.map toS, 0, 0) | some e => ([], (e : Int), 4) := if_neg (by omega)
        have lA := lexR_len A
        cases hAs : (Tk.scan A 0).2 with
        | some e => rw [hAs] at rA; rw [rA] at h1; have h9 : (4 : Int) = 0 := h1; omega
        | none =>
          rw [hAs] at rA
          dsimp only at rA
          have hI := Tk.scan_ins Tk.insW_ins A 0 hAs
          have hbd := (Tk.scan_bounds A 0).1
          generalize hts : (Tk.scan A 0).1 = ts at *
          rw [rA] at h2 lA ⊢
          dsimp only at h2 lA ⊢
          have hlen : (ts.map toS).length = ts.length := List.length_map ..
          rw [hlen] at h2 lA
          have hpos : 0 < ts.length := by omega
          -- the token's number
          have hm : Int.tmod a1 (ts.length : Int) = ((a1.toNat % ts.length : Nat) : Int) := by
            rw [Int.tmod_eq_emod_of_nonneg ha.1, Int.natCast_emod, Int.toNat_of_nonneg ha.1]
          have hjl := Nat.mod_lt a1.toNat hpos
          generalize a1.toNat % ts.length = j at *
          have hI := hI j hjl
          have hbj := hbd _ (List.getElem_mem hjl)
          have hrd : (rd_T31 (ts.map toS) (j : Int)).f2 = (ts[j].a : Int) := by
            rw [rd_get _ (by rw [hlen]; exact hjl), List.getElem_map]; rfl
          rw [Nat.sub_zero] at hI
          generalize ts[j].a = o at *
          have e2 : (ba A).extract 0 (o : Int).toNat = ba (A.take o) := by rw [ba_extract, Int.toNat_natCast, List.drop_zero]
          have e3 : (ba A).extract (o : Int).toNat A.length = ba (A.drop o) := by rw [ba_extract, Int.toNat_natCast, List.take_length]
          have hle : (A.take o ++ (Tk.insW ++ A.drop o)).length = A.length + 19 := by
            have : Tk.insW.length = 19 := rfl
            simp only [List.length_append, List.length_take, List.length_drop]; omega
          have hcat : (ba (A.take o) ++ ba Tk.insW) ++ ba (A.drop o) = ba (A.take o ++ (Tk.insW ++ A.drop o)) := by rw [ba_append, ba_append, List.append_assoc]
          have rN : lexR (A.take o ++ (Tk.insW ++ A.drop o)) = ((ts.take j ++ (ts.drop j).map (Tk.shift Tk.insW.length)).map toS, 0, 0) := by
            have : lexR (A.take o ++ (Tk.insW ++ A.drop o)) = match (Tk.scan (A.take o ++ (Tk.insW ++ A.drop o)) 0).2 with | none => ((Tk.scan (A.take o ++ (Tk.insW ++ A.drop o)) 0).1.map toS, 0, 0) | some e => ([], (e : Int), 4) := if_neg (by omega)
            rw [this, hI]
          have hb : ∀ x ∈ (ts.drop j).map toS, 0 ≤ x.f2 ∧ x.f2 ≤ 20000 := fun x hx => by
            rw [List.mem_map] at hx
            obtain ⟨t, ht, rfl⟩ := hx
            have := hbd t (List.mem_of_mem_drop ht)
            show 0 ≤ (t.a : Int) ∧ (t.a : Int) ≤ 20000
            omega
          have hsame : (ts.take j ++ (ts.drop j).map (Tk.shift Tk.insW.length)).map toS = (ts.take j).map toS ++ ((ts.drop j).map toS).map (mv (Tk.insW.length : Int)) := by rw [List.map_append, toS_shift]
          have hl := Blanks_l0 Tk.insW (by decide) 0 rfl ((ts.take j ++ (ts.drop j).map (Tk.shift Tk.insW.length)).map toS) (by simp; omega) ((ts.drop j).map toS) ((ts.take j).map toS) hb (by simp; omega) hsame
          rw [← List.map_append, List.take_append_drop, List.length_map, List.length_take, Nat.min_eq_left (by omega)] at hl
          refine Ev.one (Ev.congr (fun k => ?_) hl)
          simp only [biremelaw02_TokenBlanks.j0]
          rw [if_neg (by decide), hlen, if_neg (by omega), w64 (n := a1) (by omega) (by omega), hm, if_pos (by omega), if_pos (by omega), hrd, if_pos (by omega), ba_size, if_pos (by omega), e2, e3, ba_append, ba_size, ba_size, ba_size, ba_size,
            if_pos (by simp only [List.length_take]; have : Tk.insW.length = 19 := rfl; omega), if_pos (by simp only [List.length_append, List.length_take, List.length_drop]; have : Tk.insW.length = 19 := rfl; omega), ba_append, List.append_assoc, Lex_f, Option.bind_some, rN]
  · exact Ev.congr (fun k => if_neg h1) (hstop _ _ _)
end Go.Proofs.Ytpccakfbmbkmlaa.Pure
