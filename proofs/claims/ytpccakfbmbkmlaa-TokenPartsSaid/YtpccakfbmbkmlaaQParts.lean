/- A line feed between two texts: the law TokenParts, as plain mathematics. -/
import Derived.Test.YtpccakfbmbkmlaaLParts
import Derived.Test.YtpccakfbmbkmlaaP5
namespace Go.Proofs.Ytpccakfbmbkmlaa.Pure
open Go.RowKit Go.Proofs.Ytpccakfbmbkmlaa.PAll Go.Proofs.YtpccakfbmbkmlaaW.PrintWords Go.Proofs.YtpccakfbmbkmlaaW.PrintLast
open Tk (B)
/-- The loop that moves the later tokens, and what follows. -/
theorem Parts_l0 (A : B) (hA : A.length ≤ 20000) (l m n : List S31) (hm : m.length < 500000) (hb : ∀ x ∈ m, 0 ≤ x.f2 ∧ x.f2 ≤ 20000) (hl : l.length < 500000) (hsame : n = l ++ m.map (mv ((A.length : Int) + 1))) :
    ∀ (d i : Nat), m.length - i = d → i ≤ m.length → Ev (fun k => biremelaw02_TokenParts.l0 k (ba A) l (mvUpto ((A.length : Int) + 1) i m) n 0 (i : Int)) true := by
  intro d
  induction d with
  | zero =>
    intro i hd hi
    have hi2 : i = m.length := by omega
    subst hi2
    have hS := Same_self n true (by rw [hsame, List.length_append, List.length_map]; omega)
    refine Ev.one (Ev.congr (g := fun k => biremelaw02_TokenParts.l0 (k + 1) (ba A) l (mvUpto ((A.length : Int) + 1) m.length m) n 0 (m.length : Int)) (fun k => ?_) (Ev.bind (f := fun k t => if t = true then ((biremelaw02_alive.f k).bind fun t => (some t)) else (some false)) hS ?_))
    · simp only [biremelaw02_TokenParts.l0]
      rw [mvUpto_len, if_neg (by omega), if_pos True.intro, if_pos (by omega), mvUpto_all, ← hsame]
    · refine Ev.congr (fun k => ?_) (Ev.bind (f := fun _ t => some t) alive_ev (Ev.now _))
      rw [if_pos rfl]
  | succ d ih =>
    intro i hd hi
    have hlt : i < m.length := by omega
    have hx := hb m[i] (List.getElem_mem hlt)
    refine Ev.one (Ev.congr (fun k => ?_) (ih (i + 1) (by omega) (by omega)))
    simp only [biremelaw02_TokenParts.l0]
    rw [mvUpto_len, if_pos (by omega), if_pos (by omega), mvUpto_get _ m hlt, Int.toNat_natCast, ba_size, w64 (n := (A.length : Int) + 1) (by omega) (by omega), w64 (n := m[i].f2 + ((A.length : Int) + 1)) (by omega) (by omega), w64 (n := (i : Int) + 1) (by omega) (by omega)]
    rw [← mvUpto_set _ m hlt]
    rfl
theorem alive_end : Ev (fun k => (biremelaw02_alive.f k).bind fun t => some t) true := Ev.bind (f := fun _ t => some t) alive_ev (Ev.now _)
theorem TokenParts : biremelaw02_TokenParts.Pure := by
  intro a0 a1 _ _
  obtain ⟨u, rfl⟩ := ba_surj a0
  obtain ⟨v, rfl⟩ := ba_surj a1
  refine Ev.rounds ?_
  have hA := List.length_take_le 20001 u
  have hB := List.length_take_le 20001 v
  generalize hAe : u.take 20001 = A at *
  generalize hBe : v.take 20001 = C at *
  have hw : wrap64 (((ba A).size : Int) + ((ba C).size : Int)) = (A.length : Int) + (C.length : Int) := by rw [ba_size, ba_size, w64 (by omega) (by omega)]
  by_cases hbig : (A.length : Int) + (C.length : Int) ≥ 20000
  · refine Ev.congr (fun k => ?_) alive_end
    unfold biremelaw02_TokenParts.f
    rw [Short_f, hAe, Option.bind_some, Short_f, hBe, Option.bind_some, hw, if_pos hbig]
  · have hnl : (⟨#[10]⟩ : ByteArray) = ba [10] := rfl
    have hcat : (ba A ++ (⟨#[10]⟩ : ByteArray)) ++ ba C = ba (A ++ 10 :: C) := by rw [hnl, ba_append, ba_append, List.append_assoc]; rfl
    have hlen : (A ++ 10 :: C).length = A.length + C.length + 1 := by simp; omega
    have hstart : ∀ k, biremelaw02_TokenParts.f k (ba u) (ba v) = (if (lexR A).2.2 = 0 then (biremelaw02_TokenParts.j0 k (ba A) (lexR A).1 (lexR A).2.2 (lexR C).1 (lexR (A ++ 10 :: C)).1 (lexR (A ++ 10 :: C)).2.1 (lexR (A ++ 10 :: C)).2.2 ((lexR C).2.2 != 0)) else (biremelaw02_TokenParts.j0 k (ba A) (lexR A).1 (lexR A).2.2 (lexR C).1 (lexR (A ++ 10 :: C)).1 (lexR (A ++ 10 :: C)).2.1 (lexR (A ++ 10 :: C)).2.2 true)) := by
      intro k
      unfold biremelaw02_TokenParts.f
      rw [Short_f, hAe, Option.bind_some, Short_f, hBe, Option.bind_some, hw, if_neg hbig, Lex_f, Option.bind_some, Lex_f, Option.bind_some, if_pos (by rw [ba_size]; omega), if_pos (by rw [hnl, ba_append, ba_size, ba_size]; simp; omega), hcat, Lex_f, Option.bind_some]
    have hp := Tk.scan_parts C A 0
    have hsh := Tk.scan_shift (A.length + 1) C 0
    rw [Nat.zero_add] at hp hsh
    rw [hsh] at hp
    have rA : lexR A = match (Tk.scan A 0).2 with | none => ((Tk.scan A 0).1.map toS, 0, 0) | some e => ([], (e : Int), 4) := if_neg (by omega)
    have rC : lexR C = match (Tk.scan C 0).2 with | none => ((Tk.scan C 0).1.map toS, 0, 0) | some e => ([], (e : Int), 4) := if_neg (by omega)
    have rN : lexR (A ++ 10 :: C) = match (Tk.scan (A ++ 10 :: C) 0).2 with | none => ((Tk.scan (A ++ 10 :: C) 0).1.map toS, 0, 0) | some e => ([], (e : Int), 4) := if_neg (by omega)
    have lA := lexR_len A
    have lC := lexR_len C
    refine Ev.congr (fun k => hstart k) ?_
    cases hAs : (Tk.scan A 0).2 with
    | some e =>
      rw [hAs] at hp rA
      rw [hp] at rN
      dsimp only at rA rN hp
      rw [rA, rN]
      dsimp only
      refine Ev.congr (fun k => by rw [if_neg (by decide)]) ?_
      refine Ev.one (Ev.congr (fun k => ?_) alive_end)
      simp only [biremelaw02_TokenParts.j0]
      rw [if_pos True.intro, if_pos True.intro, if_neg (by decide)]
    | none =>
      rw [hAs] at hp rA
      dsimp only at rA hp
      rw [rA] at lA ⊢
      dsimp only at lA ⊢
      refine Ev.congr (fun k => by rw [if_pos rfl]) ?_
      cases hCs : (Tk.scan C 0).2 with
      | some e =>
        rw [hCs] at hp rC
        rw [hp] at rN
        dsimp only [Option.map] at rC rN
        rw [rC, rN]
        dsimp only
        refine Ev.one (Ev.congr (fun k => ?_) alive_end)
        simp only [biremelaw02_TokenParts.j0]
        rw [if_pos (by decide), if_pos True.intro, if_pos True.intro, if_pos (by rw [ba_size]; omega)]
      | none =>
        rw [hCs] at hp rC
        rw [hp] at rN
        dsimp only [Option.map] at rC rN
        rw [rC] at lC ⊢
        rw [rN]
        dsimp only at lC ⊢
        have hb : ∀ x ∈ (Tk.scan C 0).1.map toS, 0 ≤ x.f2 ∧ x.f2 ≤ 20000 := fun x hx => by
          have := toS_bounds hx
          omega
        have hl := Parts_l0 A (by omega) ((Tk.scan A 0).1.map toS) ((Tk.scan C 0).1.map toS) (((Tk.scan A 0).1 ++ (Tk.scan C 0).1.map (Tk.shift (A.length + 1))).map toS) lC hb lA (by rw [List.map_append, toS_shift]; simp) _ 0 rfl (Nat.zero_le _)
        rw [mvUpto_zero] at hl
        refine Ev.one (Ev.congr (fun k => ?_) hl)
        simp only [biremelaw02_TokenParts.j0]
        rw [if_neg (by decide)]
        rfl
end Go.Proofs.Ytpccakfbmbkmlaa.Pure
