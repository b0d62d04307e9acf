/- The tokens stand where they say, with nothing but blanks and remarks between: the law TokenStands, as plain mathematics. -/
import Derived.Test.YtpccakfbmbkmlaaLStands
import Derived.Test.YtpccakfbmbkmlaaP5
import Derived.Test.YtpccakfbmbkmlaaM4
namespace Go.Proofs.Ytpccakfbmbkmlaa.Tk
theorem skip_gap {l : B} (h : skip l ≠ []) : skip (l.take (l.length - (skip l).length)) = [] := by
  have := skip_pre [] l h
  rw [List.append_nil] at this
  exact this
/-- Tokens that stand in a text, from an offset on. -/
def Stands (L : B) : Nat → List Tok → Prop
  | e, [] => e ≤ L.length ∧ skip (L.drop e) = []
  | e, t :: ts => e ≤ t.a ∧ t.a + t.t.length ≤ L.length ∧ 0 < t.t.length ∧ (L.take (t.a + t.t.length)).drop t.a = t.t ∧ skip ((L.take t.a).drop e) = [] ∧ Stands L (t.a + t.t.length) ts
theorem scan_stands (L : B) (l : B) (a : Nat) : a ≤ L.length → l = L.drop a → (scan l a).2 = none → Stands L a (scan l a).1 := by
  induction l, a using scan_ind with
  | h0 l a h => intro h1 h2 h3; rw [scan_nil h]; exact ⟨h1, by rw [← h2]; exact h⟩
  | h1 l a h h2 => intro _ _ h3; rw [scan_bad h h2] at h3; cases h3
  | h2 l a h h2 ih =>
    intro h1 hl h3
    have hle := skip_le l
    have hnl := next_le (skip l)
    have hsd := skip_drop l
    have hlen : l.length = L.length - a := by rw [hl, List.length_drop]
    have hgap := skip_gap h
    rw [scan_tok h h2] at h3 ⊢
    generalize hb : l.length - (skip l).length = b at *
    generalize hn : (next (skip l)).2 = n at *
    have ht : ((skip l).take n).length = n := by rw [List.length_take]; omega
    have e1 : skip l = L.drop (a + b) := by rw [hsd, hl, List.drop_drop]
    refine ⟨Nat.le_add_right _ _, ?_, ?_, ?_, ?_, ?_⟩
    · show a + b + ((skip l).take n).length ≤ L.length
      rw [ht]; omega
    · show 0 < ((skip l).take n).length
      rw [ht]; omega
    · show (L.take (a + b + ((skip l).take n).length)).drop (a + b) = (skip l).take n
      rw [ht, List.drop_take, ← e1]
      congr 1; omega
    · show skip ((L.take (a + b)).drop a) = []
      rw [List.drop_take, ← hl, show a + b - a = b by omega]; exact hgap
    · show Stands L (a + b + ((skip l).take n).length) _
      rw [ht]
      refine ih (by omega) ?_ h3
      rw [e1, List.drop_drop]
end Go.Proofs.Ytpccakfbmbkmlaa.Tk
namespace Go.Proofs.Ytpccakfbmbkmlaa.Pure
open Go.RowKit Go.Proofs.Ytpccakfbmbkmlaa.PAll Go.Proofs.YtpccakfbmbkmlaaW.PrintWords Go.Proofs.YtpccakfbmbkmlaaW.PrintLast
open Tk (B)
theorem stands_end : Ev (fun k => (biremelaw02_alive.f k).bind fun t => some t) true := Ev.bind (f := fun _ t => some t) alive_ev (Ev.now _)
theorem gap_ev (x : B) (hx : x.length < 4611686018427387904) (h : Tk.skip x = []) : Ev (fun k => biremelaw02_gap.f k (ba x)) true := by
  have h1 := Skip_ev x hx (i := 0) (Nat.zero_le _)
  rw [List.drop_zero, h] at h1
  refine Ev.congr (fun k => by unfold biremelaw02_gap.f; rfl) (Ev.bind (f := fun _ t => some (t == ((ba x).size : Int))) h1 ?_)
  have : ((((x.length - ([] : B).length : Nat) : Int)) == ((ba x).size : Int)) = true := by rw [ba_size, List.length_nil, Nat.sub_zero]; simp
  rw [this]; exact Ev.now _
theorem Stands_l0 (L : B) (hL : L.length ≤ 20001) (z : Int) (hz : z = 0) : ∀ (ts : List Tk.Tok) (pre : List S31) (e : Nat), Tk.Stands L e ts → pre.length + ts.length < 1000000 →
    Ev (fun k => biremelaw02_TokenStands.l0 k (ba L) (pre ++ ts.map toS) z (e : Int) (pre.length : Int)) true := by
  intro ts
  induction ts with
  | nil =>
    intro pre e hs _
    obtain ⟨h1, h2⟩ := hs
    refine Ev.one (Ev.congr (fun k => ?_) (Ev.bind (f := fun k t => if t = true then ((biremelaw02_alive.f k).bind fun t => some t) else some false) (gap_ev (L.drop e) (by rw [List.length_drop]; omega) h2) ?_))
    · simp only [biremelaw02_TokenStands.l0]
      rw [List.map_nil, List.append_nil, if_neg (by omega), if_pos (by omega), ba_size, if_pos (by omega), if_pos hz, ← ba_size, ba_from']
    · exact Ev.congr (fun k => if_pos rfl) stands_end
  | cons t ts ih =>
    intro pre e hs hlen
    obtain ⟨h1, h2, h3, h4, h5, h6⟩ := hs
    have hl : (pre ++ (t :: ts).map toS).length = pre.length + ts.length + 1 := by simp; omega
    have hrd : rd_T31 (pre ++ (t :: ts).map toS) (pre.length : Int) = toS t := by
      rw [rd_get _ (by omega)]; simp
    have hih := ih (pre ++ [toS t]) (t.a + t.t.length) h6 (by simp at hlen ⊢; omega)
    refine Ev.one (Ev.congr (fun k => ?_) (Ev.bind (f := fun k b => if b = true then biremelaw02_TokenStands.l0 k (ba L) (pre ++ [toS t] ++ ts.map toS) z ((t.a + t.t.length : Nat) : Int) ((pre ++ [toS t]).length : Int) else some false) (gap_ev ((L.take t.a).drop e) (by rw [List.length_drop, List.length_take]; omega) h5) ?_))
    · simp only [biremelaw02_TokenStands.l0]
      have f1 : (toS t).f1 = ba t.t := rfl
      have f2 : (toS t).f2 = (t.a : Int) := rfl
      have hx : ((t.a : Int) + (t.t.length : Int)) = ((t.a + t.t.length : Nat) : Int) := by omega
      have hpre : pre ++ (t :: ts).map toS = pre ++ [toS t] ++ ts.map toS := by simp
      rw [hl, if_pos (by omega), if_pos (by omega), hrd, f1, f2, ba_size, ba_size, w64 (n := (t.a : Int) + (t.t.length : Int)) (by omega) (by omega), w64 (n := (pre.length : Int) + 1) (by omega) (by omega), hx,
        if_neg (by omega), if_neg (by omega), if_neg (by omega), if_pos (by omega), if_pos (by omega), if_pos (by omega), ba_extract, ba_extract, Int.toNat_natCast, Int.toNat_natCast, Int.toNat_natCast, h4, if_pos rfl, if_pos (by omega), if_pos (by omega), if_pos (by omega), hpre]
      have hlen2 : ((pre ++ [toS t]).length : Int) = (pre.length : Int) + 1 := by simp
      rw [hlen2]
    · exact Ev.congr (fun k => if_pos rfl) hih
theorem TokenStands : biremelaw02_TokenStands.Pure := by
  intro a0 _
  obtain ⟨u, rfl⟩ := ba_surj a0
  refine Ev.rounds ?_
  have hA := List.length_take_le 20001 u
  generalize hAe : u.take 20001 = A at *
  have hstart : ∀ k, biremelaw02_TokenStands.f k (ba u) = (if (lexR A).2.2 = 0 then (biremelaw02_TokenStands.l0 k (ba A) (lexR A).1 (lexR A).2.1 0 0) else (if ((lexR A).1.length : Int) = 0 then (if (lexR A).2.2 = 3 then (if (lexR A).2.1 = 0 then ((biremelaw02_alive.f k).bind fun t185 => (some t185)) else (if (lexR A).2.2 = 4 then (if (lexR A).2.1 ≥ 0 then (if (lexR A).2.1 < ((ba A).size : Int) then ((biremelaw02_alive.f k).bind fun t186 => (some t186)) else (some false)) else (some false)) else (some false))) else (if (lexR A).2.2 = 4 then (if (lexR A).2.1 ≥ 0 then (if (lexR A).2.1 < ((ba A).size : Int) then ((biremelaw02_alive.f k).bind fun t187 => (some t187)) else (some false)) else (some false)) else (some false))) else (some false))) := by
    intro k
    unfold biremelaw02_TokenStands.f
    rw [Short_f, hAe, Option.bind_some, Lex_f, Option.bind_some]
  refine Ev.congr hstart ?_
  by_cases hbig : 20000 < A.length
  · have rA : lexR A = ([], 0, 3) := if_pos hbig
    rw [rA]
    exact Ev.congr (fun k => rfl) stands_end
  · have rA : lexR A = match (Tk.scan A 0).2 with | none => ((Tk.scan A 0).1.map toS, 0, 0) | some e => ([], (e : Int), 4) := if_neg hbig
    cases hAs : (Tk.scan A 0).2 with
    | some e =>
      rw [hAs] at rA
      have he := (Tk.scan_bounds A 0).2 e hAs
      rw [rA]
      refine Ev.congr (fun k => ?_) stands_end
      have he2 : e < A.length := by omega
      simp [ba_size, he2]
    | none =>
      rw [hAs] at rA
      have hs := Tk.scan_stands A A 0 (Nat.zero_le _) rfl hAs
      have hl := lexR_len A
      rw [rA] at hl ⊢
      dsimp only at hl ⊢
      rw [List.length_map] at hl
      exact Ev.congr (fun k => if_pos rfl) (Stands_l0 A hA 0 rfl (Tk.scan A 0).1 [] 0 hs (by simp; omega))
end Go.Proofs.Ytpccakfbmbkmlaa.Pure
