/- Names, values and the tables of words and signs: the law TokenNames, as plain mathematics. -/
import Derived.Test.YtpccakfbmbkmlaaLNames
import Derived.Test.YtpccakfbmbkmlaaP6
namespace Go.Proofs.Ytpccakfbmbkmlaa.Pure
open Go.RowKit Go.Proofs.Ytpccakfbmbkmlaa.PAll Go.Proofs.YtpccakfbmbkmlaaW.PrintWords Go.Proofs.YtpccakfbmbkmlaaW.PrintLast
open Tk (B)
theorem names_end : Ev (fun k => (biremelaw02_alive.f k).bind fun t => some t) true := Ev.bind (f := fun _ t => some t) alive_ev (Ev.now _)
theorem Names_j0 (l : B) (hl : l.length < 4611686018427387904) (n z : Int) : ∃ p : Int × Int, Ev (fun k => token_Value.f k n (ba l) z) p ∧ Ev (fun k => biremelaw02_TokenNames.j0 k p.1 p.2 false n (ba l) z) true := by
  have hN := Number_ev l hl n z
  have hV := Value_both l hl n z
  cases hb : (decide (n = 3) && Tk.sg l 3) with
  | false =>
    rw [hb] at hN hV
    rw [if_neg (by decide)] at hV
    refine ⟨_, hV, Ev.one (Ev.congr (fun k => ?_) (Ev.bind (f := fun k t => if t = true then ((biremeref02_Value.f k (ba l)).bind fun bt303 => (if bt303.2 = true then (if (0 : Int) = bt303.1 then (if (2 : Int) = 0 then ((biremelaw02_alive.f k).bind fun t305 => (some t305)) else (some false)) else (some false)) else (if (0 : Int) = 0 then (if (2 : Int) = 3 then ((biremelaw02_alive.f k).bind fun t306 => (some t306)) else (some false)) else (some false)))) else (if (0 : Int) = 0 then (if (2 : Int) = 2 then ((biremelaw02_alive.f k).bind fun t302 => (some t302)) else (some false)) else (some false))) hN ?_))⟩
    · simp only [biremelaw02_TokenNames.j0]
      rw [if_neg (by decide)]
    · refine Ev.congr (fun k => ?_) names_end
      rw [if_neg (by decide), if_pos rfl, if_pos rfl]
  | true =>
    rw [hb] at hN hV
    rw [if_pos rfl] at hV
    obtain ⟨v, ok, e1, e2⟩ := hV
    refine ⟨_, e1, Ev.one (Ev.congr (fun k => ?_) (Ev.bind (f := fun k t => if t = true then ((biremeref02_Value.f k (ba l)).bind fun bt303 => (if bt303.2 = true then (if (if ok = true then (v, (0 : Int)) else ((0 : Int), (3 : Int))).1 = bt303.1 then (if (if ok = true then (v, (0 : Int)) else ((0 : Int), (3 : Int))).2 = 0 then ((biremelaw02_alive.f k).bind fun t305 => (some t305)) else (some false)) else (some false)) else (if (if ok = true then (v, (0 : Int)) else ((0 : Int), (3 : Int))).1 = 0 then (if (if ok = true then (v, (0 : Int)) else ((0 : Int), (3 : Int))).2 = 3 then ((biremelaw02_alive.f k).bind fun t306 => (some t306)) else (some false)) else (some false)))) else (if (if ok = true then (v, (0 : Int)) else ((0 : Int), (3 : Int))).1 = 0 then (if (if ok = true then (v, (0 : Int)) else ((0 : Int), (3 : Int))).2 = 2 then ((biremelaw02_alive.f k).bind fun t302 => (some t302)) else (some false)) else (some false))) hN ?_))⟩
    · simp only [biremelaw02_TokenNames.j0]
      rw [if_neg (by decide)]
    · refine Ev.congr (fun k => if_pos rfl) (Ev.bind (f := fun k (bt303 : Int × Bool) => (if bt303.2 = true then (if (if ok = true then (v, (0 : Int)) else ((0 : Int), (3 : Int))).1 = bt303.1 then (if (if ok = true then (v, (0 : Int)) else ((0 : Int), (3 : Int))).2 = 0 then ((biremelaw02_alive.f k).bind fun t305 => (some t305)) else (some false)) else (some false)) else (if (if ok = true then (v, (0 : Int)) else ((0 : Int), (3 : Int))).1 = 0 then (if (if ok = true then (v, (0 : Int)) else ((0 : Int), (3 : Int))).2 = 3 then ((biremelaw02_alive.f k).bind fun t306 => (some t306)) else (some false)) else (some false)))) e2 ?_)
      refine Ev.congr (fun k => ?_) names_end
      cases ok <;> simp
theorem TokenNames (a0 : ByteArray) (n : Int) (a1 : ByteArray) (z : Int) : ∃ k, biremelaw02_TokenNames.f k a0 n a1 z = some true := by
  obtain ⟨u, rfl⟩ := ba_surj a0
  obtain ⟨v, rfl⟩ := ba_surj a1
  refine Ev.rounds ?_
  have hA := List.length_take_le 20001 v
  generalize hAe : v.take 20001 = A at *
  obtain ⟨p, e1, e2⟩ := Names_j0 A (by omega) n z
  have e3 := isName_ev u
  have e4 := rIsName_ev u
  generalize (decide (u.length ≤ 40) && Tk.sg u 1) = b at *
  have e5 := texts_ev Tk.wordL (by decide)
  have e6 := texts_ev Tk.signL (by decide)
  refine Ev.congr (fun k => ?_) (Ev.bind (f := fun k (bt283 : Int × Int) => ((token_IsName.f k (ba u)).bind fun t285 => ((biremeref02_IsName.f k (ba u)).bind fun t286 => (if (t285 != t286) = true then (biremelaw02_TokenNames.j0 k bt283.1 bt283.2 true n (ba A) z) else ((biremelaw02_texts.f k (Tk.wordL.map ba) (Tk.wordL.map ba)).bind fun t293 => (if t293 = true then ((biremelaw02_texts.f k (Tk.signL.map ba) (Tk.signL.map ba)).bind fun t300 => (biremelaw02_TokenNames.j0 k bt283.1 bt283.2 (!t300) n (ba A) z)) else (biremelaw02_TokenNames.j0 k bt283.1 bt283.2 true n (ba A) z))))))) e1 ?_)
  · unfold biremelaw02_TokenNames.f
    rw [Short_f, hAe, Option.bind_some]
    simp only [words_f, rWords_f, signs_f, rSigns_f, Option.bind_some]
  · refine Ev.bind (f := fun k t285 => ((biremeref02_IsName.f k (ba u)).bind fun t286 => (if (t285 != t286) = true then (biremelaw02_TokenNames.j0 k p.1 p.2 true n (ba A) z) else ((biremelaw02_texts.f k (Tk.wordL.map ba) (Tk.wordL.map ba)).bind fun t293 => (if t293 = true then ((biremelaw02_texts.f k (Tk.signL.map ba) (Tk.signL.map ba)).bind fun t300 => (biremelaw02_TokenNames.j0 k p.1 p.2 (!t300) n (ba A) z)) else (biremelaw02_TokenNames.j0 k p.1 p.2 true n (ba A) z)))))) e3 ?_
    refine Ev.bind (f := fun k t286 => (if (b != t286) = true then (biremelaw02_TokenNames.j0 k p.1 p.2 true n (ba A) z) else ((biremelaw02_texts.f k (Tk.wordL.map ba) (Tk.wordL.map ba)).bind fun t293 => (if t293 = true then ((biremelaw02_texts.f k (Tk.signL.map ba) (Tk.signL.map ba)).bind fun t300 => (biremelaw02_TokenNames.j0 k p.1 p.2 (!t300) n (ba A) z)) else (biremelaw02_TokenNames.j0 k p.1 p.2 true n (ba A) z))))) e4 ?_
    have hbb : ¬ ((b != b) = true) := by simp
    refine Ev.congr (fun k => if_neg hbb) ?_
    refine Ev.bind (f := fun k t293 => (if t293 = true then ((biremelaw02_texts.f k (Tk.signL.map ba) (Tk.signL.map ba)).bind fun t300 => (biremelaw02_TokenNames.j0 k p.1 p.2 (!t300) n (ba A) z)) else (biremelaw02_TokenNames.j0 k p.1 p.2 true n (ba A) z))) e5 ?_
    refine Ev.congr (fun k => if_pos rfl) ?_
    refine Ev.bind (f := fun k t300 => (biremelaw02_TokenNames.j0 k p.1 p.2 (!t300) n (ba A) z)) e6 ?_
    exact e2
end Go.Proofs.Ytpccakfbmbkmlaa.Pure
