/- Lex is the reference's Lex: the law TokenLexes, as plain mathematics. -/
import Derived.Test.YtpccakfbmbkmlaaLLexes
import Derived.Test.YtpccakfbmbkmlaaP4
namespace Go.Proofs.Ytpccakfbmbkmlaa.Pure
open Go.RowKit Go.Proofs.Ytpccakfbmbkmlaa.PAll Go.Proofs.YtpccakfbmbkmlaaW.PrintWords Go.Proofs.YtpccakfbmbkmlaaW.PrintLast
theorem lexR_len (l : Tk.B) : (lexR l).1.length < 1000000 := by
  unfold lexR
  by_cases h : 20000 < l.length
  · rw [if_pos h]; decide
  · rw [if_neg h]
    cases he : (Tk.scan l 0).2 with
    | none =>
      have := seqOf_len l 0
      rw [seqOf_none he] at this
      show ((Tk.scan l 0).1.map toS).length < 1000000
      omega
    | some e => show (0 : Nat) < 1000000; decide
theorem TokenLexes : biremelaw02_TokenLexes.Pure := by
  intro a0 _
  obtain ⟨l, rfl⟩ := ba_surj a0
  refine Ev.rounds ?_
  have hS := Same_self (lexR (l.take 20001)).1 true (lexR_len _)
  refine Ev.congr (g := fun k => biremelaw02_TokenLexes.f k (ba l)) (fun k => ?_) (Ev.bind (f := fun k m => (biremeref02_Same.f k (lexR (l.take 20001)).1 m.1 true).bind fun t => if t = true then (if (lexR (l.take 20001)).2.1 = m.2.1 then (if (lexR (l.take 20001)).2.2 = m.2.2 then ((biremelaw02_alive.f k).bind fun t => (some t)) else (some false)) else (some false)) else (some false)) (rLex_ev (l.take 20001)) ?_)
  · unfold biremelaw02_TokenLexes.f
    rw [Short_f, Option.bind_some, Lex_f, Option.bind_some]
  · refine Ev.bind (f := fun k t => if t = true then (if (lexR (l.take 20001)).2.1 = (lexR (l.take 20001)).2.1 then (if (lexR (l.take 20001)).2.2 = (lexR (l.take 20001)).2.2 then ((biremelaw02_alive.f k).bind fun t => (some t)) else (some false)) else (some false)) else (some false)) hS ?_
    refine Ev.congr (fun k => ?_) (Ev.bind (f := fun _ t => some t) alive_ev (Ev.now _))
    rw [if_pos rfl, if_pos rfl, if_pos rfl]
end Go.Proofs.Ytpccakfbmbkmlaa.Pure
