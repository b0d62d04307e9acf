/- Both sides' Join agree: the law TokenJoins, as plain mathematics. -/
import Derived.Test.YtpccakfbmbkmlaaLJoins
import Derived.Test.YtpccakfbmbkmlaaP7
namespace Go.Proofs.Ytpccakfbmbkmlaa.Pure
open Go.RowKit Go.Proofs.Ytpccakfbmbkmlaa.PAll Go.Proofs.YtpccakfbmbkmlaaW.PrintWords Go.Proofs.YtpccakfbmbkmlaaW.PrintLast
open Tk (B)
theorem joins_end : Ev (fun k => (biremelaw02_alive.f k).bind fun t => some t) true := Ev.bind (f := fun _ t => some t) alive_ev (Ev.now _)
theorem str_size (xs : List Int) : (strOfNums xs).size = xs.length := by simp [strOfNums, ByteArray.size]
theorem empty_list : (⟨#[]⟩ : ByteArray).toList = ([] : List UInt8) := by rw [ByteArray.toList_eq]
theorem Joins_l0 (xs : List S31) (hn : xs.length ≤ 20001) (hs : ∀ t ∈ xs, t.f1.size ≤ 20001) : ∀ (ts pre : List S31), xs = pre ++ ts → pre.all sgT = true →
    Ev (fun k => biremelaw02_TokenJoins.l0 k xs (joinR [] none xs).1 (joinR [] none xs).2 (pre.length : Int)) true := by
  intro ts
  induction ts with
  | nil =>
    intro pre hx hpre
    rw [List.append_nil] at hx
    subst hx
    have hJ := rJoin_ev xs hn hs (fun t ht => List.all_eq_true.mp hpre t ht)
    have hsz := str_size (joinT none xs)
    have hR : joinR [] none xs = if ((joinT none xs).length : Int) > 20000 then (⟨#[]⟩, 3) else (strOfNums (joinT none xs), 0) := by
      unfold joinR; rw [if_pos hpre, List.nil_append]
    rw [hR]
    refine Ev.one (Ev.congr (fun k => ?_) (Ev.bind (f := fun k (t359 : ByteArray) => (if (t359.size : Int) > 20000 then (if ((if ((joinT none xs).length : Int) > 20000 then ((⟨#[]⟩ : ByteArray), (3 : Int)) else (strOfNums (joinT none xs), 0)).1).toList = ([] : List UInt8) then (if (if ((joinT none xs).length : Int) > 20000 then ((⟨#[]⟩ : ByteArray), (3 : Int)) else (strOfNums (joinT none xs), 0)).2 = 3 then ((biremelaw02_alive.f k).bind fun t360 => (some t360)) else (some false)) else (some false)) else (if ((if ((joinT none xs).length : Int) > 20000 then ((⟨#[]⟩ : ByteArray), (3 : Int)) else (strOfNums (joinT none xs), 0)).1).toList = t359.toList then (if (if ((joinT none xs).length : Int) > 20000 then ((⟨#[]⟩ : ByteArray), (3 : Int)) else (strOfNums (joinT none xs), 0)).2 = 0 then ((biremelaw02_alive.f k).bind fun t361 => (some t361)) else (some false)) else (some false)))) hJ ?_))
    · simp only [biremelaw02_TokenJoins.l0]
      rw [if_neg (by omega)]
    · rw [hsz]
      by_cases hb : ((joinT none xs).length : Int) > 20000
      · refine Ev.congr (fun k => ?_) joins_end
        simp only [if_pos hb]
        rw [if_pos empty_list, if_pos trivial]
      · refine Ev.congr (fun k => ?_) joins_end
        simp only [if_neg hb]
        rw [if_pos trivial, if_pos trivial]
  | cons t ts ih =>
    intro pre hx hpre
    have hlen : xs.length = pre.length + ts.length + 1 := by rw [hx]; simp; omega
    have ht : t ∈ xs := by rw [hx]; simp
    have hrd : rd_T31 xs (pre.length : Int) = t := by rw [hx]; exact get_next _ _ _
    have h1 := rToken_T t (hs t ht)
    refine Ev.one (Ev.congr (fun k => ?_) (Ev.bind (f := fun k t357 => (if t357 = true then (biremelaw02_TokenJoins.l0 k xs (joinR [] none xs).1 (joinR [] none xs).2 (wrap64 ((pre.length : Int) + 1))) else (if (joinR [] none xs).1.toList = ([] : List UInt8) then (if (joinR [] none xs).2 = 4 then ((biremelaw02_alive.f k).bind fun t358 => (some t358)) else (some false)) else (some false)))) h1 ?_))
    · simp only [biremelaw02_TokenJoins.l0]
      rw [if_pos (by omega), if_pos (by omega), hrd]
    · cases hsg : sgT t with
      | true =>
        have hw : wrap64 ((pre.length : Int) + 1) = ((pre ++ [t]).length : Int) := by rw [w64 (by omega) (by omega)]; simp
        refine Ev.congr (fun k => ?_) (ih (pre ++ [t]) (by rw [hx]; simp) (by rw [List.all_append, hpre]; simp [hsg]))
        rw [if_pos rfl, hw]
      | false =>
        have hall : ¬ xs.all sgT = true := fun e => by
          have := List.all_eq_true.mp e t ht
          rw [hsg] at this; cases this
        have hR : joinR [] none xs = (⟨#[]⟩, 4) := by unfold joinR; rw [if_neg hall]
        refine Ev.congr (fun k => ?_) joins_end
        rw [hR, if_neg (by decide)]
        dsimp only
        rw [if_pos empty_list, if_pos rfl]
theorem TokenJoins (ys : List S31) : ∃ k, biremelaw02_TokenJoins.f k ys = some true := by
  refine Ev.rounds ?_
  obtain ⟨xs, hL, hn, hs⟩ := list_ev ys
  have hJ := Join_ev xs hn hs
  refine Ev.congr (fun k => ?_) (Ev.bind (f := fun k t345 => ((some (([] : List (S31)) : List (S31))).bind fun y348 => (if y348.length + t345.length < 4398046511104 then ((token_Join.f k (y348 ++ t345)).bind fun bt354 => (biremelaw02_TokenJoins.l0 k t345 bt354.1 bt354.2 0)) else (none)))) hL ?_)
  · unfold biremelaw02_TokenJoins.f
    rfl
  · refine Ev.congr (fun k => ?_) (Ev.bind (f := fun k (bt354 : ByteArray × Int) => (biremelaw02_TokenJoins.l0 k xs bt354.1 bt354.2 0)) hJ (Joins_l0 xs hn hs xs [] rfl rfl))
    rw [Option.bind_some, List.nil_append, List.length_nil, if_pos (by omega)]
end Go.Proofs.Ytpccakfbmbkmlaa.Pure
