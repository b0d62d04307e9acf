/- Lists of tokens whose offsets a loop moves, and lengths. -/
import Derived.Test.YtpccakfbmbkmlaaP4
import Derived.Test.YtpccakfbmbkmlaaM3
namespace Go.Proofs.Ytpccakfbmbkmlaa.PAll
open Go.RowKit Go.Proofs.YtpccakfbmbkmlaaW.PrintWords Go.Proofs.YtpccakfbmbkmlaaW.PrintLast Go.Proofs.YtpccakfbmbkmlaaW.PrintMore
set_option linter.unusedVariables false
set_option linter.unusedSimpArgs false
open Tk (B)
theorem lexR_len (l : Tk.B) : (lexR l).1.length < 500000 := by
  unfold lexR
  by_cases h : 20000 < l.length
  · rw [if_pos h]; decide
  · rw [if_neg h]
    cases he : (Tk.scan l 0).2 with
    | none =>
      have := seqOf_len l 0
      rw [seqOf_none he] at this
      show ((Tk.scan l 0).1.map toS).length < 500000
      omega
    | some e => show (0 : Nat) < 500000; decide
/-- A token with its offset moved. -/
def mv (d : Int) (t : S31) : S31 := ⟨t.f0, t.f1, t.f2 + d⟩
/-- The first i tokens moved. -/
def mvUpto (d : Int) (i : Nat) (xs : List S31) : List S31 := (xs.take i).map (mv d) ++ xs.drop i
theorem mvUpto_len (d : Int) (i : Nat) (xs : List S31) : (mvUpto d i xs).length = xs.length := by
  unfold mvUpto; rw [List.length_append, List.length_map, List.length_take, List.length_drop]; omega
theorem mvUpto_get (d : Int) {i : Nat} (xs : List S31) (h : i < xs.length) : rd_T31 (mvUpto d i xs) (i : Int) = xs[i] := by
  unfold rd_T31 mvUpto
  rw [Int.toNat_natCast, List.getD_eq_getElem?_getD, List.getElem?_append_right (by rw [List.length_map, List.length_take]; omega), List.length_map, List.length_take, Nat.min_eq_left (by omega), Nat.sub_self,
    List.drop_eq_getElem_cons h]
  rfl
theorem mvUpto_set (d : Int) {i : Nat} (xs : List S31) (h : i < xs.length) : (mvUpto d i xs).set i (mv d xs[i]) = mvUpto d (i + 1) xs := by
  unfold mvUpto
  have hlt : ((xs.take i).map (mv d)).length = i := by rw [List.length_map, List.length_take]; omega
  rw [List.set_append_right _ _ (by omega), hlt, Nat.sub_self, List.drop_eq_getElem_cons h, List.set_cons_zero, List.take_succ_eq_append_getElem h, List.map_append]
  simp
theorem mvUpto_zero (d : Int) (xs : List S31) : mvUpto d 0 xs = xs := by simp [mvUpto]
theorem mvUpto_all (d : Int) (xs : List S31) : mvUpto d xs.length xs = xs.map (mv d) := by simp [mvUpto]
theorem toS_shift (d : Nat) (ts : List Tk.Tok) : (ts.map (Tk.shift d)).map toS = (ts.map toS).map (mv (d : Int)) := by
  rw [List.map_map, List.map_map]
  apply List.map_congr_left
  intro t _
  simp [toS, mv, Tk.shift]
/-- Offsets of a text's tokens. -/
theorem toS_bounds {l : B} {x : S31} (h : x ∈ (Tk.scan l 0).1.map toS) : 0 ≤ x.f2 ∧ x.f2 ≤ (l.length : Int) ∧ (x.f1.size : Int) ≤ l.length := by
  rw [List.mem_map] at h
  obtain ⟨t, ht, rfl⟩ := h
  have := (Tk.scan_bounds l 0).1 t ht
  refine ⟨by show (0 : Int) ≤ (t.a : Int); omega, by show (t.a : Int) ≤ _; omega, by show ((ba t.t).size : Int) ≤ _; rw [ba_size]; omega⟩
end Go.Proofs.Ytpccakfbmbkmlaa.PAll
