/- A slice of tokens that reads: the tokens that lie in its row. -/
import Derived.Test.YtpccakfbmbkmlaaS1
import Derived.Carry
import Derived.DataElems
namespace Go.Proofs.Ytpccakfbmbkmlaa
open Go.ChangeShapes Go.WideShapes Go.ChangeAt Go.RowKit Go.Joins
open PAll YtpccakfbmbkmlaaW.PrintWords YtpccakfbmbkmlaaW.PrintLast YtpccakfbmbkmlaaW.PrintMore
section
variable {H : Type} {enc : TypeId × Value → H} {w : World} {base : Nat} {spare : Nat → Bool} {held : Bool}
theorem open_tok_cells {fuel : Nat} {cs : List Value} {x : DataW H × List MemPlace} (hl : cs.length = 3) (h : DataW.trod enc Try.prog w base spare held fuel 31 cs = some x) :
    ∃ t : S31, cs = [.int .i64 t.f0, .string t.f1, .int .i64 t.f2] := by
  match cs, hl with
  | [c0, c1, c2], _ =>
    obtain ⟨xs, n, _, hx, _, hlen, hfs⟩ := DataW.trod_struct Try.underlying31 h
    match xs, hlen with
    | [y0, y1, y2], _ =>
      have h0 : DataW.trod enc Try.prog w base spare held n 3 ((([c0, c1, c2] : List Value).drop 0).take (Try.prog.cellsOf 3)) = some y0 := hfs 0 _ rfl
      have h1 : DataW.trod enc Try.prog w base spare held n 9 ((([c0, c1, c2] : List Value).drop 1).take (Try.prog.cellsOf 9)) = some y1 := hfs 1 _ rfl
      have h2 : DataW.trod enc Try.prog w base spare held n 3 ((([c0, c1, c2] : List Value).drop 2).take (Try.prog.cellsOf 3)) = some y2 := hfs 2 _ rfl
      simp only [cells3, cells9] at h0 h1 h2
      obtain ⟨a0, e0, _, _⟩ := DataW.trod_int Try.underlying3 h0
      obtain ⟨a1, e1, _, _⟩ := DataW.trod_string Try.underlying9 h1
      obtain ⟨a2, e2, _, _⟩ := DataW.trod_int Try.underlying3 h2
      simp at e0 e1 e2
      subst e0 e1 e2
      exact ⟨⟨a0, a1, a2⟩, rfl⟩
theorem open_toks {fuel : Nat} {A : Option Addr} {len cap : Nat} {x : DataW H × List MemPlace} (h : DataW.trod enc Try.prog w base spare held fuel 23 [.slice A len cap] = some x) :
    ∃ xs : List S31, xs.length = len ∧ Kd.C k31 w A len xs ∧ len ≤ cap := by
  rcases DataW.trod_slice Try.underlying23 h with ⟨h0, _⟩ | ⟨a, len', cap', elems, rest, n, _, hcs, _, _, hlc, hcm, hel, hrow, _⟩
  · simp at h0
    obtain ⟨rfl, rfl, rfl⟩ := h0
    exact ⟨[], rfl, Kd.C_nil k31 w, Nat.le_refl _⟩
  · simp at hcs
    obtain ⟨rfl, rfl, rfl⟩ := hcs
    have hex : ∀ i, i < len → ∃ t : S31, ∀ (j : Nat) (u : Value), ([.int .i64 t.f0, .string t.f1, .int .i64 t.f2] : List Value)[j]? = some u → w.cell? (a.add (i * 3 + j)) = some u := by
      intro i hi
      have h1 := hrow i hi
      rw [cells31] at h1
      have hlt : i < elems.length := by omega
      rw [List.getElem?_eq_getElem hlt] at h1
      obtain ⟨cs, hcs, htr⟩ := Option.bind_eq_some_iff.mp h1
      obtain ⟨_, hl3, hcell⟩ := World.cells?_some hcs
      obtain ⟨t, rfl⟩ := open_tok_cells hl3 htr
      refine ⟨t, fun j u hj => ?_⟩
      have hj3 : j < 3 := by
        have := (List.getElem?_eq_some_iff.mp hj).1
        simpa using this
      have := hcell j hj3
      rw [hj] at this
      have ea : (a.add (i * 3)).add j = a.add (i * 3 + j) := Addr.add_add a _ _
      rw [ea] at this
      exact this
    let f : Nat → S31 := fun i => if h : i < len then Classical.choose (hex i h) else ⟨0, ByteArray.empty, 0⟩
    refine ⟨(List.range len).map f, by simp, ⟨by simp, by have : maxLen = 2 ^ 63 - 1 := rfl; omega, fun _ => ⟨a, rfl, fun j p hj => ?_⟩⟩, hlc⟩
    have hjl : j < len := by
      have := (List.getElem?_eq_some_iff.mp hj).1
      simpa using this
    have hp : p = f j := by
      rw [List.getElem?_map, List.getElem?_range hjl] at hj
      simpa using hj.symm
    have hf : f j = Classical.choose (hex j hjl) := dif_pos hjl
    refine ⟨[.int .i64 p.f0, .string p.f1, .int .i64 p.f2], rfl, ⟨_, _, rfl, rfl, ⟨_, _, rfl, rfl, rfl⟩⟩, fun i u hu => ?_⟩
    rw [hp, hf] at hu
    exact Classical.choose_spec (hex j hjl) i u hu
end
end Go.Proofs.Ytpccakfbmbkmlaa
