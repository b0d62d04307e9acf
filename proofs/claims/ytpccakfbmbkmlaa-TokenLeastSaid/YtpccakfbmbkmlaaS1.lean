/- A token by value is a number, a text and a number, and such three read back the same in each world. -/
import Derived.Test.YtpccakfbmbkmlaaT0
import Derived.WalkKit
import Derived.OpenShut
import Derived.ShutString
import Derived.ChangeSame
import Derived.Lib.SmallJoins
namespace Go.Proofs.Ytpccakfbmbkmlaa
open Go.ChangeShapes Go.WideShapes Go.ChangeAt Go.RowKit Go.Joins
theorem array3 {α : Type} {cs : Array α} (h : cs.size = 3) : ∃ c0 c1 c2, cs = #[c0, c1, c2] := by
  obtain ⟨l⟩ := cs
  match l, h with
  | [c0, c1, c2], _ => exact ⟨c0, c1, c2, rfl⟩
/-- How a token reads. -/
def tokData {H : Type} (n : Int) (s : ByteArray) (z : Int) : DataW H := .agg [.lit (.int .i64 n), .lit (.string s.data.toList), .lit (.int .i64 z)]
def wf64 (a : Int) : Prop := (Lit.int .i64 a).wf = true
theorem cells31 : Try.prog.cellsOf 31 = 3 := by kernel_rfl
theorem cells3 : Try.prog.cellsOf 3 = 1 := by kernel_rfl
theorem cells9 : Try.prog.cellsOf 9 = 1 := by kernel_rfl
section
variable {H : Type} {enc : TypeId × Value → H} {w : World} {base : Nat} {spare : Nat → Bool} {held : Bool}
theorem open_tok {r : Reach} {b0 : Nat} {v : Value} {d : DataW H} {p : List MemPlace} (hv : Value.okWide Try.prog w r b0 31 v) (h : DataW.Trod enc Try.prog w base spare held 31 v d p) :
    ∃ n s z, v = .agg #[.int .i64 n, .string s, .int .i64 z] ∧ d = tokData n s z ∧ p = [] ∧ wf64 n ∧ s.size ≤ maxLen ∧ wf64 z := by
  obtain ⟨cs, rfl, hsz⟩ := okWide_struct Try.underlying31 hv
  obtain ⟨c0, c1, c2, rfl⟩ := array3 (hsz.trans cells31)
  obtain ⟨fuel, hf⟩ := h
  obtain ⟨xs, n, _, hx, hl, hlen, hfs⟩ := DataW.trod_struct Try.underlying31 hf
  match xs, hlen with
  | [y0, y1, y2], _ =>
    have h0 : DataW.trod enc Try.prog w base spare held n 3 (((Value.agg #[c0, c1, c2]).cells.toList.drop 0).take (Try.prog.cellsOf 3)) = some y0 := hfs 0 _ rfl
    have h1 : DataW.trod enc Try.prog w base spare held n 9 (((Value.agg #[c0, c1, c2]).cells.toList.drop 1).take (Try.prog.cellsOf 9)) = some y1 := hfs 1 _ rfl
    have h2 : DataW.trod enc Try.prog w base spare held n 3 (((Value.agg #[c0, c1, c2]).cells.toList.drop 2).take (Try.prog.cellsOf 3)) = some y2 := hfs 2 _ rfl
    simp only [cells3, cells9, Value.cells] at h0 h1 h2
    obtain ⟨a0, e0, z0, w0⟩ := DataW.trod_int Try.underlying3 h0
    obtain ⟨a1, e1, z1, w1⟩ := DataW.trod_string Try.underlying9 h1
    obtain ⟨a2, e2, z2, w2⟩ := DataW.trod_int Try.underlying3 h2
    simp at e0 e1 e2 z0 z1 z2
    subst e0 e1 e2 z0 z1 z2
    simp only [Prod.mk.injEq] at hx
    exact ⟨a0, a1, a2, rfl, hx.1, by simpa using hx.2, w0, w1, w2⟩
theorem shut_tok {n : Int} {s : ByteArray} {z : Int} (w0 : wf64 n) (w1 : s.size ≤ maxLen) (w2 : wf64 z) :
    DataW.Trod enc Try.prog w base spare held 31 (.agg #[.int .i64 n, .string s, .int .i64 z]) (tokData n s z) [] := by
  have h1 : DataW.trod enc Try.prog w base spare held 1 9 [.string s] = some (.lit (.string s.data.toList), []) := by simp [DataW.trod, Try.underlying9, w1]
  have := trod_struct_mk (enc := enc) (w := w) (base := base) (spare := spare) (held := held) (n := 1) (cs := [.int .i64 n, .string s, .int .i64 z])
    (xs := [(.lit (.int .i64 n), []), (.lit (.string s.data.toList), []), (.lit (.int .i64 z), [])]) Try.underlying31 (by simp [cells31])
    (by simp [cells3, cells9, trod_int_mk (enc := enc) (w := w) (base := base) (spare := spare) (held := held) 0 Try.underlying3 w0, trod_int_mk (enc := enc) (w := w) (base := base) (spare := spare) (held := held) 0 Try.underlying3 w2, h1])
  exact ⟨2, by simpa [Value.cells, tokData] using this⟩
end
end Go.Proofs.Ytpccakfbmbkmlaa
