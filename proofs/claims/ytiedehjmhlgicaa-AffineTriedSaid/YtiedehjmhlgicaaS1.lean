/- A value of the struct of two lines and two numbers is six whole numbers, and six such numbers read back the same in each world. -/
import Derived.Test.YtiedehjmhlgicaaProg
import Derived.WalkKit
import Derived.OpenShut
import Derived.ChangeSame
import Derived.Lib.SmallJoins
namespace Go.Proofs.Ytiedehjmhlgicaa
open Go.ChangeShapes Go.WideShapes Go.ChangeAt Go.RowKit Go.Joins
theorem array6 {α : Type} {cs : Array α} (h : cs.size = 6) : ∃ c0 c1 c2 c3 c4 c5, cs = #[c0, c1, c2, c3, c4, c5] := by
  obtain ⟨l⟩ := cs
  match l, h with
  | [c0, c1, c2, c3, c4, c5], _ => exact ⟨c0, c1, c2, c3, c4, c5, rfl⟩
/-- How two lines and two numbers read. -/
def twoData {H : Type} (a0 a1 a2 a3 a4 a5 : Int) : DataW H :=
  .agg [.agg [.lit (.int .i64 a0), .lit (.int .i64 a1)], .agg [.lit (.int .i64 a2), .lit (.int .i64 a3)], .lit (.int .i64 a4), .lit (.int .i64 a5)]
def wf64 (a : Int) : Prop := (Lit.int .i64 a).wf = true
theorem cells35 : Try.prog.cellsOf 35 = 6 := by kernel_rfl
theorem cells33 : Try.prog.cellsOf 33 = 2 := by kernel_rfl
theorem cells2 : Try.prog.cellsOf 2 = 1 := by kernel_rfl
section
variable {H : Type} {enc : TypeId × Value → H} {w : World} {base : Nat} {spare : Nat → Bool} {held : Bool}
theorem open_line {n : Nat} {c0 c1 : Value} {y : DataW H × List MemPlace} (h : DataW.trod enc Try.prog w base spare held n 33 [c0, c1] = some y) :
    ∃ a0 a1, c0 = .int .i64 a0 ∧ c1 = .int .i64 a1 ∧ y = (.agg [.lit (.int .i64 a0), .lit (.int .i64 a1)], []) ∧ wf64 a0 ∧ wf64 a1 := by
  obtain ⟨y0, y1, m, rfl, _, h0, h1⟩ := trod_struct2 Try.underlying33 h
  simp only [cells2] at h0 h1
  obtain ⟨a0, e0, rfl, w0⟩ := DataW.trod_int Try.underlying2 h0
  obtain ⟨a1, e1, rfl, w1⟩ := DataW.trod_int Try.underlying2 h1
  simp at e0 e1
  exact ⟨a0, a1, e0, e1, rfl, w0, w1⟩
theorem open_two {r : Reach} {b0 : Nat} {v : Value} {d : DataW H} {p : List MemPlace} (hv : Value.okWide Try.prog w r b0 35 v) (h : DataW.Trod enc Try.prog w base spare held 35 v d p) :
    ∃ a0 a1 a2 a3 a4 a5, v = .agg #[.int .i64 a0, .int .i64 a1, .int .i64 a2, .int .i64 a3, .int .i64 a4, .int .i64 a5] ∧ d = twoData a0 a1 a2 a3 a4 a5 ∧ p = [] ∧
      wf64 a0 ∧ wf64 a1 ∧ wf64 a2 ∧ wf64 a3 ∧ wf64 a4 ∧ wf64 a5 := by
  obtain ⟨cs, rfl, hsz⟩ := okWide_struct Try.underlying35 hv
  obtain ⟨c0, c1, c2, c3, c4, c5, rfl⟩ := array6 (hsz.trans cells35)
  obtain ⟨fuel, hf⟩ := h
  obtain ⟨y0, y1, y2, y3, n, hx, _, h0, h1, h2, h3⟩ := trod_struct4 Try.underlying35 hf
  simp only [cells33, cells2, Value.cells] at h0 h1 h2 h3
  obtain ⟨a0, a1, rfl, rfl, rfl, w0, w1⟩ := open_line h0
  obtain ⟨a2, a3, rfl, rfl, rfl, w2, w3⟩ := open_line h1
  obtain ⟨a4, e4, rfl, w4⟩ := DataW.trod_int Try.underlying2 h2
  obtain ⟨a5, e5, rfl, w5⟩ := DataW.trod_int Try.underlying2 h3
  simp at e4 e5
  subst e4 e5
  simp only [Prod.mk.injEq] at hx
  exact ⟨a0, a1, a2, a3, a4, a5, rfl, hx.1, by simpa using hx.2, w0, w1, w2, w3, w4, w5⟩
theorem shut_line {a0 a1 : Int} (w0 : wf64 a0) (w1 : wf64 a1) : DataW.trod enc Try.prog w base spare held 2 33 [.int .i64 a0, .int .i64 a1] = some (.agg [.lit (.int .i64 a0), .lit (.int .i64 a1)], []) := by
  have := trod_struct2_mk (enc := enc) (w := w) (base := base) (spare := spare) (held := held) (n := 1) (cs := [.int .i64 a0, .int .i64 a1]) Try.underlying33 (by simp [cells33])
    (by simpa [cells2] using trod_int_mk (enc := enc) (w := w) (base := base) (spare := spare) (held := held) 0 Try.underlying2 w0) (by simpa [cells2] using trod_int_mk (enc := enc) (w := w) (base := base) (spare := spare) (held := held) 0 Try.underlying2 w1)
  simpa using this
theorem shut_two {a0 a1 a2 a3 a4 a5 : Int} (w0 : wf64 a0) (w1 : wf64 a1) (w2 : wf64 a2) (w3 : wf64 a3) (w4 : wf64 a4) (w5 : wf64 a5) :
    DataW.Trod enc Try.prog w base spare held 35 (.agg #[.int .i64 a0, .int .i64 a1, .int .i64 a2, .int .i64 a3, .int .i64 a4, .int .i64 a5]) (twoData a0 a1 a2 a3 a4 a5) [] := by
  have := trod_struct4_mk (enc := enc) (w := w) (base := base) (spare := spare) (held := held) (n := 2) (cs := [.int .i64 a0, .int .i64 a1, .int .i64 a2, .int .i64 a3, .int .i64 a4, .int .i64 a5]) Try.underlying35 (by simp [cells35])
    (by simpa [cells33] using shut_line (enc := enc) (w := w) (base := base) (spare := spare) (held := held) w0 w1) (by simpa [cells33] using shut_line (enc := enc) (w := w) (base := base) (spare := spare) (held := held) w2 w3)
    (by simpa [cells2] using trod_int_mk (enc := enc) (w := w) (base := base) (spare := spare) (held := held) 1 Try.underlying2 w4) (by simpa [cells2] using trod_int_mk (enc := enc) (w := w) (base := base) (spare := spare) (held := held) 1 Try.underlying2 w5)
  exact ⟨3, by simpa [Value.cells, twoData] using this⟩
end
end Go.Proofs.Ytiedehjmhlgicaa
