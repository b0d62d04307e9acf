/- A builder in a block of the call's own that holds a list of bytes, as a walk carries it: what it keeps through draws, calls, other boxes and writes. -/
import Derived.Test.YtpccakfbmbkmlaaGB
import Derived.Test.YtpccakfbmbkmlaaTA
import Derived.Test.YtpccakfbmbkmlaaTS
set_option linter.unusedVariables false
namespace Go.Proofs.Ytpccakfbmbkmlaa.PAll
open Go.RowKit Go.Proofs.YtpccakfbmbkmlaaW.PrintWords Go.Proofs.YtpccakfbmbkmlaaW.PrintLast Go.Proofs.YtpccakfbmbkmlaaW.PrintMore
def BK (B b : Nat) (w : World) (xs : List Int) : Prop := ∃ l : List UInt8, xs = l.map (fun c => (c.toNat : Int)) ∧ Lib.IsBuilder 59 5 B b (Lib.byteCells l) w
/-- .. beside a box of another type. -/
def BKg (B b g : Nat) (w : World) (xs : List Int) : Prop := BK B b w xs ∧ ∃ c fz, w.heap[g]? = some (.cells c 31 fz)
theorem at_kept {B b : Nat} {p : Value} {bs : List Value} {w w' : World} (h : Lib.BuilderAt 59 5 B b p bs w)
    (hk : ∀ (i : Nat) (c : Array Value) (t : TypeId) (fz : Nat × Nat), w.heap[i]? = some (Obj.cells c t fz) → (t = 59 ∨ t = 5) → w'.heap[i]? = some (Obj.cells c t fz)) : Lib.BuilderAt 59 5 B b p bs w' := by
  obtain ⟨hB, v, hb, ⟨h1, h2⟩, hne⟩ := h
  refine ⟨hB, v, hk _ _ _ _ hb (Or.inl rfl), ⟨h1, ?_⟩, hne⟩
  rcases h2 with h2 | ⟨g, cap, cur, hv, hg, hc, r⟩
  · exact Or.inl h2
  · exact Or.inr ⟨g, cap, cur, hv, hg, hk _ _ _ _ hc (Or.inr rfl), r⟩
theorem bk_kept {B b : Nat} {xs : List Int} {w w' : World} (h : BK B b w xs)
    (hk : ∀ (i : Nat) (c : Array Value) (t : TypeId) (fz : Nat × Nat), w.heap[i]? = some (Obj.cells c t fz) → (t = 59 ∨ t = 5) → w'.heap[i]? = some (Obj.cells c t fz)) : BK B b w' xs := by
  obtain ⟨l, h1, h2⟩ := h
  refine ⟨l, h1, ?_⟩
  rcases h2 with h2 | h2
  · exact Or.inl (at_kept h2 hk)
  · exact Or.inr (at_kept h2 hk)
theorem bk_drew {B b : Nat} {xs : List Int} {w : World} (h : BK B b w xs) : BK B b w.drew xs := bk_kept h (fun _ _ _ _ e _ => e)
theorem bk_drewN {B b : Nat} {xs : List Int} {w : World} (h : BK B b w xs) (n : Nat) : BK B b (w.drewN n) xs := bk_kept h (fun _ _ _ _ e _ => e)
theorem bk_alloc {B b : Nat} {xs : List Int} {w : World} (h : BK B b w xs) (o : Obj) : BK B b (w.alloc o) xs := bk_kept h (fun _ _ _ _ e _ => blk_alloc e o)
theorem bk_below {B b : Nat} {xs : List Int} {w w' : World} (h : BK B b w xs) (hb : Below w.heap.size w w') : BK B b w' xs := bk_kept h (fun _ _ _ _ e _ => blk_below e hb)
theorem bk_new {B b : Nat} {w : World} (hB : B ≤ b) (h : w.heap[b]? = some (.cells #[.pointer none, .slice none 0 0] 59 (0, 0))) : BK B b w [] :=
  ⟨[], rfl, Or.inl ⟨hB, .slice none 0 0, h, World.ownsRow_nil _ _ _ _, by simp [Value.ownBlock]⟩⟩
theorem bkg_of {B b g : Nat} {xs : List Int} {w : World} {c : Array Value} {fz : Nat × Nat} (h : BK B b w xs) (hg : w.heap[g]? = some (.cells c 31 fz)) : BKg B b g w xs := ⟨h, c, fz, hg⟩
theorem bkg_drew {B b g : Nat} {xs : List Int} {w : World} (h : BKg B b g w xs) : BKg B b g w.drew xs := ⟨bk_drew h.1, h.2⟩
theorem bkg_drewN {B b g : Nat} {xs : List Int} {w : World} (h : BKg B b g w xs) (n : Nat) : BKg B b g (w.drewN n) xs := ⟨bk_drewN h.1 n, h.2⟩
theorem bkg_set {B b g : Nat} {xs : List Int} {w : World} (h : BKg B b g w xs) (j : Nat) (u : Value) : BKg B b g (w.setCell ⟨g, j, none⟩ u) xs := by
  obtain ⟨h1, c, fz, hg⟩ := h
  refine ⟨bk_kept h1 (fun i c' t fz' e ht => ?_), c.setIfInBounds j u, fz, ?_⟩
  · have hne : g ≠ i := by
      rintro rfl
      rw [hg] at e
      injection e with e
      injection e with _ e2 _
      rcases ht with h | h <;> rw [h] at e2 <;> exact absurd e2 (by decide)
    simp [World.setCell, Array.getElem?_modify, hne, e]
  · simp [World.setCell, Array.getElem?_modify, hg]
theorem bkg_out {B b g : Nat} {xs : List Int} {w : World} (h : BKg B b g w xs) : BK B b w xs := h.1
theorem bk_ne {B b g : Nat} {xs : List Int} {w : World} {c : Array Value} {fz : Nat × Nat} (h : BK B b w xs) (hg : w.heap[g]? = some (.cells c 31 fz)) : g ≠ b := by
  obtain ⟨l, _, h2⟩ := h
  rintro rfl
  rcases h2 with ⟨_, v, hb, _⟩ | ⟨_, v, hb, _⟩
  · rw [hg] at hb; injection hb with e; injection e with _ e2 _; exact absurd e2 (by decide)
  · rw [hg] at hb; injection hb with e; injection e with _ e2 _; exact absurd e2 (by decide)
theorem blk_others {B b g : Nat} {xs : List Int} {w w' : World} {c : Array Value} {fz : Nat × Nat} (hg : w.heap[g]? = some (.cells c 31 fz)) (hk : Lib.OthersKept 5 (some b) w w') (h : BK B b w xs) : w'.heap[g]? = some (.cells c 31 fz) :=
  hk g _ hg (fun e => bk_ne h hg (Option.some.inj e)) (fun c' fz' e => by injection e with _ e2 _; exact absurd e2 (by decide))
theorem bk_writeByte (B b : Nat) (xs : List Int) (w : World) (h : BK B b w xs) (hlen : xs.length < 140737488355328) (hBw : B ≤ w.heap.size) :
    Calls Try.prog 38 #[.pointer (some ⟨b, 0, none⟩), .int .u8 32] w fun e w' => e = .returned .nilIface ∧ BK B b w' (xs ++ [32]) ∧ Below B w w' ∧ Lib.OthersKept 5 (some b) w w' := by
  obtain ⟨l, rfl, h2⟩ := h
  refine (writeByte_any B b (Lib.byteCells l) 32 w h2 (by simp [Lib.byteCells] at hlen ⊢; omega) hBw).mono ?_
  rintro e w' ⟨he, h1, h3, h4⟩
  refine ⟨he, ⟨l ++ [32], by simp, Or.inr ?_⟩, h3, h4⟩
  have : Lib.byteCells (l ++ [32]) = Lib.byteCells l ++ [Value.int .u8 32] := by simp [Lib.byteCells]
  rw [this]; exact h1
theorem bk_writeString (B b : Nat) (xs : List Int) (s : ByteArray) (w : World) (h : BK B b w xs) (hlen : xs.length + s.size < 140737488355328) (hBw : B ≤ w.heap.size) :
    Calls Try.prog 39 #[.pointer (some ⟨b, 0, none⟩), .string s] w fun e w' => e = .returned (.tuple #[.int .i64 s.size, .nilIface]) ∧ BK B b w' (xs ++ bytesOf s) ∧ Below B w w' ∧ Lib.OthersKept 5 (some b) w w' := by
  obtain ⟨l, rfl, h2⟩ := h
  refine (writeString_any B b (Lib.byteCells l) s w h2 (by simp [Lib.byteCells] at hlen ⊢; omega) hBw).mono ?_
  rintro e w' ⟨he, h1, h3, h4⟩
  refine ⟨he, ⟨l ++ s.data.toList, by simp [bytesOf], Or.inr ?_⟩, h3, h4⟩
  have : Lib.byteCells (l ++ s.data.toList) = Lib.byteCells l ++ Lib.strCells s := by simp [Lib.byteCells, Lib.strCells]
  rw [this]; exact h1
theorem bk_len (B b : Nat) (xs : List Int) (w : World) (h : BK B b w xs) :
    Calls Try.prog 40 #[.pointer (some ⟨b, 0, none⟩)] w fun e w' => e = .returned (.int .i64 xs.length) ∧ w' = w := by
  obtain ⟨l, rfl, h2⟩ := h
  refine (Try.Builder_Len B b (Lib.byteCells l) w h2).mono ?_
  rintro e w' ⟨he, h1⟩
  refine ⟨?_, h1⟩
  rw [he]; simp [Lib.byteCells]
theorem bk_string (B b : Nat) (xs : List Int) (w : World) (h : BK B b w xs) (hBw : B ≤ w.heap.size) :
    Calls Try.prog 41 #[.pointer (some ⟨b, 0, none⟩)] w fun e w' => e = .returned (.string (strOfNums xs)) ∧ Below B w w' := by
  obtain ⟨l, rfl, h2⟩ := h
  refine (Try.Builder_String_any B b l w h2 hBw).mono ?_
  rintro e w' ⟨he, h1⟩
  refine ⟨?_, h1⟩
  rw [he]
  have : strOfNums (l.map (fun c => (c.toNat : Int))) = ⟨l.toArray⟩ := by
    simp [strOfNums, List.map_map, Function.comp_def]
  rw [this]
end Go.Proofs.Ytpccakfbmbkmlaa.PAll
