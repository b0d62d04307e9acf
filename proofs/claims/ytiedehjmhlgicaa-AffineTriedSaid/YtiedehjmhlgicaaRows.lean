/-
  No cell of these rows narrows 'for every input' (looked for: loops, veiled, ifaces, maps, wideKeys, modest, calm, conditions, laid).
  DERIVED. THE GIVEN ROWS OF THIS SEAT. 11 by the template 'for every input the law returns true; each argument reads behind the call as it read before'; 0 by the template 'total and deterministic' (their statements: YtiedehjmhlgicaaTotals.lean).
  GIVEN WITH THE SEED: the statements are not yours to turn. If you find one false, say at which input.
  Laid BY PROGRAM, IN A SANDBOX (cutbox-rows.mjs): the forced cells as the released guide's own fill.sh prints them over the translation 4345654ff48ae200… (all of the seat's roots in one cut). By AI agents, Wed Nov 11 2026. No macro, syntax, notation, axiom, sorry.
-/
import Derived.Test.YtiedehjmhlgicaaChecked
import GoSem.Claim
import GoSem.ClaimJoined
import GoSem.ClaimMapViews
import Derived.JoinedTies
import Derived.KernelRfl
namespace Go.Proofs.Ytiedehjmhlgicaa
/- THE CELL 'sum', in the pinned program and in every row, IS THE sha256 OF THE DUMP (.gsa) THAT YtiedehjmhlgicaaProg.lean LOADS. Nothing in Lean hashes anything: it is a label: what it is worth is what the hold of that sum in a sandbox is worth. -/
noncomputable def Try.pinned : Pinned := { name := "ytiedehjmhlgicaa", sum := "4345654ff48ae2003f61acb7bf09867bdaf1d5e6240fce284c1ddee8a0d0f65e", checked := Try.checked }
namespace Rows
def none {H : Type} : Left H := { results := [], args := [] }

/-- 'biremelaw14.AffineSolves': WHATEVER THE INPUT: true; the input reads as it did. -/
def affineSolvesSpec : ChangeSpec := { name := "affineSolves", fn := fun _ => fun
  | [d1, d2, d3] => { results := [.lit (.bool true)], args := [d1, d2, d3] }
  | _ => none }
def affineSolvesRow : OpenClaim := { program := "ytiedehjmhlgicaa", sum := "4345654ff48ae2003f61acb7bf09867bdaf1d5e6240fce284c1ddee8a0d0f65e", func := "bireme/biremelaw14.AffineSolves", spec := "affineSolves", recurses := true, apart := false }
def AffineSolvesSaid : Prop := affineSolvesRow.holds Try.pinned (OpenSpec.ofChange affineSolvesSpec)

/-- ITS FALSE NEIGHBOUR: 'it returns false'. Refute it at one input. -/
def affineSolvesWrong : ChangeSpec := { name := "affineSolves", fn := fun _ => fun
  | [d1, d2, d3] => { results := [.lit (.bool false)], args := [d1, d2, d3] }
  | _ => none }
def AffineSolvesWrongFalsely : Prop := affineSolvesRow.holds Try.pinned (OpenSpec.ofChange affineSolvesWrong)

/-- 'biremelaw14.AffineAheads': WHATEVER THE INPUT: true; the input reads as it did. -/
def affineAheadsSpec : ChangeSpec := { name := "affineAheads", fn := fun _ => fun
  | [d1, d2] => { results := [.lit (.bool true)], args := [d1, d2] }
  | _ => none }
def affineAheadsRow : OpenClaim := { program := "ytiedehjmhlgicaa", sum := "4345654ff48ae2003f61acb7bf09867bdaf1d5e6240fce284c1ddee8a0d0f65e", func := "bireme/biremelaw14.AffineAheads", spec := "affineAheads", recurses := true, apart := false }
def AffineAheadsSaid : Prop := affineAheadsRow.holds Try.pinned (OpenSpec.ofChange affineAheadsSpec)

/-- ITS FALSE NEIGHBOUR: 'it returns false'. Refute it at one input. -/
def affineAheadsWrong : ChangeSpec := { name := "affineAheads", fn := fun _ => fun
  | [d1, d2] => { results := [.lit (.bool false)], args := [d1, d2] }
  | _ => none }
def AffineAheadsWrongFalsely : Prop := affineAheadsRow.holds Try.pinned (OpenSpec.ofChange affineAheadsWrong)

/-- 'biremelaw14.AffineAll': WHATEVER THE INPUT: true; the input reads as it did. -/
def affineAllSpec : ChangeSpec := { name := "affineAll", fn := fun _ => fun
  | [d1, d2, d3, d4, d5] => { results := [.lit (.bool true)], args := [d1, d2, d3, d4, d5] }
  | _ => none }
def affineAllRow : OpenClaim := { program := "ytiedehjmhlgicaa", sum := "4345654ff48ae2003f61acb7bf09867bdaf1d5e6240fce284c1ddee8a0d0f65e", func := "bireme/biremelaw14.AffineAll", spec := "affineAll", recurses := true, apart := false }
def AffineAllSaid : Prop := affineAllRow.holds Try.pinned (OpenSpec.ofChange affineAllSpec)

/-- ITS FALSE NEIGHBOUR: 'it returns false'. Refute it at one input. -/
def affineAllWrong : ChangeSpec := { name := "affineAll", fn := fun _ => fun
  | [d1, d2, d3, d4, d5] => { results := [.lit (.bool false)], args := [d1, d2, d3, d4, d5] }
  | _ => none }
def AffineAllWrongFalsely : Prop := affineAllRow.holds Try.pinned (OpenSpec.ofChange affineAllWrong)

/-- 'biremelaw14.AffineNone': WHATEVER THE INPUT: true; the input reads as it did. -/
def affineNoneSpec : ChangeSpec := { name := "affineNone", fn := fun _ => fun
  | [d1, d2, d3] => { results := [.lit (.bool true)], args := [d1, d2, d3] }
  | _ => none }
def affineNoneRow : OpenClaim := { program := "ytiedehjmhlgicaa", sum := "4345654ff48ae2003f61acb7bf09867bdaf1d5e6240fce284c1ddee8a0d0f65e", func := "bireme/biremelaw14.AffineNone", spec := "affineNone", recurses := true, apart := false }
def AffineNoneSaid : Prop := affineNoneRow.holds Try.pinned (OpenSpec.ofChange affineNoneSpec)

/-- ITS FALSE NEIGHBOUR: 'it returns false'. Refute it at one input. -/
def affineNoneWrong : ChangeSpec := { name := "affineNone", fn := fun _ => fun
  | [d1, d2, d3] => { results := [.lit (.bool false)], args := [d1, d2, d3] }
  | _ => none }
def AffineNoneWrongFalsely : Prop := affineNoneRow.holds Try.pinned (OpenSpec.ofChange affineNoneWrong)

/-- 'biremelaw14.AffineGcds': WHATEVER THE INPUT: true; the input reads as it did. -/
def affineGcdsSpec : ChangeSpec := { name := "affineGcds", fn := fun _ => fun
  | [d1, d2] => { results := [.lit (.bool true)], args := [d1, d2] }
  | _ => none }
def affineGcdsRow : OpenClaim := { program := "ytiedehjmhlgicaa", sum := "4345654ff48ae2003f61acb7bf09867bdaf1d5e6240fce284c1ddee8a0d0f65e", func := "bireme/biremelaw14.AffineGcds", spec := "affineGcds", recurses := true, apart := false }
def AffineGcdsSaid : Prop := affineGcdsRow.holds Try.pinned (OpenSpec.ofChange affineGcdsSpec)

/-- ITS FALSE NEIGHBOUR: 'it returns false'. Refute it at one input. -/
def affineGcdsWrong : ChangeSpec := { name := "affineGcds", fn := fun _ => fun
  | [d1, d2] => { results := [.lit (.bool false)], args := [d1, d2] }
  | _ => none }
def AffineGcdsWrongFalsely : Prop := affineGcdsRow.holds Try.pinned (OpenSpec.ofChange affineGcdsWrong)

/-- 'biremelaw14.AffineDivides': WHATEVER THE INPUT: true; the input reads as it did. -/
def affineDividesSpec : ChangeSpec := { name := "affineDivides", fn := fun _ => fun
  | [d1, d2] => { results := [.lit (.bool true)], args := [d1, d2] }
  | _ => none }
def affineDividesRow : OpenClaim := { program := "ytiedehjmhlgicaa", sum := "4345654ff48ae2003f61acb7bf09867bdaf1d5e6240fce284c1ddee8a0d0f65e", func := "bireme/biremelaw14.AffineDivides", spec := "affineDivides", recurses := true, apart := false }
def AffineDividesSaid : Prop := affineDividesRow.holds Try.pinned (OpenSpec.ofChange affineDividesSpec)

/-- ITS FALSE NEIGHBOUR: 'it returns false'. Refute it at one input. -/
def affineDividesWrong : ChangeSpec := { name := "affineDivides", fn := fun _ => fun
  | [d1, d2] => { results := [.lit (.bool false)], args := [d1, d2] }
  | _ => none }
def AffineDividesWrongFalsely : Prop := affineDividesRow.holds Try.pinned (OpenSpec.ofChange affineDividesWrong)

/-- 'biremelaw14.AffineMeets': WHATEVER THE INPUT: true; the input reads as it did. -/
def affineMeetsSpec : ChangeSpec := { name := "affineMeets", fn := fun _ => fun
  | [d] => { results := [.lit (.bool true)], args := [d] }
  | _ => none }
def affineMeetsRow : OpenClaim := { program := "ytiedehjmhlgicaa", sum := "4345654ff48ae2003f61acb7bf09867bdaf1d5e6240fce284c1ddee8a0d0f65e", func := "bireme/biremelaw14.AffineMeets", spec := "affineMeets", recurses := true, apart := false }
def AffineMeetsSaid : Prop := affineMeetsRow.holds Try.pinned (OpenSpec.ofChange affineMeetsSpec)

/-- ITS FALSE NEIGHBOUR: 'it returns false'. Refute it at one input. -/
def affineMeetsWrong : ChangeSpec := { name := "affineMeets", fn := fun _ => fun
  | [d] => { results := [.lit (.bool false)], args := [d] }
  | _ => none }
def AffineMeetsWrongFalsely : Prop := affineMeetsRow.holds Try.pinned (OpenSpec.ofChange affineMeetsWrong)

/-- 'biremelaw14.AffineTried': WHATEVER THE INPUT: true; the input reads as it did. -/
def affineTriedSpec : ChangeSpec := { name := "affineTried", fn := fun _ => fun
  | [d1, d2] => { results := [.lit (.bool true)], args := [d1, d2] }
  | _ => none }
def affineTriedRow : OpenClaim := { program := "ytiedehjmhlgicaa", sum := "4345654ff48ae2003f61acb7bf09867bdaf1d5e6240fce284c1ddee8a0d0f65e", func := "bireme/biremelaw14.AffineTried", spec := "affineTried", unfollowed := true, recurses := true, apart := false }
def AffineTriedSaid : Prop := affineTriedRow.holds Try.pinned (OpenSpec.ofChange affineTriedSpec)

/-- ITS FALSE NEIGHBOUR: 'it returns false'. Refute it at one input. -/
def affineTriedWrong : ChangeSpec := { name := "affineTried", fn := fun _ => fun
  | [d1, d2] => { results := [.lit (.bool false)], args := [d1, d2] }
  | _ => none }
def AffineTriedWrongFalsely : Prop := affineTriedRow.holds Try.pinned (OpenSpec.ofChange affineTriedWrong)

/-- 'biremelaw14.AffineSides': WHATEVER THE INPUT: true; the input reads as it did. -/
def affineSidesSpec : ChangeSpec := { name := "affineSides", fn := fun _ => fun
  | [d] => { results := [.lit (.bool true)], args := [d] }
  | _ => none }
def affineSidesRow : OpenClaim := { program := "ytiedehjmhlgicaa", sum := "4345654ff48ae2003f61acb7bf09867bdaf1d5e6240fce284c1ddee8a0d0f65e", func := "bireme/biremelaw14.AffineSides", spec := "affineSides", recurses := true, apart := false }
def AffineSidesSaid : Prop := affineSidesRow.holds Try.pinned (OpenSpec.ofChange affineSidesSpec)

/-- ITS FALSE NEIGHBOUR: 'it returns false'. Refute it at one input. -/
def affineSidesWrong : ChangeSpec := { name := "affineSides", fn := fun _ => fun
  | [d] => { results := [.lit (.bool false)], args := [d] }
  | _ => none }
def AffineSidesWrongFalsely : Prop := affineSidesRow.holds Try.pinned (OpenSpec.ofChange affineSidesWrong)

/-- 'biremelaw14.AffineMoved': WHATEVER THE INPUT: true; the input reads as it did. -/
def affineMovedSpec : ChangeSpec := { name := "affineMoved", fn := fun _ => fun
  | [d1, d2, d3] => { results := [.lit (.bool true)], args := [d1, d2, d3] }
  | _ => none }
def affineMovedRow : OpenClaim := { program := "ytiedehjmhlgicaa", sum := "4345654ff48ae2003f61acb7bf09867bdaf1d5e6240fce284c1ddee8a0d0f65e", func := "bireme/biremelaw14.AffineMoved", spec := "affineMoved", recurses := true, apart := false }
def AffineMovedSaid : Prop := affineMovedRow.holds Try.pinned (OpenSpec.ofChange affineMovedSpec)

/-- ITS FALSE NEIGHBOUR: 'it returns false'. Refute it at one input. -/
def affineMovedWrong : ChangeSpec := { name := "affineMoved", fn := fun _ => fun
  | [d1, d2, d3] => { results := [.lit (.bool false)], args := [d1, d2, d3] }
  | _ => none }
def AffineMovedWrongFalsely : Prop := affineMovedRow.holds Try.pinned (OpenSpec.ofChange affineMovedWrong)

/-- 'biremelaw14.AffineCounts': WHATEVER THE INPUT: true; the input reads as it did. -/
def affineCountsSpec : ChangeSpec := { name := "affineCounts", fn := fun _ => fun
  | [d] => { results := [.lit (.bool true)], args := [d] }
  | _ => none }
def affineCountsRow : OpenClaim := { program := "ytiedehjmhlgicaa", sum := "4345654ff48ae2003f61acb7bf09867bdaf1d5e6240fce284c1ddee8a0d0f65e", func := "bireme/biremelaw14.AffineCounts", spec := "affineCounts", recurses := true, apart := false }
def AffineCountsSaid : Prop := affineCountsRow.holds Try.pinned (OpenSpec.ofChange affineCountsSpec)

/-- ITS FALSE NEIGHBOUR: 'it returns false'. Refute it at one input. -/
def affineCountsWrong : ChangeSpec := { name := "affineCounts", fn := fun _ => fun
  | [d] => { results := [.lit (.bool false)], args := [d] }
  | _ => none }
def AffineCountsWrongFalsely : Prop := affineCountsRow.holds Try.pinned (OpenSpec.ofChange affineCountsWrong)

/- THE SECOND FORM. 'bulk': how many values and letters a reading holds, each counted each time it is reached (what is shared counts as often as it is met; a slice's spare places count too). A statement '..UptoSaid' is the law's where the arguments, and the package variables that the reading takes, are together of bulk at most 1048576: NARROWER than '..Said'. Prove '..Said' where nothing that the law and all that it calls make is longer than what came in: it says more and counts as full. Else prove '..UptoSaid'. A law counts once. -/
mutual
def uptoBulk {H : Type} : DataW H → Nat
  | .lit (.string bytes) => bytes.length + 1
  | .lit _ => 1
  | .nil => 1
  | .ptr d => uptoBulk d + 1
  | .slice elems spare => uptoBulkAll elems + uptoBulkAll spare + 1
  | .agg parts => uptoBulkAll parts + 1
  | .iface _ d => uptoBulk d + 1
  | .map entries => uptoBulkEntries entries + 1
  | .held _ => 1
def uptoBulkAll {H : Type} : List (DataW H) → Nat
  | [] => 0
  | d :: r => uptoBulk d + uptoBulkAll r
def uptoBulkEntries {H : Type} : List (Lit × DataW H) → Nat
  | [] => 0
  | x :: r => uptoBulkEntry x + uptoBulkEntries r
def uptoBulkEntry {H : Type} : Lit × DataW H → Nat
  | (.string bytes, d) => bytes.length + uptoBulk d + 1
  | (_, d) => uptoBulk d + 1
 end
def uptoSmall : (H : Type) → List (DataW H) → Bool := fun _ ds => decide (uptoBulkAll ds ≤ 1048576)
def OpenSpec.upto (s : _root_.Go.ChangeSpec) : _root_.Go.OpenSpec := { _root_.Go.OpenSpec.ofChange s with cond := some uptoSmall }

/-- 'biremelaw14.AffineSolves', WHERE WHAT IT READS IS OF BULK AT MOST 1048576: true; the input reads as it did. -/
def affineSolvesUptoRow : OpenClaim := { program := "ytiedehjmhlgicaa", sum := "4345654ff48ae2003f61acb7bf09867bdaf1d5e6240fce284c1ddee8a0d0f65e", func := "bireme/biremelaw14.AffineSolves", spec := "affineSolves", recurses := true, apart := false, narrowed := true }
def AffineSolvesUptoSaid : Prop := affineSolvesUptoRow.holds Try.pinned (OpenSpec.upto affineSolvesSpec)

/-- 'biremelaw14.AffineAheads', WHERE WHAT IT READS IS OF BULK AT MOST 1048576: true; the input reads as it did. -/
def affineAheadsUptoRow : OpenClaim := { program := "ytiedehjmhlgicaa", sum := "4345654ff48ae2003f61acb7bf09867bdaf1d5e6240fce284c1ddee8a0d0f65e", func := "bireme/biremelaw14.AffineAheads", spec := "affineAheads", recurses := true, apart := false, narrowed := true }
def AffineAheadsUptoSaid : Prop := affineAheadsUptoRow.holds Try.pinned (OpenSpec.upto affineAheadsSpec)

/-- 'biremelaw14.AffineAll', WHERE WHAT IT READS IS OF BULK AT MOST 1048576: true; the input reads as it did. -/
def affineAllUptoRow : OpenClaim := { program := "ytiedehjmhlgicaa", sum := "4345654ff48ae2003f61acb7bf09867bdaf1d5e6240fce284c1ddee8a0d0f65e", func := "bireme/biremelaw14.AffineAll", spec := "affineAll", recurses := true, apart := false, narrowed := true }
def AffineAllUptoSaid : Prop := affineAllUptoRow.holds Try.pinned (OpenSpec.upto affineAllSpec)

/-- 'biremelaw14.AffineNone', WHERE WHAT IT READS IS OF BULK AT MOST 1048576: true; the input reads as it did. -/
def affineNoneUptoRow : OpenClaim := { program := "ytiedehjmhlgicaa", sum := "4345654ff48ae2003f61acb7bf09867bdaf1d5e6240fce284c1ddee8a0d0f65e", func := "bireme/biremelaw14.AffineNone", spec := "affineNone", recurses := true, apart := false, narrowed := true }
def AffineNoneUptoSaid : Prop := affineNoneUptoRow.holds Try.pinned (OpenSpec.upto affineNoneSpec)

/-- 'biremelaw14.AffineGcds', WHERE WHAT IT READS IS OF BULK AT MOST 1048576: true; the input reads as it did. -/
def affineGcdsUptoRow : OpenClaim := { program := "ytiedehjmhlgicaa", sum := "4345654ff48ae2003f61acb7bf09867bdaf1d5e6240fce284c1ddee8a0d0f65e", func := "bireme/biremelaw14.AffineGcds", spec := "affineGcds", recurses := true, apart := false, narrowed := true }
def AffineGcdsUptoSaid : Prop := affineGcdsUptoRow.holds Try.pinned (OpenSpec.upto affineGcdsSpec)

/-- 'biremelaw14.AffineDivides', WHERE WHAT IT READS IS OF BULK AT MOST 1048576: true; the input reads as it did. -/
def affineDividesUptoRow : OpenClaim := { program := "ytiedehjmhlgicaa", sum := "4345654ff48ae2003f61acb7bf09867bdaf1d5e6240fce284c1ddee8a0d0f65e", func := "bireme/biremelaw14.AffineDivides", spec := "affineDivides", recurses := true, apart := false, narrowed := true }
def AffineDividesUptoSaid : Prop := affineDividesUptoRow.holds Try.pinned (OpenSpec.upto affineDividesSpec)

/-- 'biremelaw14.AffineMeets', WHERE WHAT IT READS IS OF BULK AT MOST 1048576: true; the input reads as it did. -/
def affineMeetsUptoRow : OpenClaim := { program := "ytiedehjmhlgicaa", sum := "4345654ff48ae2003f61acb7bf09867bdaf1d5e6240fce284c1ddee8a0d0f65e", func := "bireme/biremelaw14.AffineMeets", spec := "affineMeets", recurses := true, apart := false, narrowed := true }
def AffineMeetsUptoSaid : Prop := affineMeetsUptoRow.holds Try.pinned (OpenSpec.upto affineMeetsSpec)

/-- 'biremelaw14.AffineTried', WHERE WHAT IT READS IS OF BULK AT MOST 1048576: true; the input reads as it did. -/
def affineTriedUptoRow : OpenClaim := { program := "ytiedehjmhlgicaa", sum := "4345654ff48ae2003f61acb7bf09867bdaf1d5e6240fce284c1ddee8a0d0f65e", func := "bireme/biremelaw14.AffineTried", spec := "affineTried", unfollowed := true, recurses := true, apart := false, narrowed := true }
def AffineTriedUptoSaid : Prop := affineTriedUptoRow.holds Try.pinned (OpenSpec.upto affineTriedSpec)

/-- 'biremelaw14.AffineSides', WHERE WHAT IT READS IS OF BULK AT MOST 1048576: true; the input reads as it did. -/
def affineSidesUptoRow : OpenClaim := { program := "ytiedehjmhlgicaa", sum := "4345654ff48ae2003f61acb7bf09867bdaf1d5e6240fce284c1ddee8a0d0f65e", func := "bireme/biremelaw14.AffineSides", spec := "affineSides", recurses := true, apart := false, narrowed := true }
def AffineSidesUptoSaid : Prop := affineSidesUptoRow.holds Try.pinned (OpenSpec.upto affineSidesSpec)

/-- 'biremelaw14.AffineMoved', WHERE WHAT IT READS IS OF BULK AT MOST 1048576: true; the input reads as it did. -/
def affineMovedUptoRow : OpenClaim := { program := "ytiedehjmhlgicaa", sum := "4345654ff48ae2003f61acb7bf09867bdaf1d5e6240fce284c1ddee8a0d0f65e", func := "bireme/biremelaw14.AffineMoved", spec := "affineMoved", recurses := true, apart := false, narrowed := true }
def AffineMovedUptoSaid : Prop := affineMovedUptoRow.holds Try.pinned (OpenSpec.upto affineMovedSpec)

/-- 'biremelaw14.AffineCounts', WHERE WHAT IT READS IS OF BULK AT MOST 1048576: true; the input reads as it did. -/
def affineCountsUptoRow : OpenClaim := { program := "ytiedehjmhlgicaa", sum := "4345654ff48ae2003f61acb7bf09867bdaf1d5e6240fce284c1ddee8a0d0f65e", func := "bireme/biremelaw14.AffineCounts", spec := "affineCounts", recurses := true, apart := false, narrowed := true }
def AffineCountsUptoSaid : Prop := affineCountsUptoRow.holds Try.pinned (OpenSpec.upto affineCountsSpec)

end Rows
end Go.Proofs.Ytiedehjmhlgicaa
