/-
  No cell of these rows narrows 'for every input' (looked for: loops, veiled, ifaces, maps, wideKeys, modest, calm, conditions, laid).
  DERIVED. THE GIVEN ROWS OF THIS SEAT. 15 by the template 'for every input the law returns true; each argument reads behind the call as it read before'; 0 by the template 'total and deterministic' (their statements: YtecgkhijiogggaaTotals.lean).
  GIVEN WITH THE SEED: the statements are not yours to turn. If you find one false, say at which input.
  Laid BY PROGRAM, IN A SANDBOX (cutbox-rows.mjs): the forced cells as the released guide's own fill.sh prints them over the translation 7aa24fa5d7d8b14a… (all of the seat's roots in one cut). By AI agents, Wed Nov 11 2026. No macro, syntax, notation, axiom, sorry.
-/
import Derived.Test.YtecgkhijiogggaaChecked
import GoSem.Claim
import GoSem.ClaimJoined
import GoSem.ClaimMapViews
import Derived.JoinedTies
import Derived.KernelRfl
namespace Go.Proofs.Ytecgkhijiogggaa
/- THE CELL 'sum', in the pinned program and in every row, IS THE sha256 OF THE DUMP (.gsa) THAT YtecgkhijiogggaaProg.lean LOADS. Nothing in Lean hashes anything: it is a label: what it is worth is what the hold of that sum in a sandbox is worth. -/
noncomputable def Try.pinned : Pinned := { name := "ytecgkhijiogggaa", sum := "7aa24fa5d7d8b14a27ab40a0b1e4a5ce49088d898e2345ece7821d04ee0031fc", checked := Try.checked }
namespace Rows
def none {H : Type} : Left H := { results := [], args := [] }

/-- 'bobbinlaw3.SoftDivs': WHATEVER THE INPUT: true; the input reads as it did. -/
def softDivsSpec : ChangeSpec := { name := "softDivs", fn := fun _ => fun
  | [d1, d2] => { results := [.lit (.bool true)], args := [d1, d2] }
  | _ => none }
def softDivsRow : OpenClaim := { program := "ytecgkhijiogggaa", sum := "7aa24fa5d7d8b14a27ab40a0b1e4a5ce49088d898e2345ece7821d04ee0031fc", func := "bobbin/bobbinlaw3.SoftDivs", spec := "softDivs", inPlace := ["math/bits.Add64", "math/bits.Sub64"], named := ["math/bits.divideError", "math/bits.overflowError"], apart := false }
def SoftDivsSaid : Prop := softDivsRow.holds Try.pinned (OpenSpec.ofChange softDivsSpec)

/-- ITS FALSE NEIGHBOUR: 'it returns false'. Refute it at one input. -/
def softDivsWrong : ChangeSpec := { name := "softDivs", fn := fun _ => fun
  | [d1, d2] => { results := [.lit (.bool false)], args := [d1, d2] }
  | _ => none }
def SoftDivsWrongFalsely : Prop := softDivsRow.holds Try.pinned (OpenSpec.ofChange softDivsWrong)

/-- 'bobbinlaw3.SoftRoots': WHATEVER THE INPUT: true; the input reads as it did. -/
def softRootsSpec : ChangeSpec := { name := "softRoots", fn := fun _ => fun
  | [d] => { results := [.lit (.bool true)], args := [d] }
  | _ => none }
def softRootsRow : OpenClaim := { program := "ytecgkhijiogggaa", sum := "7aa24fa5d7d8b14a27ab40a0b1e4a5ce49088d898e2345ece7821d04ee0031fc", func := "bobbin/bobbinlaw3.SoftRoots", spec := "softRoots", inPlace := ["math/bits.Add64", "math/bits.Sub64"], named := ["math/bits.divideError", "math/bits.overflowError"], apart := false }
def SoftRootsSaid : Prop := softRootsRow.holds Try.pinned (OpenSpec.ofChange softRootsSpec)

/-- ITS FALSE NEIGHBOUR: 'it returns false'. Refute it at one input. -/
def softRootsWrong : ChangeSpec := { name := "softRoots", fn := fun _ => fun
  | [d] => { results := [.lit (.bool false)], args := [d] }
  | _ => none }
def SoftRootsWrongFalsely : Prop := softRootsRow.holds Try.pinned (OpenSpec.ofChange softRootsWrong)

/-- 'bobbinlaw3.SoftAdds': WHATEVER THE INPUT: true; the input reads as it did. -/
def softAddsSpec : ChangeSpec := { name := "softAdds", fn := fun _ => fun
  | [d1, d2] => { results := [.lit (.bool true)], args := [d1, d2] }
  | _ => none }
def softAddsRow : OpenClaim := { program := "ytecgkhijiogggaa", sum := "7aa24fa5d7d8b14a27ab40a0b1e4a5ce49088d898e2345ece7821d04ee0031fc", func := "bobbin/bobbinlaw3.SoftAdds", spec := "softAdds", inPlace := ["math/bits.Add64", "math/bits.Sub64"], named := ["math/bits.divideError", "math/bits.overflowError"], apart := false }
def SoftAddsSaid : Prop := softAddsRow.holds Try.pinned (OpenSpec.ofChange softAddsSpec)

/-- ITS FALSE NEIGHBOUR: 'it returns false'. Refute it at one input. -/
def softAddsWrong : ChangeSpec := { name := "softAdds", fn := fun _ => fun
  | [d1, d2] => { results := [.lit (.bool false)], args := [d1, d2] }
  | _ => none }
def SoftAddsWrongFalsely : Prop := softAddsRow.holds Try.pinned (OpenSpec.ofChange softAddsWrong)

/-- 'bobbinlaw3.SoftScales': WHATEVER THE INPUT: true; the input reads as it did. -/
def softScalesSpec : ChangeSpec := { name := "softScales", fn := fun _ => fun
  | [d1, d2] => { results := [.lit (.bool true)], args := [d1, d2] }
  | _ => none }
def softScalesRow : OpenClaim := { program := "ytecgkhijiogggaa", sum := "7aa24fa5d7d8b14a27ab40a0b1e4a5ce49088d898e2345ece7821d04ee0031fc", func := "bobbin/bobbinlaw3.SoftScales", spec := "softScales", inPlace := ["math/bits.Add64", "math/bits.Sub64"], named := ["math/bits.divideError", "math/bits.overflowError"], apart := false }
def SoftScalesSaid : Prop := softScalesRow.holds Try.pinned (OpenSpec.ofChange softScalesSpec)

/-- ITS FALSE NEIGHBOUR: 'it returns false'. Refute it at one input. -/
def softScalesWrong : ChangeSpec := { name := "softScales", fn := fun _ => fun
  | [d1, d2] => { results := [.lit (.bool false)], args := [d1, d2] }
  | _ => none }
def SoftScalesWrongFalsely : Prop := softScalesRow.holds Try.pinned (OpenSpec.ofChange softScalesWrong)

/-- 'bobbinlaw3.SoftFrom': WHATEVER THE INPUT: true; the input reads as it did. -/
def softFromSpec : ChangeSpec := { name := "softFrom", fn := fun _ => fun
  | [d1, d2] => { results := [.lit (.bool true)], args := [d1, d2] }
  | _ => none }
def softFromRow : OpenClaim := { program := "ytecgkhijiogggaa", sum := "7aa24fa5d7d8b14a27ab40a0b1e4a5ce49088d898e2345ece7821d04ee0031fc", func := "bobbin/bobbinlaw3.SoftFrom", spec := "softFrom", inPlace := ["math/bits.Sub64", "math/bits.Add64"], named := ["math/bits.divideError", "math/bits.overflowError"], apart := false }
def SoftFromSaid : Prop := softFromRow.holds Try.pinned (OpenSpec.ofChange softFromSpec)

/-- ITS FALSE NEIGHBOUR: 'it returns false'. Refute it at one input. -/
def softFromWrong : ChangeSpec := { name := "softFrom", fn := fun _ => fun
  | [d1, d2] => { results := [.lit (.bool false)], args := [d1, d2] }
  | _ => none }
def SoftFromWrongFalsely : Prop := softFromRow.holds Try.pinned (OpenSpec.ofChange softFromWrong)

/-- 'bobbinlaw3.SoftMuls': WHATEVER THE INPUT: true; the input reads as it did. -/
def softMulsSpec : ChangeSpec := { name := "softMuls", fn := fun _ => fun
  | [d1, d2] => { results := [.lit (.bool true)], args := [d1, d2] }
  | _ => none }
def softMulsRow : OpenClaim := { program := "ytecgkhijiogggaa", sum := "7aa24fa5d7d8b14a27ab40a0b1e4a5ce49088d898e2345ece7821d04ee0031fc", func := "bobbin/bobbinlaw3.SoftMuls", spec := "softMuls", inPlace := ["math/bits.Add64", "math/bits.Sub64"], named := ["math/bits.divideError", "math/bits.overflowError"], apart := false }
def SoftMulsSaid : Prop := softMulsRow.holds Try.pinned (OpenSpec.ofChange softMulsSpec)

/-- ITS FALSE NEIGHBOUR: 'it returns false'. Refute it at one input. -/
def softMulsWrong : ChangeSpec := { name := "softMuls", fn := fun _ => fun
  | [d1, d2] => { results := [.lit (.bool false)], args := [d1, d2] }
  | _ => none }
def SoftMulsWrongFalsely : Prop := softMulsRow.holds Try.pinned (OpenSpec.ofChange softMulsWrong)

/-- 'bobbinlaw3.SoftLaws': WHATEVER THE INPUT: true; the input reads as it did. -/
def softLawsSpec : ChangeSpec := { name := "softLaws", fn := fun _ => fun
  | [d1, d2] => { results := [.lit (.bool true)], args := [d1, d2] }
  | _ => none }
def softLawsRow : OpenClaim := { program := "ytecgkhijiogggaa", sum := "7aa24fa5d7d8b14a27ab40a0b1e4a5ce49088d898e2345ece7821d04ee0031fc", func := "bobbin/bobbinlaw3.SoftLaws", spec := "softLaws", inPlace := ["math/bits.Add64", "math/bits.Sub64"], named := ["math/bits.divideError", "math/bits.overflowError"], apart := false }
def SoftLawsSaid : Prop := softLawsRow.holds Try.pinned (OpenSpec.ofChange softLawsSpec)

/-- ITS FALSE NEIGHBOUR: 'it returns false'. Refute it at one input. -/
def softLawsWrong : ChangeSpec := { name := "softLaws", fn := fun _ => fun
  | [d1, d2] => { results := [.lit (.bool false)], args := [d1, d2] }
  | _ => none }
def SoftLawsWrongFalsely : Prop := softLawsRow.holds Try.pinned (OpenSpec.ofChange softLawsWrong)

/-- 'bobbinlaw3.SoftWholes': WHATEVER THE INPUT: true; the input reads as it did. -/
def softWholesSpec : ChangeSpec := { name := "softWholes", fn := fun _ => fun
  | [d] => { results := [.lit (.bool true)], args := [d] }
  | _ => none }
def softWholesRow : OpenClaim := { program := "ytecgkhijiogggaa", sum := "7aa24fa5d7d8b14a27ab40a0b1e4a5ce49088d898e2345ece7821d04ee0031fc", func := "bobbin/bobbinlaw3.SoftWholes", spec := "softWholes", inPlace := ["math/bits.Add64", "math/bits.Sub64"], unfollowed := true, recurses := true, named := ["math/bits.divideError", "math/bits.overflowError"], apart := false }
def SoftWholesSaid : Prop := softWholesRow.holds Try.pinned (OpenSpec.ofChange softWholesSpec)

/-- ITS FALSE NEIGHBOUR: 'it returns false'. Refute it at one input. -/
def softWholesWrong : ChangeSpec := { name := "softWholes", fn := fun _ => fun
  | [d] => { results := [.lit (.bool false)], args := [d] }
  | _ => none }
def SoftWholesWrongFalsely : Prop := softWholesRow.holds Try.pinned (OpenSpec.ofChange softWholesWrong)

/-- 'bobbinlaw3.SoftOrder': WHATEVER THE INPUT: true; the input reads as it did. -/
def softOrderSpec : ChangeSpec := { name := "softOrder", fn := fun _ => fun
  | [d1, d2, d3] => { results := [.lit (.bool true)], args := [d1, d2, d3] }
  | _ => none }
def softOrderRow : OpenClaim := { program := "ytecgkhijiogggaa", sum := "7aa24fa5d7d8b14a27ab40a0b1e4a5ce49088d898e2345ece7821d04ee0031fc", func := "bobbin/bobbinlaw3.SoftOrder", spec := "softOrder", inPlace := ["math/bits.Add64", "math/bits.Sub64"], named := ["math/bits.divideError", "math/bits.overflowError"], apart := false }
def SoftOrderSaid : Prop := softOrderRow.holds Try.pinned (OpenSpec.ofChange softOrderSpec)

/-- ITS FALSE NEIGHBOUR: 'it returns false'. Refute it at one input. -/
def softOrderWrong : ChangeSpec := { name := "softOrder", fn := fun _ => fun
  | [d1, d2, d3] => { results := [.lit (.bool false)], args := [d1, d2, d3] }
  | _ => none }
def SoftOrderWrongFalsely : Prop := softOrderRow.holds Try.pinned (OpenSpec.ofChange softOrderWrong)

/-- 'bobbinlaw3.SoftNarrows': WHATEVER THE INPUT: true; the input reads as it did. -/
def softNarrowsSpec : ChangeSpec := { name := "softNarrows", fn := fun _ => fun
  | [d1, d2] => { results := [.lit (.bool true)], args := [d1, d2] }
  | _ => none }
def softNarrowsRow : OpenClaim := { program := "ytecgkhijiogggaa", sum := "7aa24fa5d7d8b14a27ab40a0b1e4a5ce49088d898e2345ece7821d04ee0031fc", func := "bobbin/bobbinlaw3.SoftNarrows", spec := "softNarrows", inPlace := ["math/bits.Add64", "math/bits.Sub64"], named := ["math/bits.divideError", "math/bits.overflowError"], apart := false }
def SoftNarrowsSaid : Prop := softNarrowsRow.holds Try.pinned (OpenSpec.ofChange softNarrowsSpec)

/-- ITS FALSE NEIGHBOUR: 'it returns false'. Refute it at one input. -/
def softNarrowsWrong : ChangeSpec := { name := "softNarrows", fn := fun _ => fun
  | [d1, d2] => { results := [.lit (.bool false)], args := [d1, d2] }
  | _ => none }
def SoftNarrowsWrongFalsely : Prop := softNarrowsRow.holds Try.pinned (OpenSpec.ofChange softNarrowsWrong)

/-- 'bobbinlaw3.SoftCompares': WHATEVER THE INPUT: true; the input reads as it did. -/
def softComparesSpec : ChangeSpec := { name := "softCompares", fn := fun _ => fun
  | [d1, d2] => { results := [.lit (.bool true)], args := [d1, d2] }
  | _ => none }
def softComparesRow : OpenClaim := { program := "ytecgkhijiogggaa", sum := "7aa24fa5d7d8b14a27ab40a0b1e4a5ce49088d898e2345ece7821d04ee0031fc", func := "bobbin/bobbinlaw3.SoftCompares", spec := "softCompares", inPlace := ["math/bits.Add64", "math/bits.Sub64"], named := ["math/bits.divideError", "math/bits.overflowError"], apart := false }
def SoftComparesSaid : Prop := softComparesRow.holds Try.pinned (OpenSpec.ofChange softComparesSpec)

/-- ITS FALSE NEIGHBOUR: 'it returns false'. Refute it at one input. -/
def softComparesWrong : ChangeSpec := { name := "softCompares", fn := fun _ => fun
  | [d1, d2] => { results := [.lit (.bool false)], args := [d1, d2] }
  | _ => none }
def SoftComparesWrongFalsely : Prop := softComparesRow.holds Try.pinned (OpenSpec.ofChange softComparesWrong)

/-- 'bobbinlaw3.SoftTo': WHATEVER THE INPUT: true; the input reads as it did. -/
def softToSpec : ChangeSpec := { name := "softTo", fn := fun _ => fun
  | [d] => { results := [.lit (.bool true)], args := [d] }
  | _ => none }
def softToRow : OpenClaim := { program := "ytecgkhijiogggaa", sum := "7aa24fa5d7d8b14a27ab40a0b1e4a5ce49088d898e2345ece7821d04ee0031fc", func := "bobbin/bobbinlaw3.SoftTo", spec := "softTo", inPlace := ["math/bits.Sub64", "math/bits.Add64"], unfollowed := true, recurses := true, named := ["math/bits.divideError", "math/bits.overflowError"], apart := false }
def SoftToSaid : Prop := softToRow.holds Try.pinned (OpenSpec.ofChange softToSpec)

/-- ITS FALSE NEIGHBOUR: 'it returns false'. Refute it at one input. -/
def softToWrong : ChangeSpec := { name := "softTo", fn := fun _ => fun
  | [d] => { results := [.lit (.bool false)], args := [d] }
  | _ => none }
def SoftToWrongFalsely : Prop := softToRow.holds Try.pinned (OpenSpec.ofChange softToWrong)

/-- 'bobbinlaw3.SoftMakes': WHATEVER THE INPUT: true; the input reads as it did. -/
def softMakesSpec : ChangeSpec := { name := "softMakes", fn := fun _ => fun
  | [d1, d2, d3] => { results := [.lit (.bool true)], args := [d1, d2, d3] }
  | _ => none }
def softMakesRow : OpenClaim := { program := "ytecgkhijiogggaa", sum := "7aa24fa5d7d8b14a27ab40a0b1e4a5ce49088d898e2345ece7821d04ee0031fc", func := "bobbin/bobbinlaw3.SoftMakes", spec := "softMakes", inPlace := ["math/bits.Add64", "math/bits.Sub64"], named := ["math/bits.divideError", "math/bits.overflowError"], apart := false }
def SoftMakesSaid : Prop := softMakesRow.holds Try.pinned (OpenSpec.ofChange softMakesSpec)

/-- ITS FALSE NEIGHBOUR: 'it returns false'. Refute it at one input. -/
def softMakesWrong : ChangeSpec := { name := "softMakes", fn := fun _ => fun
  | [d1, d2, d3] => { results := [.lit (.bool false)], args := [d1, d2, d3] }
  | _ => none }
def SoftMakesWrongFalsely : Prop := softMakesRow.holds Try.pinned (OpenSpec.ofChange softMakesWrong)

/-- 'bobbinlaw3.SoftSplits': WHATEVER THE INPUT: true; the input reads as it did. -/
def softSplitsSpec : ChangeSpec := { name := "softSplits", fn := fun _ => fun
  | [d] => { results := [.lit (.bool true)], args := [d] }
  | _ => none }
def softSplitsRow : OpenClaim := { program := "ytecgkhijiogggaa", sum := "7aa24fa5d7d8b14a27ab40a0b1e4a5ce49088d898e2345ece7821d04ee0031fc", func := "bobbin/bobbinlaw3.SoftSplits", spec := "softSplits", inPlace := ["math/bits.Add64", "math/bits.Sub64"], named := ["math/bits.divideError", "math/bits.overflowError"], apart := false }
def SoftSplitsSaid : Prop := softSplitsRow.holds Try.pinned (OpenSpec.ofChange softSplitsSpec)

/-- ITS FALSE NEIGHBOUR: 'it returns false'. Refute it at one input. -/
def softSplitsWrong : ChangeSpec := { name := "softSplits", fn := fun _ => fun
  | [d] => { results := [.lit (.bool false)], args := [d] }
  | _ => none }
def SoftSplitsWrongFalsely : Prop := softSplitsRow.holds Try.pinned (OpenSpec.ofChange softSplitsWrong)

/-- 'bobbinlaw3.SoftBack': WHATEVER THE INPUT: true; the input reads as it did. -/
def softBackSpec : ChangeSpec := { name := "softBack", fn := fun _ => fun
  | [d1, d2, d3] => { results := [.lit (.bool true)], args := [d1, d2, d3] }
  | _ => none }
def softBackRow : OpenClaim := { program := "ytecgkhijiogggaa", sum := "7aa24fa5d7d8b14a27ab40a0b1e4a5ce49088d898e2345ece7821d04ee0031fc", func := "bobbin/bobbinlaw3.SoftBack", spec := "softBack", inPlace := ["math/bits.Add64", "math/bits.Sub64"], unfollowed := true, recurses := true, named := ["math/bits.divideError", "math/bits.overflowError"], apart := false }
def SoftBackSaid : Prop := softBackRow.holds Try.pinned (OpenSpec.ofChange softBackSpec)

/-- ITS FALSE NEIGHBOUR: 'it returns false'. Refute it at one input. -/
def softBackWrong : ChangeSpec := { name := "softBack", fn := fun _ => fun
  | [d1, d2, d3] => { results := [.lit (.bool false)], args := [d1, d2, d3] }
  | _ => none }
def SoftBackWrongFalsely : Prop := softBackRow.holds Try.pinned (OpenSpec.ofChange softBackWrong)

/- THE SECOND FORM. 'bulk': how many values and letters a reading holds, each counted each time it is reached (what is shared counts as often as it is met; a slice's spare places count too). A statement '..UptoSaid' is the law's where the arguments, and the package variables that the reading takes, are together of bulk at most 1048576: NARROWER than '..Said'. Prove '..Said' where nothing that the law and all that it calls make is longer than what came in: it says more and counts as full. Else prove '..UptoSaid'. A law counts once. -/
mutual
def uptoBulk {H : Type} : DataW H → Nat
  | .lit (.string bytes) => bytes.length + 1
  | .lit _ => 1
  | .nil => 1
  | .ptr d => uptoBulk d + 1
  | .slice elems spare => uptoBulkAll elems + uptoBulkAll spare + 1
  | .agg parts => uptoBulkAll parts + 1
  | .iface _ d => uptoBulk d + 1
  | .map entries => uptoBulkEntries entries + 1
  | .held _ => 1
def uptoBulkAll {H : Type} : List (DataW H) → Nat
  | [] => 0
  | d :: r => uptoBulk d + uptoBulkAll r
def uptoBulkEntries {H : Type} : List (Lit × DataW H) → Nat
  | [] => 0
  | x :: r => uptoBulkEntry x + uptoBulkEntries r
def uptoBulkEntry {H : Type} : Lit × DataW H → Nat
  | (.string bytes, d) => bytes.length + uptoBulk d + 1
  | (_, d) => uptoBulk d + 1
 end
def uptoSmall : (H : Type) → List (DataW H) → Bool := fun _ ds => decide (uptoBulkAll ds ≤ 1048576)
def OpenSpec.upto (s : _root_.Go.ChangeSpec) : _root_.Go.OpenSpec := { _root_.Go.OpenSpec.ofChange s with cond := some uptoSmall }

/-- 'bobbinlaw3.SoftDivs', WHERE WHAT IT READS IS OF BULK AT MOST 1048576: true; the input reads as it did. -/
def softDivsUptoRow : OpenClaim := { program := "ytecgkhijiogggaa", sum := "7aa24fa5d7d8b14a27ab40a0b1e4a5ce49088d898e2345ece7821d04ee0031fc", func := "bobbin/bobbinlaw3.SoftDivs", spec := "softDivs", inPlace := ["math/bits.Add64", "math/bits.Sub64"], named := ["math/bits.divideError", "math/bits.overflowError"], apart := false, narrowed := true }
def SoftDivsUptoSaid : Prop := softDivsUptoRow.holds Try.pinned (OpenSpec.upto softDivsSpec)

/-- 'bobbinlaw3.SoftRoots', WHERE WHAT IT READS IS OF BULK AT MOST 1048576: true; the input reads as it did. -/
def softRootsUptoRow : OpenClaim := { program := "ytecgkhijiogggaa", sum := "7aa24fa5d7d8b14a27ab40a0b1e4a5ce49088d898e2345ece7821d04ee0031fc", func := "bobbin/bobbinlaw3.SoftRoots", spec := "softRoots", inPlace := ["math/bits.Add64", "math/bits.Sub64"], named := ["math/bits.divideError", "math/bits.overflowError"], apart := false, narrowed := true }
def SoftRootsUptoSaid : Prop := softRootsUptoRow.holds Try.pinned (OpenSpec.upto softRootsSpec)

/-- 'bobbinlaw3.SoftAdds', WHERE WHAT IT READS IS OF BULK AT MOST 1048576: true; the input reads as it did. -/
def softAddsUptoRow : OpenClaim := { program := "ytecgkhijiogggaa", sum := "7aa24fa5d7d8b14a27ab40a0b1e4a5ce49088d898e2345ece7821d04ee0031fc", func := "bobbin/bobbinlaw3.SoftAdds", spec := "softAdds", inPlace := ["math/bits.Add64", "math/bits.Sub64"], named := ["math/bits.divideError", "math/bits.overflowError"], apart := false, narrowed := true }
def SoftAddsUptoSaid : Prop := softAddsUptoRow.holds Try.pinned (OpenSpec.upto softAddsSpec)

/-- 'bobbinlaw3.SoftScales', WHERE WHAT IT READS IS OF BULK AT MOST 1048576: true; the input reads as it did. -/
def softScalesUptoRow : OpenClaim := { program := "ytecgkhijiogggaa", sum := "7aa24fa5d7d8b14a27ab40a0b1e4a5ce49088d898e2345ece7821d04ee0031fc", func := "bobbin/bobbinlaw3.SoftScales", spec := "softScales", inPlace := ["math/bits.Add64", "math/bits.Sub64"], named := ["math/bits.divideError", "math/bits.overflowError"], apart := false, narrowed := true }
def SoftScalesUptoSaid : Prop := softScalesUptoRow.holds Try.pinned (OpenSpec.upto softScalesSpec)

/-- 'bobbinlaw3.SoftFrom', WHERE WHAT IT READS IS OF BULK AT MOST 1048576: true; the input reads as it did. -/
def softFromUptoRow : OpenClaim := { program := "ytecgkhijiogggaa", sum := "7aa24fa5d7d8b14a27ab40a0b1e4a5ce49088d898e2345ece7821d04ee0031fc", func := "bobbin/bobbinlaw3.SoftFrom", spec := "softFrom", inPlace := ["math/bits.Sub64", "math/bits.Add64"], named := ["math/bits.divideError", "math/bits.overflowError"], apart := false, narrowed := true }
def SoftFromUptoSaid : Prop := softFromUptoRow.holds Try.pinned (OpenSpec.upto softFromSpec)

/-- 'bobbinlaw3.SoftMuls', WHERE WHAT IT READS IS OF BULK AT MOST 1048576: true; the input reads as it did. -/
def softMulsUptoRow : OpenClaim := { program := "ytecgkhijiogggaa", sum := "7aa24fa5d7d8b14a27ab40a0b1e4a5ce49088d898e2345ece7821d04ee0031fc", func := "bobbin/bobbinlaw3.SoftMuls", spec := "softMuls", inPlace := ["math/bits.Add64", "math/bits.Sub64"], named := ["math/bits.divideError", "math/bits.overflowError"], apart := false, narrowed := true }
def SoftMulsUptoSaid : Prop := softMulsUptoRow.holds Try.pinned (OpenSpec.upto softMulsSpec)

/-- 'bobbinlaw3.SoftLaws', WHERE WHAT IT READS IS OF BULK AT MOST 1048576: true; the input reads as it did. -/
def softLawsUptoRow : OpenClaim := { program := "ytecgkhijiogggaa", sum := "7aa24fa5d7d8b14a27ab40a0b1e4a5ce49088d898e2345ece7821d04ee0031fc", func := "bobbin/bobbinlaw3.SoftLaws", spec := "softLaws", inPlace := ["math/bits.Add64", "math/bits.Sub64"], named := ["math/bits.divideError", "math/bits.overflowError"], apart := false, narrowed := true }
def SoftLawsUptoSaid : Prop := softLawsUptoRow.holds Try.pinned (OpenSpec.upto softLawsSpec)

/-- 'bobbinlaw3.SoftWholes', WHERE WHAT IT READS IS OF BULK AT MOST 1048576: true; the input reads as it did. -/
def softWholesUptoRow : OpenClaim := { program := "ytecgkhijiogggaa", sum := "7aa24fa5d7d8b14a27ab40a0b1e4a5ce49088d898e2345ece7821d04ee0031fc", func := "bobbin/bobbinlaw3.SoftWholes", spec := "softWholes", inPlace := ["math/bits.Add64", "math/bits.Sub64"], unfollowed := true, recurses := true, named := ["math/bits.divideError", "math/bits.overflowError"], apart := false, narrowed := true }
def SoftWholesUptoSaid : Prop := softWholesUptoRow.holds Try.pinned (OpenSpec.upto softWholesSpec)

/-- 'bobbinlaw3.SoftOrder', WHERE WHAT IT READS IS OF BULK AT MOST 1048576: true; the input reads as it did. -/
def softOrderUptoRow : OpenClaim := { program := "ytecgkhijiogggaa", sum := "7aa24fa5d7d8b14a27ab40a0b1e4a5ce49088d898e2345ece7821d04ee0031fc", func := "bobbin/bobbinlaw3.SoftOrder", spec := "softOrder", inPlace := ["math/bits.Add64", "math/bits.Sub64"], named := ["math/bits.divideError", "math/bits.overflowError"], apart := false, narrowed := true }
def SoftOrderUptoSaid : Prop := softOrderUptoRow.holds Try.pinned (OpenSpec.upto softOrderSpec)

/-- 'bobbinlaw3.SoftNarrows', WHERE WHAT IT READS IS OF BULK AT MOST 1048576: true; the input reads as it did. -/
def softNarrowsUptoRow : OpenClaim := { program := "ytecgkhijiogggaa", sum := "7aa24fa5d7d8b14a27ab40a0b1e4a5ce49088d898e2345ece7821d04ee0031fc", func := "bobbin/bobbinlaw3.SoftNarrows", spec := "softNarrows", inPlace := ["math/bits.Add64", "math/bits.Sub64"], named := ["math/bits.divideError", "math/bits.overflowError"], apart := false, narrowed := true }
def SoftNarrowsUptoSaid : Prop := softNarrowsUptoRow.holds Try.pinned (OpenSpec.upto softNarrowsSpec)

/-- 'bobbinlaw3.SoftCompares', WHERE WHAT IT READS IS OF BULK AT MOST 1048576: true; the input reads as it did. -/
def softComparesUptoRow : OpenClaim := { program := "ytecgkhijiogggaa", sum := "7aa24fa5d7d8b14a27ab40a0b1e4a5ce49088d898e2345ece7821d04ee0031fc", func := "bobbin/bobbinlaw3.SoftCompares", spec := "softCompares", inPlace := ["math/bits.Add64", "math/bits.Sub64"], named := ["math/bits.divideError", "math/bits.overflowError"], apart := false, narrowed := true }
def SoftComparesUptoSaid : Prop := softComparesUptoRow.holds Try.pinned (OpenSpec.upto softComparesSpec)

/-- 'bobbinlaw3.SoftTo', WHERE WHAT IT READS IS OF BULK AT MOST 1048576: true; the input reads as it did. -/
def softToUptoRow : OpenClaim := { program := "ytecgkhijiogggaa", sum := "7aa24fa5d7d8b14a27ab40a0b1e4a5ce49088d898e2345ece7821d04ee0031fc", func := "bobbin/bobbinlaw3.SoftTo", spec := "softTo", inPlace := ["math/bits.Sub64", "math/bits.Add64"], unfollowed := true, recurses := true, named := ["math/bits.divideError", "math/bits.overflowError"], apart := false, narrowed := true }
def SoftToUptoSaid : Prop := softToUptoRow.holds Try.pinned (OpenSpec.upto softToSpec)

/-- 'bobbinlaw3.SoftMakes', WHERE WHAT IT READS IS OF BULK AT MOST 1048576: true; the input reads as it did. -/
def softMakesUptoRow : OpenClaim := { program := "ytecgkhijiogggaa", sum := "7aa24fa5d7d8b14a27ab40a0b1e4a5ce49088d898e2345ece7821d04ee0031fc", func := "bobbin/bobbinlaw3.SoftMakes", spec := "softMakes", inPlace := ["math/bits.Add64", "math/bits.Sub64"], named := ["math/bits.divideError", "math/bits.overflowError"], apart := false, narrowed := true }
def SoftMakesUptoSaid : Prop := softMakesUptoRow.holds Try.pinned (OpenSpec.upto softMakesSpec)

/-- 'bobbinlaw3.SoftSplits', WHERE WHAT IT READS IS OF BULK AT MOST 1048576: true; the input reads as it did. -/
def softSplitsUptoRow : OpenClaim := { program := "ytecgkhijiogggaa", sum := "7aa24fa5d7d8b14a27ab40a0b1e4a5ce49088d898e2345ece7821d04ee0031fc", func := "bobbin/bobbinlaw3.SoftSplits", spec := "softSplits", inPlace := ["math/bits.Add64", "math/bits.Sub64"], named := ["math/bits.divideError", "math/bits.overflowError"], apart := false, narrowed := true }
def SoftSplitsUptoSaid : Prop := softSplitsUptoRow.holds Try.pinned (OpenSpec.upto softSplitsSpec)

/-- 'bobbinlaw3.SoftBack', WHERE WHAT IT READS IS OF BULK AT MOST 1048576: true; the input reads as it did. -/
def softBackUptoRow : OpenClaim := { program := "ytecgkhijiogggaa", sum := "7aa24fa5d7d8b14a27ab40a0b1e4a5ce49088d898e2345ece7821d04ee0031fc", func := "bobbin/bobbinlaw3.SoftBack", spec := "softBack", inPlace := ["math/bits.Add64", "math/bits.Sub64"], unfollowed := true, recurses := true, named := ["math/bits.divideError", "math/bits.overflowError"], apart := false, narrowed := true }
def SoftBackUptoSaid : Prop := softBackUptoRow.holds Try.pinned (OpenSpec.upto softBackSpec)

end Rows
end Go.Proofs.Ytecgkhijiogggaa
