/-
  No cell of these rows narrows 'for every input' (looked for: loops, veiled, ifaces, maps, wideKeys, modest, calm, conditions, laid).
  DERIVED. THE GIVEN ROWS OF THIS SEAT. 8 by the template 'for every input the law returns true; each argument reads behind the call as it read before'; 0 by the template 'total and deterministic' (their statements: YtdelhinfablhjaaTotals.lean).
  GIVEN WITH THE SEED: the statements are not yours to turn. If you find one false, say at which input.
  Laid BY PROGRAM, IN A SANDBOX (cutbox-rows.mjs): the forced cells as the released guide's own fill.sh prints them over the translation 00959d70396b6eb9… (all of the seat's roots in one cut). By AI agents, Wed Nov 11 2026. No macro, syntax, notation, axiom, sorry.
-/
import Derived.Test.YtdelhinfablhjaaChecked
import GoSem.Claim
import GoSem.ClaimJoined
import GoSem.ClaimMapViews
import Derived.JoinedTies
import Derived.KernelRfl
namespace Go.Proofs.Ytdelhinfablhjaa
/- THE CELL 'sum', in the pinned program and in every row, IS THE sha256 OF THE DUMP (.gsa) THAT YtdelhinfablhjaaProg.lean LOADS. Nothing in Lean hashes anything: it is a label: what it is worth is what the hold of that sum in a sandbox is worth. -/
noncomputable def Try.pinned : Pinned := { name := "ytdelhinfablhjaa", sum := "00959d70396b6eb9d99cdf247d0572a928a9043448f6623da6d4524c951b9c8d", checked := Try.checked }
namespace Rows
def none {H : Type} : Left H := { results := [], args := [] }

/-- 'bobbinlaw1.ArithShifts': WHATEVER THE INPUT: true; the input reads as it did. -/
def arithShiftsSpec : ChangeSpec := { name := "arithShifts", fn := fun _ => fun
  | [d1, d2, d3] => { results := [.lit (.bool true)], args := [d1, d2, d3] }
  | _ => none }
def arithShiftsRow : OpenClaim := { program := "ytdelhinfablhjaa", sum := "00959d70396b6eb9d99cdf247d0572a928a9043448f6623da6d4524c951b9c8d", func := "bobbin/bobbinlaw1.ArithShifts", spec := "arithShifts", inPlace := ["math/bits.Sub64"], unfollowed := true, recurses := true, named := ["math/bits.divideError", "math/bits.overflowError"], apart := false }
def ArithShiftsSaid : Prop := arithShiftsRow.holds Try.pinned (OpenSpec.ofChange arithShiftsSpec)

/-- ITS FALSE NEIGHBOUR: 'it returns false'. Refute it at one input. -/
def arithShiftsWrong : ChangeSpec := { name := "arithShifts", fn := fun _ => fun
  | [d1, d2, d3] => { results := [.lit (.bool false)], args := [d1, d2, d3] }
  | _ => none }
def ArithShiftsWrongFalsely : Prop := arithShiftsRow.holds Try.pinned (OpenSpec.ofChange arithShiftsWrong)

/-- 'bobbinlaw1.ArithDivides': WHATEVER THE INPUT: true; the input reads as it did. -/
def arithDividesSpec : ChangeSpec := { name := "arithDivides", fn := fun _ => fun
  | [d1, d2, d3] => { results := [.lit (.bool true)], args := [d1, d2, d3] }
  | _ => none }
def arithDividesRow : OpenClaim := { program := "ytdelhinfablhjaa", sum := "00959d70396b6eb9d99cdf247d0572a928a9043448f6623da6d4524c951b9c8d", func := "bobbin/bobbinlaw1.ArithDivides", spec := "arithDivides", inPlace := ["math/bits.Sub64"], unfollowed := true, recurses := true, named := ["math/bits.divideError", "math/bits.overflowError"], apart := false }
def ArithDividesSaid : Prop := arithDividesRow.holds Try.pinned (OpenSpec.ofChange arithDividesSpec)

/-- ITS FALSE NEIGHBOUR: 'it returns false'. Refute it at one input. -/
def arithDividesWrong : ChangeSpec := { name := "arithDivides", fn := fun _ => fun
  | [d1, d2, d3] => { results := [.lit (.bool false)], args := [d1, d2, d3] }
  | _ => none }
def ArithDividesWrongFalsely : Prop := arithDividesRow.holds Try.pinned (OpenSpec.ofChange arithDividesWrong)

/-- 'bobbinlaw1.ArithDoubles': WHATEVER THE INPUT: true; the input reads as it did. -/
def arithDoublesSpec : ChangeSpec := { name := "arithDoubles", fn := fun _ => fun
  | [d1, d2, d3, d4] => { results := [.lit (.bool true)], args := [d1, d2, d3, d4] }
  | _ => none }
def arithDoublesRow : OpenClaim := { program := "ytdelhinfablhjaa", sum := "00959d70396b6eb9d99cdf247d0572a928a9043448f6623da6d4524c951b9c8d", func := "bobbin/bobbinlaw1.ArithDoubles", spec := "arithDoubles", inPlace := ["math/bits.Add64", "math/bits.Sub64"], unfollowed := true, recurses := true, named := ["math/bits.divideError", "math/bits.overflowError"], apart := false }
def ArithDoublesSaid : Prop := arithDoublesRow.holds Try.pinned (OpenSpec.ofChange arithDoublesSpec)

/-- ITS FALSE NEIGHBOUR: 'it returns false'. Refute it at one input. -/
def arithDoublesWrong : ChangeSpec := { name := "arithDoubles", fn := fun _ => fun
  | [d1, d2, d3, d4] => { results := [.lit (.bool false)], args := [d1, d2, d3, d4] }
  | _ => none }
def ArithDoublesWrongFalsely : Prop := arithDoublesRow.holds Try.pinned (OpenSpec.ofChange arithDoublesWrong)

/-- 'bobbinlaw1.ArithProducts': WHATEVER THE INPUT: true; the input reads as it did. -/
def arithProductsSpec : ChangeSpec := { name := "arithProducts", fn := fun _ => fun
  | [d1, d2] => { results := [.lit (.bool true)], args := [d1, d2] }
  | _ => none }
def arithProductsRow : OpenClaim := { program := "ytdelhinfablhjaa", sum := "00959d70396b6eb9d99cdf247d0572a928a9043448f6623da6d4524c951b9c8d", func := "bobbin/bobbinlaw1.ArithProducts", spec := "arithProducts", inPlace := ["math/bits.Sub64"], unfollowed := true, recurses := true, named := ["math/bits.divideError", "math/bits.overflowError"], apart := false }
def ArithProductsSaid : Prop := arithProductsRow.holds Try.pinned (OpenSpec.ofChange arithProductsSpec)

/-- ITS FALSE NEIGHBOUR: 'it returns false'. Refute it at one input. -/
def arithProductsWrong : ChangeSpec := { name := "arithProducts", fn := fun _ => fun
  | [d1, d2] => { results := [.lit (.bool false)], args := [d1, d2] }
  | _ => none }
def ArithProductsWrongFalsely : Prop := arithProductsRow.holds Try.pinned (OpenSpec.ofChange arithProductsWrong)

/-- 'bobbinlaw1.ArithScales': WHATEVER THE INPUT: true; the input reads as it did. -/
def arithScalesSpec : ChangeSpec := { name := "arithScales", fn := fun _ => fun
  | [d1, d2, d3] => { results := [.lit (.bool true)], args := [d1, d2, d3] }
  | _ => none }
def arithScalesRow : OpenClaim := { program := "ytdelhinfablhjaa", sum := "00959d70396b6eb9d99cdf247d0572a928a9043448f6623da6d4524c951b9c8d", func := "bobbin/bobbinlaw1.ArithScales", spec := "arithScales", inPlace := ["math/bits.Sub64"], unfollowed := true, recurses := true, named := ["math/bits.divideError", "math/bits.overflowError"], apart := false }
def ArithScalesSaid : Prop := arithScalesRow.holds Try.pinned (OpenSpec.ofChange arithScalesSpec)

/-- ITS FALSE NEIGHBOUR: 'it returns false'. Refute it at one input. -/
def arithScalesWrong : ChangeSpec := { name := "arithScales", fn := fun _ => fun
  | [d1, d2, d3] => { results := [.lit (.bool false)], args := [d1, d2, d3] }
  | _ => none }
def ArithScalesWrongFalsely : Prop := arithScalesRow.holds Try.pinned (OpenSpec.ofChange arithScalesWrong)

/-- 'bobbinlaw1.ArithBack': WHATEVER THE INPUT: true; the input reads as it did. -/
def arithBackSpec : ChangeSpec := { name := "arithBack", fn := fun _ => fun
  | [d1, d2, d3] => { results := [.lit (.bool true)], args := [d1, d2, d3] }
  | _ => none }
def arithBackRow : OpenClaim := { program := "ytdelhinfablhjaa", sum := "00959d70396b6eb9d99cdf247d0572a928a9043448f6623da6d4524c951b9c8d", func := "bobbin/bobbinlaw1.ArithBack", spec := "arithBack", inPlace := ["math/bits.Sub64", "math/bits.Add64"], unfollowed := true, recurses := true, named := ["math/bits.divideError", "math/bits.overflowError"], apart := false }
def ArithBackSaid : Prop := arithBackRow.holds Try.pinned (OpenSpec.ofChange arithBackSpec)

/-- ITS FALSE NEIGHBOUR: 'it returns false'. Refute it at one input. -/
def arithBackWrong : ChangeSpec := { name := "arithBack", fn := fun _ => fun
  | [d1, d2, d3] => { results := [.lit (.bool false)], args := [d1, d2, d3] }
  | _ => none }
def ArithBackWrongFalsely : Prop := arithBackRow.holds Try.pinned (OpenSpec.ofChange arithBackWrong)

/-- 'bobbinlaw1.ArithLaws': WHATEVER THE INPUT: true; the input reads as it did. -/
def arithLawsSpec : ChangeSpec := { name := "arithLaws", fn := fun _ => fun
  | [d1, d2, d3, d4, d5, d6] => { results := [.lit (.bool true)], args := [d1, d2, d3, d4, d5, d6] }
  | _ => none }
def arithLawsRow : OpenClaim := { program := "ytdelhinfablhjaa", sum := "00959d70396b6eb9d99cdf247d0572a928a9043448f6623da6d4524c951b9c8d", func := "bobbin/bobbinlaw1.ArithLaws", spec := "arithLaws", inPlace := ["math/bits.Add64", "math/bits.Sub64"], unfollowed := true, recurses := true, named := ["math/bits.divideError", "math/bits.overflowError"], apart := false }
def ArithLawsSaid : Prop := arithLawsRow.holds Try.pinned (OpenSpec.ofChange arithLawsSpec)

/-- ITS FALSE NEIGHBOUR: 'it returns false'. Refute it at one input. -/
def arithLawsWrong : ChangeSpec := { name := "arithLaws", fn := fun _ => fun
  | [d1, d2, d3, d4, d5, d6] => { results := [.lit (.bool false)], args := [d1, d2, d3, d4, d5, d6] }
  | _ => none }
def ArithLawsWrongFalsely : Prop := arithLawsRow.holds Try.pinned (OpenSpec.ofChange arithLawsWrong)

/-- 'bobbinlaw1.ArithTriples': WHATEVER THE INPUT: true; the input reads as it did. -/
def arithTriplesSpec : ChangeSpec := { name := "arithTriples", fn := fun _ => fun
  | [d1, d2, d3, d4] => { results := [.lit (.bool true)], args := [d1, d2, d3, d4] }
  | _ => none }
def arithTriplesRow : OpenClaim := { program := "ytdelhinfablhjaa", sum := "00959d70396b6eb9d99cdf247d0572a928a9043448f6623da6d4524c951b9c8d", func := "bobbin/bobbinlaw1.ArithTriples", spec := "arithTriples", inPlace := ["math/bits.Sub64", "math/bits.Add64"], unfollowed := true, recurses := true, named := ["math/bits.divideError", "math/bits.overflowError"], apart := false }
def ArithTriplesSaid : Prop := arithTriplesRow.holds Try.pinned (OpenSpec.ofChange arithTriplesSpec)

/-- ITS FALSE NEIGHBOUR: 'it returns false'. Refute it at one input. -/
def arithTriplesWrong : ChangeSpec := { name := "arithTriples", fn := fun _ => fun
  | [d1, d2, d3, d4] => { results := [.lit (.bool false)], args := [d1, d2, d3, d4] }
  | _ => none }
def ArithTriplesWrongFalsely : Prop := arithTriplesRow.holds Try.pinned (OpenSpec.ofChange arithTriplesWrong)

/- THE SECOND FORM. 'bulk': how many values and letters a reading holds, each counted each time it is reached (what is shared counts as often as it is met; a slice's spare places count too). A statement '..UptoSaid' is the law's where the arguments, and the package variables that the reading takes, are together of bulk at most 1048576: NARROWER than '..Said'. Prove '..Said' where nothing that the law and all that it calls make is longer than what came in: it says more and counts as full. Else prove '..UptoSaid'. A law counts once. -/
mutual
def uptoBulk {H : Type} : DataW H → Nat
  | .lit (.string bytes) => bytes.length + 1
  | .lit _ => 1
  | .nil => 1
  | .ptr d => uptoBulk d + 1
  | .slice elems spare => uptoBulkAll elems + uptoBulkAll spare + 1
  | .agg parts => uptoBulkAll parts + 1
  | .iface _ d => uptoBulk d + 1
  | .map entries => uptoBulkEntries entries + 1
  | .held _ => 1
def uptoBulkAll {H : Type} : List (DataW H) → Nat
  | [] => 0
  | d :: r => uptoBulk d + uptoBulkAll r
def uptoBulkEntries {H : Type} : List (Lit × DataW H) → Nat
  | [] => 0
  | x :: r => uptoBulkEntry x + uptoBulkEntries r
def uptoBulkEntry {H : Type} : Lit × DataW H → Nat
  | (.string bytes, d) => bytes.length + uptoBulk d + 1
  | (_, d) => uptoBulk d + 1
 end
def uptoSmall : (H : Type) → List (DataW H) → Bool := fun _ ds => decide (uptoBulkAll ds ≤ 1048576)
def OpenSpec.upto (s : _root_.Go.ChangeSpec) : _root_.Go.OpenSpec := { _root_.Go.OpenSpec.ofChange s with cond := some uptoSmall }

/-- 'bobbinlaw1.ArithShifts', WHERE WHAT IT READS IS OF BULK AT MOST 1048576: true; the input reads as it did. -/
def arithShiftsUptoRow : OpenClaim := { program := "ytdelhinfablhjaa", sum := "00959d70396b6eb9d99cdf247d0572a928a9043448f6623da6d4524c951b9c8d", func := "bobbin/bobbinlaw1.ArithShifts", spec := "arithShifts", inPlace := ["math/bits.Sub64"], unfollowed := true, recurses := true, named := ["math/bits.divideError", "math/bits.overflowError"], apart := false, narrowed := true }
def ArithShiftsUptoSaid : Prop := arithShiftsUptoRow.holds Try.pinned (OpenSpec.upto arithShiftsSpec)

/-- 'bobbinlaw1.ArithDivides', WHERE WHAT IT READS IS OF BULK AT MOST 1048576: true; the input reads as it did. -/
def arithDividesUptoRow : OpenClaim := { program := "ytdelhinfablhjaa", sum := "00959d70396b6eb9d99cdf247d0572a928a9043448f6623da6d4524c951b9c8d", func := "bobbin/bobbinlaw1.ArithDivides", spec := "arithDivides", inPlace := ["math/bits.Sub64"], unfollowed := true, recurses := true, named := ["math/bits.divideError", "math/bits.overflowError"], apart := false, narrowed := true }
def ArithDividesUptoSaid : Prop := arithDividesUptoRow.holds Try.pinned (OpenSpec.upto arithDividesSpec)

/-- 'bobbinlaw1.ArithDoubles', WHERE WHAT IT READS IS OF BULK AT MOST 1048576: true; the input reads as it did. -/
def arithDoublesUptoRow : OpenClaim := { program := "ytdelhinfablhjaa", sum := "00959d70396b6eb9d99cdf247d0572a928a9043448f6623da6d4524c951b9c8d", func := "bobbin/bobbinlaw1.ArithDoubles", spec := "arithDoubles", inPlace := ["math/bits.Add64", "math/bits.Sub64"], unfollowed := true, recurses := true, named := ["math/bits.divideError", "math/bits.overflowError"], apart := false, narrowed := true }
def ArithDoublesUptoSaid : Prop := arithDoublesUptoRow.holds Try.pinned (OpenSpec.upto arithDoublesSpec)

/-- 'bobbinlaw1.ArithProducts', WHERE WHAT IT READS IS OF BULK AT MOST 1048576: true; the input reads as it did. -/
def arithProductsUptoRow : OpenClaim := { program := "ytdelhinfablhjaa", sum := "00959d70396b6eb9d99cdf247d0572a928a9043448f6623da6d4524c951b9c8d", func := "bobbin/bobbinlaw1.ArithProducts", spec := "arithProducts", inPlace := ["math/bits.Sub64"], unfollowed := true, recurses := true, named := ["math/bits.divideError", "math/bits.overflowError"], apart := false, narrowed := true }
def ArithProductsUptoSaid : Prop := arithProductsUptoRow.holds Try.pinned (OpenSpec.upto arithProductsSpec)

/-- 'bobbinlaw1.ArithScales', WHERE WHAT IT READS IS OF BULK AT MOST 1048576: true; the input reads as it did. -/
def arithScalesUptoRow : OpenClaim := { program := "ytdelhinfablhjaa", sum := "00959d70396b6eb9d99cdf247d0572a928a9043448f6623da6d4524c951b9c8d", func := "bobbin/bobbinlaw1.ArithScales", spec := "arithScales", inPlace := ["math/bits.Sub64"], unfollowed := true, recurses := true, named := ["math/bits.divideError", "math/bits.overflowError"], apart := false, narrowed := true }
def ArithScalesUptoSaid : Prop := arithScalesUptoRow.holds Try.pinned (OpenSpec.upto arithScalesSpec)

/-- 'bobbinlaw1.ArithBack', WHERE WHAT IT READS IS OF BULK AT MOST 1048576: true; the input reads as it did. -/
def arithBackUptoRow : OpenClaim := { program := "ytdelhinfablhjaa", sum := "00959d70396b6eb9d99cdf247d0572a928a9043448f6623da6d4524c951b9c8d", func := "bobbin/bobbinlaw1.ArithBack", spec := "arithBack", inPlace := ["math/bits.Sub64", "math/bits.Add64"], unfollowed := true, recurses := true, named := ["math/bits.divideError", "math/bits.overflowError"], apart := false, narrowed := true }
def ArithBackUptoSaid : Prop := arithBackUptoRow.holds Try.pinned (OpenSpec.upto arithBackSpec)

/-- 'bobbinlaw1.ArithLaws', WHERE WHAT IT READS IS OF BULK AT MOST 1048576: true; the input reads as it did. -/
def arithLawsUptoRow : OpenClaim := { program := "ytdelhinfablhjaa", sum := "00959d70396b6eb9d99cdf247d0572a928a9043448f6623da6d4524c951b9c8d", func := "bobbin/bobbinlaw1.ArithLaws", spec := "arithLaws", inPlace := ["math/bits.Add64", "math/bits.Sub64"], unfollowed := true, recurses := true, named := ["math/bits.divideError", "math/bits.overflowError"], apart := false, narrowed := true }
def ArithLawsUptoSaid : Prop := arithLawsUptoRow.holds Try.pinned (OpenSpec.upto arithLawsSpec)

/-- 'bobbinlaw1.ArithTriples', WHERE WHAT IT READS IS OF BULK AT MOST 1048576: true; the input reads as it did. -/
def arithTriplesUptoRow : OpenClaim := { program := "ytdelhinfablhjaa", sum := "00959d70396b6eb9d99cdf247d0572a928a9043448f6623da6d4524c951b9c8d", func := "bobbin/bobbinlaw1.ArithTriples", spec := "arithTriples", inPlace := ["math/bits.Sub64", "math/bits.Add64"], unfollowed := true, recurses := true, named := ["math/bits.divideError", "math/bits.overflowError"], apart := false, narrowed := true }
def ArithTriplesUptoSaid : Prop := arithTriplesUptoRow.holds Try.pinned (OpenSpec.upto arithTriplesSpec)

end Rows
end Go.Proofs.Ytdelhinfablhjaa
