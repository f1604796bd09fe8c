/-
  No cell of these rows narrows 'for every input' (looked for: loops, veiled, ifaces, maps, wideKeys, modest, calm, conditions, laid).
  DERIVED. THE GIVEN ROWS OF THIS SEAT. 6 by the template 'for every input the law returns true; each argument reads behind the call as it read before'; 0 by the template 'total and deterministic' (their statements: YtjioombinbngpaaTotals.lean).
  GIVEN WITH THE SEED: the statements are not yours to turn. If you find one false, say at which input.
  Laid BY PROGRAM, IN A SANDBOX (cutbox-rows.mjs): the forced cells as the released guide's own fill.sh prints them over the translation 7117fc37451116ca… (all of the seat's roots in one cut). By AI agents, Wed Nov 11 2026. No macro, syntax, notation, axiom, sorry.
-/
import Derived.Test.YtjioombinbngpaaChecked
import GoSem.Claim
import GoSem.ClaimJoined
import GoSem.ClaimMapViews
import Derived.JoinedTies
import Derived.KernelRfl
namespace Go.Proofs.Ytjioombinbngpaa
/- THE CELL 'sum', in the pinned program and in every row, IS THE sha256 OF THE DUMP (.gsa) THAT YtjioombinbngpaaProg.lean LOADS. Nothing in Lean hashes anything: it is a label: what it is worth is what the hold of that sum in a sandbox is worth. -/
noncomputable def Try.pinned : Pinned := { name := "ytjioombinbngpaa", sum := "7117fc37451116ca3c160054b908d77b843697fec1cfeb3af6d100d66213095c", checked := Try.checked }
namespace Rows
def none {H : Type} : Left H := { results := [], args := [] }

/-- 'bobbinlaw8.DigitsParse': WHATEVER THE INPUT: true; the input reads as it did. -/
def digitsParseSpec : ChangeSpec := { name := "digitsParse", fn := fun _ => fun
  | [d1, d2] => { results := [.lit (.bool true)], args := [d1, d2] }
  | _ => none }
def digitsParseRow : OpenClaim := { program := "ytjioombinbngpaa", sum := "7117fc37451116ca3c160054b908d77b843697fec1cfeb3af6d100d66213095c", func := "bobbin/bobbinlaw8.DigitsParse", spec := "digitsParse", inPlace := ["math/bits.Add64", "math/bits.Sub64"], named := ["math/bits.divideError", "math/bits.overflowError"], apart := false }
def DigitsParseSaid : Prop := digitsParseRow.holds Try.pinned (OpenSpec.ofChange digitsParseSpec)

/-- ITS FALSE NEIGHBOUR: 'it returns false'. Refute it at one input. -/
def digitsParseWrong : ChangeSpec := { name := "digitsParse", fn := fun _ => fun
  | [d1, d2] => { results := [.lit (.bool false)], args := [d1, d2] }
  | _ => none }
def DigitsParseWrongFalsely : Prop := digitsParseRow.holds Try.pinned (OpenSpec.ofChange digitsParseWrong)

/-- 'bobbinlaw8.DigitsMore': WHATEVER THE INPUT: true; the input reads as it did. -/
def digitsMoreSpec : ChangeSpec := { name := "digitsMore", fn := fun _ => fun
  | [d1, d2, d3, d4] => { results := [.lit (.bool true)], args := [d1, d2, d3, d4] }
  | _ => none }
def digitsMoreRow : OpenClaim := { program := "ytjioombinbngpaa", sum := "7117fc37451116ca3c160054b908d77b843697fec1cfeb3af6d100d66213095c", func := "bobbin/bobbinlaw8.DigitsMore", spec := "digitsMore", inPlace := ["math/bits.Add64", "math/bits.Sub64"], named := ["math/bits.divideError", "math/bits.overflowError"], apart := false }
def DigitsMoreSaid : Prop := digitsMoreRow.holds Try.pinned (OpenSpec.ofChange digitsMoreSpec)

/-- ITS FALSE NEIGHBOUR: 'it returns false'. Refute it at one input. -/
def digitsMoreWrong : ChangeSpec := { name := "digitsMore", fn := fun _ => fun
  | [d1, d2, d3, d4] => { results := [.lit (.bool false)], args := [d1, d2, d3, d4] }
  | _ => none }
def DigitsMoreWrongFalsely : Prop := digitsMoreRow.holds Try.pinned (OpenSpec.ofChange digitsMoreWrong)

/-- 'bobbinlaw8.DigitsValue': WHATEVER THE INPUT: true; the input reads as it did. -/
def digitsValueSpec : ChangeSpec := { name := "digitsValue", fn := fun _ => fun
  | [d1, d2] => { results := [.lit (.bool true)], args := [d1, d2] }
  | _ => none }
def digitsValueRow : OpenClaim := { program := "ytjioombinbngpaa", sum := "7117fc37451116ca3c160054b908d77b843697fec1cfeb3af6d100d66213095c", func := "bobbin/bobbinlaw8.DigitsValue", spec := "digitsValue", inPlace := ["math/bits.Add64", "math/bits.Sub64"], named := ["math/bits.divideError", "math/bits.overflowError"], apart := false }
def DigitsValueSaid : Prop := digitsValueRow.holds Try.pinned (OpenSpec.ofChange digitsValueSpec)

/-- ITS FALSE NEIGHBOUR: 'it returns false'. Refute it at one input. -/
def digitsValueWrong : ChangeSpec := { name := "digitsValue", fn := fun _ => fun
  | [d1, d2] => { results := [.lit (.bool false)], args := [d1, d2] }
  | _ => none }
def DigitsValueWrongFalsely : Prop := digitsValueRow.holds Try.pinned (OpenSpec.ofChange digitsValueWrong)

/-- 'bobbinlaw8.DigitsText': WHATEVER THE INPUT: true; the input reads as it did. -/
def digitsTextSpec : ChangeSpec := { name := "digitsText", fn := fun _ => fun
  | [d1, d2, d3] => { results := [.lit (.bool true)], args := [d1, d2, d3] }
  | _ => none }
def digitsTextRow : OpenClaim := { program := "ytjioombinbngpaa", sum := "7117fc37451116ca3c160054b908d77b843697fec1cfeb3af6d100d66213095c", func := "bobbin/bobbinlaw8.DigitsText", spec := "digitsText", inPlace := ["math/bits.Add64", "math/bits.Sub64"], named := ["math/bits.divideError", "math/bits.overflowError"], apart := false }
def DigitsTextSaid : Prop := digitsTextRow.holds Try.pinned (OpenSpec.ofChange digitsTextSpec)

/-- ITS FALSE NEIGHBOUR: 'it returns false'. Refute it at one input. -/
def digitsTextWrong : ChangeSpec := { name := "digitsText", fn := fun _ => fun
  | [d1, d2, d3] => { results := [.lit (.bool false)], args := [d1, d2, d3] }
  | _ => none }
def DigitsTextWrongFalsely : Prop := digitsTextRow.holds Try.pinned (OpenSpec.ofChange digitsTextWrong)

/-- 'bobbinlaw8.DigitsBack': WHATEVER THE INPUT: true; the input reads as it did. -/
def digitsBackSpec : ChangeSpec := { name := "digitsBack", fn := fun _ => fun
  | [d1, d2, d3] => { results := [.lit (.bool true)], args := [d1, d2, d3] }
  | _ => none }
def digitsBackRow : OpenClaim := { program := "ytjioombinbngpaa", sum := "7117fc37451116ca3c160054b908d77b843697fec1cfeb3af6d100d66213095c", func := "bobbin/bobbinlaw8.DigitsBack", spec := "digitsBack", inPlace := ["math/bits.Add64", "math/bits.Sub64"], named := ["math/bits.divideError", "math/bits.overflowError"], apart := false }
def DigitsBackSaid : Prop := digitsBackRow.holds Try.pinned (OpenSpec.ofChange digitsBackSpec)

/-- ITS FALSE NEIGHBOUR: 'it returns false'. Refute it at one input. -/
def digitsBackWrong : ChangeSpec := { name := "digitsBack", fn := fun _ => fun
  | [d1, d2, d3] => { results := [.lit (.bool false)], args := [d1, d2, d3] }
  | _ => none }
def DigitsBackWrongFalsely : Prop := digitsBackRow.holds Try.pinned (OpenSpec.ofChange digitsBackWrong)

/-- 'bobbinlaw8.DigitsSteps': WHATEVER THE INPUT: true; the input reads as it did. -/
def digitsStepsSpec : ChangeSpec := { name := "digitsSteps", fn := fun _ => fun
  | [d1, d2, d3, d4, d5] => { results := [.lit (.bool true)], args := [d1, d2, d3, d4, d5] }
  | _ => none }
def digitsStepsRow : OpenClaim := { program := "ytjioombinbngpaa", sum := "7117fc37451116ca3c160054b908d77b843697fec1cfeb3af6d100d66213095c", func := "bobbin/bobbinlaw8.DigitsSteps", spec := "digitsSteps", inPlace := ["math/bits.Add64", "math/bits.Sub64"], named := ["math/bits.divideError", "math/bits.overflowError"], apart := false }
def DigitsStepsSaid : Prop := digitsStepsRow.holds Try.pinned (OpenSpec.ofChange digitsStepsSpec)

/-- ITS FALSE NEIGHBOUR: 'it returns false'. Refute it at one input. -/
def digitsStepsWrong : ChangeSpec := { name := "digitsSteps", fn := fun _ => fun
  | [d1, d2, d3, d4, d5] => { results := [.lit (.bool false)], args := [d1, d2, d3, d4, d5] }
  | _ => none }
def DigitsStepsWrongFalsely : Prop := digitsStepsRow.holds Try.pinned (OpenSpec.ofChange digitsStepsWrong)

/- THE SECOND FORM. 'bulk': how many values and letters a reading holds, each counted each time it is reached (what is shared counts as often as it is met; a slice's spare places count too). A statement '..UptoSaid' is the law's where the arguments, and the package variables that the reading takes, are together of bulk at most 1048576: NARROWER than '..Said'. Prove '..Said' where nothing that the law and all that it calls make is longer than what came in: it says more and counts as full. Else prove '..UptoSaid'. A law counts once. -/
mutual
def uptoBulk {H : Type} : DataW H → Nat
  | .lit (.string bytes) => bytes.length + 1
  | .lit _ => 1
  | .nil => 1
  | .ptr d => uptoBulk d + 1
  | .slice elems spare => uptoBulkAll elems + uptoBulkAll spare + 1
  | .agg parts => uptoBulkAll parts + 1
  | .iface _ d => uptoBulk d + 1
  | .map entries => uptoBulkEntries entries + 1
  | .held _ => 1
def uptoBulkAll {H : Type} : List (DataW H) → Nat
  | [] => 0
  | d :: r => uptoBulk d + uptoBulkAll r
def uptoBulkEntries {H : Type} : List (Lit × DataW H) → Nat
  | [] => 0
  | x :: r => uptoBulkEntry x + uptoBulkEntries r
def uptoBulkEntry {H : Type} : Lit × DataW H → Nat
  | (.string bytes, d) => bytes.length + uptoBulk d + 1
  | (_, d) => uptoBulk d + 1
 end
def uptoSmall : (H : Type) → List (DataW H) → Bool := fun _ ds => decide (uptoBulkAll ds ≤ 1048576)
def OpenSpec.upto (s : _root_.Go.ChangeSpec) : _root_.Go.OpenSpec := { _root_.Go.OpenSpec.ofChange s with cond := some uptoSmall }

/-- 'bobbinlaw8.DigitsParse', WHERE WHAT IT READS IS OF BULK AT MOST 1048576: true; the input reads as it did. -/
def digitsParseUptoRow : OpenClaim := { program := "ytjioombinbngpaa", sum := "7117fc37451116ca3c160054b908d77b843697fec1cfeb3af6d100d66213095c", func := "bobbin/bobbinlaw8.DigitsParse", spec := "digitsParse", inPlace := ["math/bits.Add64", "math/bits.Sub64"], named := ["math/bits.divideError", "math/bits.overflowError"], apart := false, narrowed := true }
def DigitsParseUptoSaid : Prop := digitsParseUptoRow.holds Try.pinned (OpenSpec.upto digitsParseSpec)

/-- 'bobbinlaw8.DigitsMore', WHERE WHAT IT READS IS OF BULK AT MOST 1048576: true; the input reads as it did. -/
def digitsMoreUptoRow : OpenClaim := { program := "ytjioombinbngpaa", sum := "7117fc37451116ca3c160054b908d77b843697fec1cfeb3af6d100d66213095c", func := "bobbin/bobbinlaw8.DigitsMore", spec := "digitsMore", inPlace := ["math/bits.Add64", "math/bits.Sub64"], named := ["math/bits.divideError", "math/bits.overflowError"], apart := false, narrowed := true }
def DigitsMoreUptoSaid : Prop := digitsMoreUptoRow.holds Try.pinned (OpenSpec.upto digitsMoreSpec)

/-- 'bobbinlaw8.DigitsValue', WHERE WHAT IT READS IS OF BULK AT MOST 1048576: true; the input reads as it did. -/
def digitsValueUptoRow : OpenClaim := { program := "ytjioombinbngpaa", sum := "7117fc37451116ca3c160054b908d77b843697fec1cfeb3af6d100d66213095c", func := "bobbin/bobbinlaw8.DigitsValue", spec := "digitsValue", inPlace := ["math/bits.Add64", "math/bits.Sub64"], named := ["math/bits.divideError", "math/bits.overflowError"], apart := false, narrowed := true }
def DigitsValueUptoSaid : Prop := digitsValueUptoRow.holds Try.pinned (OpenSpec.upto digitsValueSpec)

/-- 'bobbinlaw8.DigitsText', WHERE WHAT IT READS IS OF BULK AT MOST 1048576: true; the input reads as it did. -/
def digitsTextUptoRow : OpenClaim := { program := "ytjioombinbngpaa", sum := "7117fc37451116ca3c160054b908d77b843697fec1cfeb3af6d100d66213095c", func := "bobbin/bobbinlaw8.DigitsText", spec := "digitsText", inPlace := ["math/bits.Add64", "math/bits.Sub64"], named := ["math/bits.divideError", "math/bits.overflowError"], apart := false, narrowed := true }
def DigitsTextUptoSaid : Prop := digitsTextUptoRow.holds Try.pinned (OpenSpec.upto digitsTextSpec)

/-- 'bobbinlaw8.DigitsBack', WHERE WHAT IT READS IS OF BULK AT MOST 1048576: true; the input reads as it did. -/
def digitsBackUptoRow : OpenClaim := { program := "ytjioombinbngpaa", sum := "7117fc37451116ca3c160054b908d77b843697fec1cfeb3af6d100d66213095c", func := "bobbin/bobbinlaw8.DigitsBack", spec := "digitsBack", inPlace := ["math/bits.Add64", "math/bits.Sub64"], named := ["math/bits.divideError", "math/bits.overflowError"], apart := false, narrowed := true }
def DigitsBackUptoSaid : Prop := digitsBackUptoRow.holds Try.pinned (OpenSpec.upto digitsBackSpec)

/-- 'bobbinlaw8.DigitsSteps', WHERE WHAT IT READS IS OF BULK AT MOST 1048576: true; the input reads as it did. -/
def digitsStepsUptoRow : OpenClaim := { program := "ytjioombinbngpaa", sum := "7117fc37451116ca3c160054b908d77b843697fec1cfeb3af6d100d66213095c", func := "bobbin/bobbinlaw8.DigitsSteps", spec := "digitsSteps", inPlace := ["math/bits.Add64", "math/bits.Sub64"], named := ["math/bits.divideError", "math/bits.overflowError"], apart := false, narrowed := true }
def DigitsStepsUptoSaid : Prop := digitsStepsUptoRow.holds Try.pinned (OpenSpec.upto digitsStepsSpec)

end Rows
end Go.Proofs.Ytjioombinbngpaa
