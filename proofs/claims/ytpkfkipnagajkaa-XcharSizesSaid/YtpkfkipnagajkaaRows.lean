/-
  No cell of these rows narrows 'for every input' (looked for: loops, veiled, ifaces, maps, wideKeys, modest, calm, conditions, laid).
  DERIVED. THE GIVEN ROWS OF THIS SEAT. 2 by the template 'for every input the law returns true; each argument reads behind the call as it read before'; 0 by the template 'total and deterministic' (their statements: YtpkfkipnagajkaaTotals.lean).
  GIVEN WITH THE SEED: the statements are not yours to turn. If you find one false, say at which input.
  Laid BY PROGRAM, IN A SANDBOX (cutbox-rows.mjs): the forced cells as the released guide's own fill.sh prints them over the translation 9f79973fd4e37cf5… (all of the seat's roots in one cut). By AI agents, Wed Nov 11 2026. No macro, syntax, notation, axiom, sorry.
-/
import Derived.Test.YtpkfkipnagajkaaChecked
import GoSem.Claim
import GoSem.ClaimJoined
import GoSem.ClaimMapViews
import Derived.JoinedTies
import Derived.KernelRfl
namespace Go.Proofs.Ytpkfkipnagajkaa
/- THE CELL 'sum', in the pinned program and in every row, IS THE sha256 OF THE DUMP (.gsa) THAT YtpkfkipnagajkaaProg.lean LOADS. Nothing in Lean hashes anything: it is a label: what it is worth is what the hold of that sum in a sandbox is worth. -/
noncomputable def Try.pinned : Pinned := { name := "ytpkfkipnagajkaa", sum := "9f79973fd4e37cf5a4d84816c6e8cc96137a14d648dc542b40bbac438c77c44f", checked := Try.checked }
namespace Rows
def none {H : Type} : Left H := { results := [], args := [] }

/-- 'bobbinlaw6.XcharEncodes': WHATEVER THE INPUT: true; the input reads as it did. -/
def xcharEncodesSpec : ChangeSpec := { name := "xcharEncodes", fn := fun _ => fun
  | [d] => { results := [.lit (.bool true)], args := [d] }
  | _ => none }
def xcharEncodesRow : OpenClaim := { program := "ytpkfkipnagajkaa", sum := "9f79973fd4e37cf5a4d84816c6e8cc96137a14d648dc542b40bbac438c77c44f", func := "bobbin/bobbinlaw6.XcharEncodes", spec := "xcharEncodes", apart := false }
def XcharEncodesSaid : Prop := xcharEncodesRow.holds Try.pinned (OpenSpec.ofChange xcharEncodesSpec)

/-- ITS FALSE NEIGHBOUR: 'it returns false'. Refute it at one input. -/
def xcharEncodesWrong : ChangeSpec := { name := "xcharEncodes", fn := fun _ => fun
  | [d] => { results := [.lit (.bool false)], args := [d] }
  | _ => none }
def XcharEncodesWrongFalsely : Prop := xcharEncodesRow.holds Try.pinned (OpenSpec.ofChange xcharEncodesWrong)

/-- 'bobbinlaw6.XcharSizes': WHATEVER THE INPUT: true; the input reads as it did. -/
def xcharSizesSpec : ChangeSpec := { name := "xcharSizes", fn := fun _ => fun
  | [d] => { results := [.lit (.bool true)], args := [d] }
  | _ => none }
def xcharSizesRow : OpenClaim := { program := "ytpkfkipnagajkaa", sum := "9f79973fd4e37cf5a4d84816c6e8cc96137a14d648dc542b40bbac438c77c44f", func := "bobbin/bobbinlaw6.XcharSizes", spec := "xcharSizes", apart := false }
def XcharSizesSaid : Prop := xcharSizesRow.holds Try.pinned (OpenSpec.ofChange xcharSizesSpec)

/-- ITS FALSE NEIGHBOUR: 'it returns false'. Refute it at one input. -/
def xcharSizesWrong : ChangeSpec := { name := "xcharSizes", fn := fun _ => fun
  | [d] => { results := [.lit (.bool false)], args := [d] }
  | _ => none }
def XcharSizesWrongFalsely : Prop := xcharSizesRow.holds Try.pinned (OpenSpec.ofChange xcharSizesWrong)

/- THE SECOND FORM. 'bulk': how many values and letters a reading holds, each counted each time it is reached (what is shared counts as often as it is met; a slice's spare places count too). A statement '..UptoSaid' is the law's where the arguments, and the package variables that the reading takes, are together of bulk at most 1048576: NARROWER than '..Said'. Prove '..Said' where nothing that the law and all that it calls make is longer than what came in: it says more and counts as full. Else prove '..UptoSaid'. A law counts once. -/
mutual
def uptoBulk {H : Type} : DataW H → Nat
  | .lit (.string bytes) => bytes.length + 1
  | .lit _ => 1
  | .nil => 1
  | .ptr d => uptoBulk d + 1
  | .slice elems spare => uptoBulkAll elems + uptoBulkAll spare + 1
  | .agg parts => uptoBulkAll parts + 1
  | .iface _ d => uptoBulk d + 1
  | .map entries => uptoBulkEntries entries + 1
  | .held _ => 1
def uptoBulkAll {H : Type} : List (DataW H) → Nat
  | [] => 0
  | d :: r => uptoBulk d + uptoBulkAll r
def uptoBulkEntries {H : Type} : List (Lit × DataW H) → Nat
  | [] => 0
  | x :: r => uptoBulkEntry x + uptoBulkEntries r
def uptoBulkEntry {H : Type} : Lit × DataW H → Nat
  | (.string bytes, d) => bytes.length + uptoBulk d + 1
  | (_, d) => uptoBulk d + 1
 end
def uptoSmall : (H : Type) → List (DataW H) → Bool := fun _ ds => decide (uptoBulkAll ds ≤ 1048576)
def OpenSpec.upto (s : _root_.Go.ChangeSpec) : _root_.Go.OpenSpec := { _root_.Go.OpenSpec.ofChange s with cond := some uptoSmall }

/-- 'bobbinlaw6.XcharEncodes', WHERE WHAT IT READS IS OF BULK AT MOST 1048576: true; the input reads as it did. -/
def xcharEncodesUptoRow : OpenClaim := { program := "ytpkfkipnagajkaa", sum := "9f79973fd4e37cf5a4d84816c6e8cc96137a14d648dc542b40bbac438c77c44f", func := "bobbin/bobbinlaw6.XcharEncodes", spec := "xcharEncodes", apart := false, narrowed := true }
def XcharEncodesUptoSaid : Prop := xcharEncodesUptoRow.holds Try.pinned (OpenSpec.upto xcharEncodesSpec)

/-- 'bobbinlaw6.XcharSizes', WHERE WHAT IT READS IS OF BULK AT MOST 1048576: true; the input reads as it did. -/
def xcharSizesUptoRow : OpenClaim := { program := "ytpkfkipnagajkaa", sum := "9f79973fd4e37cf5a4d84816c6e8cc96137a14d648dc542b40bbac438c77c44f", func := "bobbin/bobbinlaw6.XcharSizes", spec := "xcharSizes", apart := false, narrowed := true }
def XcharSizesUptoSaid : Prop := xcharSizesUptoRow.holds Try.pinned (OpenSpec.upto xcharSizesSpec)

end Rows
end Go.Proofs.Ytpkfkipnagajkaa
