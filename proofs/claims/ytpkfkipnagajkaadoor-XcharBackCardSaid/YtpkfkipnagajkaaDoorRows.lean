/-
  NARROWER THAN 'FOR EVERY INPUT', by the rows' own cells (each row's printed sentence says how): XcharDecodes: laid · XcharEnds: laid · XcharGarbage: laid · XcharBack: laid.
  DERIVED. THE GIVEN ROWS OF THIS SEAT. 4 by the template 'for every input the law returns true; each argument reads behind the call as it read before'; 0 by the template 'total and deterministic' (their statements: YtpkfkipnagajkaaDoorTotals.lean).
  GIVEN WITH THE SEED: the statements are not yours to turn. If you find one false, say at which input.
  Laid BY PROGRAM, IN A SANDBOX (cutbox-rows.mjs): the forced cells as the released guide's own fill.sh prints them over the translation 055e5d524dc6ac1f… (all of the seat's roots in one cut). By AI agents, Wed Nov 11 2026. No macro, syntax, notation, axiom, sorry.
-/
import Derived.Test.YtpkfkipnagajkaaDoorChecked
import GoSem.PinnedTables
import GoSem.Claim
import GoSem.ClaimJoined
import GoSem.ClaimMapViews
import Derived.JoinedTies
import Derived.KernelRfl
namespace Go.Proofs.YtpkfkipnagajkaaDoor
/- THE CELL 'sum', in the pinned program and in every row, IS THE sha256 OF THE DUMP (.gsa) THAT YtpkfkipnagajkaaDoorProg.lean LOADS. Nothing in Lean hashes anything: it is a label: what it is worth is what the hold of that sum in a sandbox is worth. -/
noncomputable def Tryd.pinned : Pinned := { name := "ytpkfkipnagajkaadoor", sum := "055e5d524dc6ac1f570c2554dc5a9be18b449d87cd4d3ce52c8ed29d6318e7be", checked := Tryd.checked }
namespace Rows
def none {H : Type} : Left H := { results := [], args := [] }

/- WHAT THE LISTED PACKAGE-LEVEL VARIABLES READ AS WHEN THE CALL BEGINS. Each datum BY PROGRAM (the guide's laid-datum.mjs) off the statement by which the dump's own 'gosem.cut.vars' lays the variable. In a bare row this is a premise. The card (YtpkfkipnagajkaaDoorCards.lean) ties it to the program's text. -/
def laid_unicode_utf8_acceptRanges {H : Type} : DataW H := .agg [.agg [.lit (.int .u8 128), .lit (.int .u8 191)], .agg [.lit (.int .u8 160), .lit (.int .u8 191)], .agg [.lit (.int .u8 128), .lit (.int .u8 159)], .agg [.lit (.int .u8 144), .lit (.int .u8 191)], .agg [.lit (.int .u8 128), .lit (.int .u8 143)], .agg [.lit (.int .u8 0), .lit (.int .u8 0)], .agg [.lit (.int .u8 0), .lit (.int .u8 0)], .agg [.lit (.int .u8 0), .lit (.int .u8 0)], .agg [.lit (.int .u8 0), .lit (.int .u8 0)], .agg [.lit (.int .u8 0), .lit (.int .u8 0)], .agg [.lit (.int .u8 0), .lit (.int .u8 0)], .agg [.lit (.int .u8 0), .lit (.int .u8 0)], .agg [.lit (.int .u8 0), .lit (.int .u8 0)], .agg [.lit (.int .u8 0), .lit (.int .u8 0)], .agg [.lit (.int .u8 0), .lit (.int .u8 0)], .agg [.lit (.int .u8 0), .lit (.int .u8 0)]]
/-- One of Go's own tables, pinned by name: the form's constant. -/
def laid_unicode_utf8_first : DataW Unit := Go.Pinned.utf8First

/-- 'bobbinlaw6.XcharDecodes': WHATEVER THE INPUT: true; the input reads as it did. -/
def xcharDecodesSpec : ChangeSpec := { name := "xcharDecodes", fn := fun _ => fun
  | [d] => { results := [.lit (.bool true)], args := [d] }
  | _ => none }
def xcharDecodesRow : OpenClaim := { program := "ytpkfkipnagajkaadoor", sum := "055e5d524dc6ac1f570c2554dc5a9be18b449d87cd4d3ce52c8ed29d6318e7be", func := "bobbin/bobbinlaw6.XcharDecodes", spec := "xcharDecodes", named := ["unicode/utf8.first", "unicode/utf8.acceptRanges"], apart := false, laid := [("unicode/utf8.acceptRanges", laid_unicode_utf8_acceptRanges), ("unicode/utf8.first", laid_unicode_utf8_first)] }
def XcharDecodesSaid : Prop := xcharDecodesRow.holds Tryd.pinned (OpenSpec.ofChange xcharDecodesSpec)

/-- ITS FALSE NEIGHBOUR: 'it returns false'. Refute it at one input. -/
def xcharDecodesWrong : ChangeSpec := { name := "xcharDecodes", fn := fun _ => fun
  | [d] => { results := [.lit (.bool false)], args := [d] }
  | _ => none }
def XcharDecodesWrongFalsely : Prop := xcharDecodesRow.holds Tryd.pinned (OpenSpec.ofChange xcharDecodesWrong)

/-- 'bobbinlaw6.XcharEnds': WHATEVER THE INPUT: true; the input reads as it did. -/
def xcharEndsSpec : ChangeSpec := { name := "xcharEnds", fn := fun _ => fun
  | [d] => { results := [.lit (.bool true)], args := [d] }
  | _ => none }
def xcharEndsRow : OpenClaim := { program := "ytpkfkipnagajkaadoor", sum := "055e5d524dc6ac1f570c2554dc5a9be18b449d87cd4d3ce52c8ed29d6318e7be", func := "bobbin/bobbinlaw6.XcharEnds", spec := "xcharEnds", named := ["unicode/utf8.first", "unicode/utf8.acceptRanges"], apart := false, laid := [("unicode/utf8.acceptRanges", laid_unicode_utf8_acceptRanges), ("unicode/utf8.first", laid_unicode_utf8_first)] }
def XcharEndsSaid : Prop := xcharEndsRow.holds Tryd.pinned (OpenSpec.ofChange xcharEndsSpec)

/-- ITS FALSE NEIGHBOUR: 'it returns false'. Refute it at one input. -/
def xcharEndsWrong : ChangeSpec := { name := "xcharEnds", fn := fun _ => fun
  | [d] => { results := [.lit (.bool false)], args := [d] }
  | _ => none }
def XcharEndsWrongFalsely : Prop := xcharEndsRow.holds Tryd.pinned (OpenSpec.ofChange xcharEndsWrong)

/-- 'bobbinlaw6.XcharGarbage': WHATEVER THE INPUT: true; the input reads as it did. -/
def xcharGarbageSpec : ChangeSpec := { name := "xcharGarbage", fn := fun _ => fun
  | [d] => { results := [.lit (.bool true)], args := [d] }
  | _ => none }
def xcharGarbageRow : OpenClaim := { program := "ytpkfkipnagajkaadoor", sum := "055e5d524dc6ac1f570c2554dc5a9be18b449d87cd4d3ce52c8ed29d6318e7be", func := "bobbin/bobbinlaw6.XcharGarbage", spec := "xcharGarbage", named := ["unicode/utf8.first", "unicode/utf8.acceptRanges"], apart := false, laid := [("unicode/utf8.acceptRanges", laid_unicode_utf8_acceptRanges), ("unicode/utf8.first", laid_unicode_utf8_first)] }
def XcharGarbageSaid : Prop := xcharGarbageRow.holds Tryd.pinned (OpenSpec.ofChange xcharGarbageSpec)

/-- ITS FALSE NEIGHBOUR: 'it returns false'. Refute it at one input. -/
def xcharGarbageWrong : ChangeSpec := { name := "xcharGarbage", fn := fun _ => fun
  | [d] => { results := [.lit (.bool false)], args := [d] }
  | _ => none }
def XcharGarbageWrongFalsely : Prop := xcharGarbageRow.holds Tryd.pinned (OpenSpec.ofChange xcharGarbageWrong)

/-- 'bobbinlaw6.XcharBack': WHATEVER THE INPUT: true; the input reads as it did. -/
def xcharBackSpec : ChangeSpec := { name := "xcharBack", fn := fun _ => fun
  | [d1, d2, d3] => { results := [.lit (.bool true)], args := [d1, d2, d3] }
  | _ => none }
def xcharBackRow : OpenClaim := { program := "ytpkfkipnagajkaadoor", sum := "055e5d524dc6ac1f570c2554dc5a9be18b449d87cd4d3ce52c8ed29d6318e7be", func := "bobbin/bobbinlaw6.XcharBack", spec := "xcharBack", named := ["unicode/utf8.first", "unicode/utf8.acceptRanges"], apart := false, laid := [("unicode/utf8.acceptRanges", laid_unicode_utf8_acceptRanges), ("unicode/utf8.first", laid_unicode_utf8_first)] }
def XcharBackSaid : Prop := xcharBackRow.holds Tryd.pinned (OpenSpec.ofChange xcharBackSpec)

/-- ITS FALSE NEIGHBOUR: 'it returns false'. Refute it at one input. -/
def xcharBackWrong : ChangeSpec := { name := "xcharBack", fn := fun _ => fun
  | [d1, d2, d3] => { results := [.lit (.bool false)], args := [d1, d2, d3] }
  | _ => none }
def XcharBackWrongFalsely : Prop := xcharBackRow.holds Tryd.pinned (OpenSpec.ofChange xcharBackWrong)

/- THE SECOND FORM. 'bulk': how many values and letters a reading holds, each counted each time it is reached (what is shared counts as often as it is met; a slice's spare places count too). A statement '..UptoSaid' is the law's where the arguments, and the package variables that the reading takes, are together of bulk at most 1048576: NARROWER than '..Said'. Prove '..Said' where nothing that the law and all that it calls make is longer than what came in: it says more and counts as full. Else prove '..UptoSaid'. A law counts once. -/
mutual
def uptoBulk {H : Type} : DataW H → Nat
  | .lit (.string bytes) => bytes.length + 1
  | .lit _ => 1
  | .nil => 1
  | .ptr d => uptoBulk d + 1
  | .slice elems spare => uptoBulkAll elems + uptoBulkAll spare + 1
  | .agg parts => uptoBulkAll parts + 1
  | .iface _ d => uptoBulk d + 1
  | .map entries => uptoBulkEntries entries + 1
  | .held _ => 1
def uptoBulkAll {H : Type} : List (DataW H) → Nat
  | [] => 0
  | d :: r => uptoBulk d + uptoBulkAll r
def uptoBulkEntries {H : Type} : List (Lit × DataW H) → Nat
  | [] => 0
  | x :: r => uptoBulkEntry x + uptoBulkEntries r
def uptoBulkEntry {H : Type} : Lit × DataW H → Nat
  | (.string bytes, d) => bytes.length + uptoBulk d + 1
  | (_, d) => uptoBulk d + 1
 end
def uptoSmall : (H : Type) → List (DataW H) → Bool := fun _ ds => decide (uptoBulkAll ds ≤ 1048576)
def OpenSpec.upto (s : _root_.Go.ChangeSpec) : _root_.Go.OpenSpec := { _root_.Go.OpenSpec.ofChange s with cond := some uptoSmall }

/-- 'bobbinlaw6.XcharDecodes', WHERE WHAT IT READS IS OF BULK AT MOST 1048576: true; the input reads as it did. -/
def xcharDecodesUptoRow : OpenClaim := { program := "ytpkfkipnagajkaadoor", sum := "055e5d524dc6ac1f570c2554dc5a9be18b449d87cd4d3ce52c8ed29d6318e7be", func := "bobbin/bobbinlaw6.XcharDecodes", spec := "xcharDecodes", named := ["unicode/utf8.first", "unicode/utf8.acceptRanges"], apart := false, laid := [("unicode/utf8.acceptRanges", laid_unicode_utf8_acceptRanges), ("unicode/utf8.first", laid_unicode_utf8_first)], narrowed := true }
def XcharDecodesUptoSaid : Prop := xcharDecodesUptoRow.holds Tryd.pinned (OpenSpec.upto xcharDecodesSpec)

/-- 'bobbinlaw6.XcharEnds', WHERE WHAT IT READS IS OF BULK AT MOST 1048576: true; the input reads as it did. -/
def xcharEndsUptoRow : OpenClaim := { program := "ytpkfkipnagajkaadoor", sum := "055e5d524dc6ac1f570c2554dc5a9be18b449d87cd4d3ce52c8ed29d6318e7be", func := "bobbin/bobbinlaw6.XcharEnds", spec := "xcharEnds", named := ["unicode/utf8.first", "unicode/utf8.acceptRanges"], apart := false, laid := [("unicode/utf8.acceptRanges", laid_unicode_utf8_acceptRanges), ("unicode/utf8.first", laid_unicode_utf8_first)], narrowed := true }
def XcharEndsUptoSaid : Prop := xcharEndsUptoRow.holds Tryd.pinned (OpenSpec.upto xcharEndsSpec)

/-- 'bobbinlaw6.XcharGarbage', WHERE WHAT IT READS IS OF BULK AT MOST 1048576: true; the input reads as it did. -/
def xcharGarbageUptoRow : OpenClaim := { program := "ytpkfkipnagajkaadoor", sum := "055e5d524dc6ac1f570c2554dc5a9be18b449d87cd4d3ce52c8ed29d6318e7be", func := "bobbin/bobbinlaw6.XcharGarbage", spec := "xcharGarbage", named := ["unicode/utf8.first", "unicode/utf8.acceptRanges"], apart := false, laid := [("unicode/utf8.acceptRanges", laid_unicode_utf8_acceptRanges), ("unicode/utf8.first", laid_unicode_utf8_first)], narrowed := true }
def XcharGarbageUptoSaid : Prop := xcharGarbageUptoRow.holds Tryd.pinned (OpenSpec.upto xcharGarbageSpec)

/-- 'bobbinlaw6.XcharBack', WHERE WHAT IT READS IS OF BULK AT MOST 1048576: true; the input reads as it did. -/
def xcharBackUptoRow : OpenClaim := { program := "ytpkfkipnagajkaadoor", sum := "055e5d524dc6ac1f570c2554dc5a9be18b449d87cd4d3ce52c8ed29d6318e7be", func := "bobbin/bobbinlaw6.XcharBack", spec := "xcharBack", named := ["unicode/utf8.first", "unicode/utf8.acceptRanges"], apart := false, laid := [("unicode/utf8.acceptRanges", laid_unicode_utf8_acceptRanges), ("unicode/utf8.first", laid_unicode_utf8_first)], narrowed := true }
def XcharBackUptoSaid : Prop := xcharBackUptoRow.holds Tryd.pinned (OpenSpec.upto xcharBackSpec)

end Rows
end Go.Proofs.YtpkfkipnagajkaaDoor
