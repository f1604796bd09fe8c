/-
  No cell of these rows narrows 'for every input' (looked for: loops, veiled, ifaces, maps, wideKeys, modest, calm, conditions, laid).
  DERIVED. THE GIVEN ROWS OF THIS SEAT. 5 by the template 'for every input the law returns true; each argument reads behind the call as it read before'; 0 by the template 'total and deterministic' (their statements: YtocmgdolinajmaaTotals.lean).
  GIVEN WITH THE SEED: the statements are not yours to turn. If you find one false, say at which input.
  Laid BY PROGRAM, IN A SANDBOX (cutbox-rows.mjs): the forced cells as the released guide's own fill.sh prints them over the translation 132e2136d0d96f2b… (all of the seat's roots in one cut). By AI agents, Wed Nov 11 2026. No macro, syntax, notation, axiom, sorry.
-/
import Derived.Test.YtocmgdolinajmaaChecked
import GoSem.Claim
import GoSem.ClaimJoined
import GoSem.ClaimMapViews
import Derived.JoinedTies
import Derived.KernelRfl
namespace Go.Proofs.Ytocmgdolinajmaa
/- THE CELL 'sum', in the pinned program and in every row, IS THE sha256 OF THE DUMP (.gsa) THAT YtocmgdolinajmaaProg.lean LOADS. Nothing in Lean hashes anything: it is a label: what it is worth is what the hold of that sum in a sandbox is worth. -/
noncomputable def Try.pinned : Pinned := { name := "ytocmgdolinajmaa", sum := "132e2136d0d96f2b86a36fa8d03d7da28eee7b77165a34312564fb0ba730a90d", checked := Try.checked }
namespace Rows
def none {H : Type} : Left H := { results := [], args := [] }

/-- 'bobbinlaw7.BytesEscape': WHATEVER THE INPUT: true; the input reads as it did. -/
def bytesEscapeSpec : ChangeSpec := { name := "bytesEscape", fn := fun _ => fun
  | [d] => { results := [.lit (.bool true)], args := [d] }
  | _ => none }
def bytesEscapeRow : OpenClaim := { program := "ytocmgdolinajmaa", sum := "132e2136d0d96f2b86a36fa8d03d7da28eee7b77165a34312564fb0ba730a90d", func := "bobbin/bobbinlaw7.BytesEscape", spec := "bytesEscape", inPlace := ["internal/bytealg.Compare"], unfollowed := true, recurses := true, apart := false }
def BytesEscapeSaid : Prop := bytesEscapeRow.holds Try.pinned (OpenSpec.ofChange bytesEscapeSpec)

/-- ITS FALSE NEIGHBOUR: 'it returns false'. Refute it at one input. -/
def bytesEscapeWrong : ChangeSpec := { name := "bytesEscape", fn := fun _ => fun
  | [d] => { results := [.lit (.bool false)], args := [d] }
  | _ => none }
def BytesEscapeWrongFalsely : Prop := bytesEscapeRow.holds Try.pinned (OpenSpec.ofChange bytesEscapeWrong)

/-- 'bobbinlaw7.BytesOrder': WHATEVER THE INPUT: true; the input reads as it did. -/
def bytesOrderSpec : ChangeSpec := { name := "bytesOrder", fn := fun _ => fun
  | [d1, d2, d3] => { results := [.lit (.bool true)], args := [d1, d2, d3] }
  | _ => none }
def bytesOrderRow : OpenClaim := { program := "ytocmgdolinajmaa", sum := "132e2136d0d96f2b86a36fa8d03d7da28eee7b77165a34312564fb0ba730a90d", func := "bobbin/bobbinlaw7.BytesOrder", spec := "bytesOrder", inPlace := ["internal/bytealg.Compare"], unfollowed := true, recurses := true, apart := false }
def BytesOrderSaid : Prop := bytesOrderRow.holds Try.pinned (OpenSpec.ofChange bytesOrderSpec)

/-- ITS FALSE NEIGHBOUR: 'it returns false'. Refute it at one input. -/
def bytesOrderWrong : ChangeSpec := { name := "bytesOrder", fn := fun _ => fun
  | [d1, d2, d3] => { results := [.lit (.bool false)], args := [d1, d2, d3] }
  | _ => none }
def BytesOrderWrongFalsely : Prop := bytesOrderRow.holds Try.pinned (OpenSpec.ofChange bytesOrderWrong)

/-- 'bobbinlaw7.BytesQuotes': WHATEVER THE INPUT: true; the input reads as it did. -/
def bytesQuotesSpec : ChangeSpec := { name := "bytesQuotes", fn := fun _ => fun
  | [d1, d2] => { results := [.lit (.bool true)], args := [d1, d2] }
  | _ => none }
def bytesQuotesRow : OpenClaim := { program := "ytocmgdolinajmaa", sum := "132e2136d0d96f2b86a36fa8d03d7da28eee7b77165a34312564fb0ba730a90d", func := "bobbin/bobbinlaw7.BytesQuotes", spec := "bytesQuotes", inPlace := ["internal/bytealg.Compare"], unfollowed := true, recurses := true, apart := false }
def BytesQuotesSaid : Prop := bytesQuotesRow.holds Try.pinned (OpenSpec.ofChange bytesQuotesSpec)

/-- ITS FALSE NEIGHBOUR: 'it returns false'. Refute it at one input. -/
def bytesQuotesWrong : ChangeSpec := { name := "bytesQuotes", fn := fun _ => fun
  | [d1, d2] => { results := [.lit (.bool false)], args := [d1, d2] }
  | _ => none }
def BytesQuotesWrongFalsely : Prop := bytesQuotesRow.holds Try.pinned (OpenSpec.ofChange bytesQuotesWrong)

/-- 'bobbinlaw7.BytesSubstitute': WHATEVER THE INPUT: true; the input reads as it did. -/
def bytesSubstituteSpec : ChangeSpec := { name := "bytesSubstitute", fn := fun _ => fun
  | [d1, d2, d3] => { results := [.lit (.bool true)], args := [d1, d2, d3] }
  | _ => none }
def bytesSubstituteRow : OpenClaim := { program := "ytocmgdolinajmaa", sum := "132e2136d0d96f2b86a36fa8d03d7da28eee7b77165a34312564fb0ba730a90d", func := "bobbin/bobbinlaw7.BytesSubstitute", spec := "bytesSubstitute", inPlace := ["internal/bytealg.Compare", "internal/bytealg.IndexByte"], unfollowed := true, recurses := true, apart := false }
def BytesSubstituteSaid : Prop := bytesSubstituteRow.holds Try.pinned (OpenSpec.ofChange bytesSubstituteSpec)

/-- ITS FALSE NEIGHBOUR: 'it returns false'. Refute it at one input. -/
def bytesSubstituteWrong : ChangeSpec := { name := "bytesSubstitute", fn := fun _ => fun
  | [d1, d2, d3] => { results := [.lit (.bool false)], args := [d1, d2, d3] }
  | _ => none }
def BytesSubstituteWrongFalsely : Prop := bytesSubstituteRow.holds Try.pinned (OpenSpec.ofChange bytesSubstituteWrong)

/-- 'bobbinlaw7.BytesFinds': WHATEVER THE INPUT: true; the input reads as it did. -/
def bytesFindsSpec : ChangeSpec := { name := "bytesFinds", fn := fun _ => fun
  | [d1, d2] => { results := [.lit (.bool true)], args := [d1, d2] }
  | _ => none }
def bytesFindsRow : OpenClaim := { program := "ytocmgdolinajmaa", sum := "132e2136d0d96f2b86a36fa8d03d7da28eee7b77165a34312564fb0ba730a90d", func := "bobbin/bobbinlaw7.BytesFinds", spec := "bytesFinds", inPlace := ["internal/bytealg.Compare", "internal/bytealg.IndexByte", "internal/bytealg.Index"], unfollowed := true, recurses := true, named := ["internal/bytealg.MaxLen"], apart := false }
def BytesFindsSaid : Prop := bytesFindsRow.holds Try.pinned (OpenSpec.ofChange bytesFindsSpec)

/-- ITS FALSE NEIGHBOUR: 'it returns false'. Refute it at one input. -/
def bytesFindsWrong : ChangeSpec := { name := "bytesFinds", fn := fun _ => fun
  | [d1, d2] => { results := [.lit (.bool false)], args := [d1, d2] }
  | _ => none }
def BytesFindsWrongFalsely : Prop := bytesFindsRow.holds Try.pinned (OpenSpec.ofChange bytesFindsWrong)

/- THE SECOND FORM. 'bulk': how many values and letters a reading holds, each counted each time it is reached (what is shared counts as often as it is met; a slice's spare places count too). A statement '..UptoSaid' is the law's where the arguments, and the package variables that the reading takes, are together of bulk at most 1048576: NARROWER than '..Said'. Prove '..Said' where nothing that the law and all that it calls make is longer than what came in: it says more and counts as full. Else prove '..UptoSaid'. A law counts once. -/
mutual
def uptoBulk {H : Type} : DataW H → Nat
  | .lit (.string bytes) => bytes.length + 1
  | .lit _ => 1
  | .nil => 1
  | .ptr d => uptoBulk d + 1
  | .slice elems spare => uptoBulkAll elems + uptoBulkAll spare + 1
  | .agg parts => uptoBulkAll parts + 1
  | .iface _ d => uptoBulk d + 1
  | .map entries => uptoBulkEntries entries + 1
  | .held _ => 1
def uptoBulkAll {H : Type} : List (DataW H) → Nat
  | [] => 0
  | d :: r => uptoBulk d + uptoBulkAll r
def uptoBulkEntries {H : Type} : List (Lit × DataW H) → Nat
  | [] => 0
  | x :: r => uptoBulkEntry x + uptoBulkEntries r
def uptoBulkEntry {H : Type} : Lit × DataW H → Nat
  | (.string bytes, d) => bytes.length + uptoBulk d + 1
  | (_, d) => uptoBulk d + 1
 end
def uptoSmall : (H : Type) → List (DataW H) → Bool := fun _ ds => decide (uptoBulkAll ds ≤ 1048576)
def OpenSpec.upto (s : _root_.Go.ChangeSpec) : _root_.Go.OpenSpec := { _root_.Go.OpenSpec.ofChange s with cond := some uptoSmall }

/-- 'bobbinlaw7.BytesEscape', WHERE WHAT IT READS IS OF BULK AT MOST 1048576: true; the input reads as it did. -/
def bytesEscapeUptoRow : OpenClaim := { program := "ytocmgdolinajmaa", sum := "132e2136d0d96f2b86a36fa8d03d7da28eee7b77165a34312564fb0ba730a90d", func := "bobbin/bobbinlaw7.BytesEscape", spec := "bytesEscape", inPlace := ["internal/bytealg.Compare"], unfollowed := true, recurses := true, apart := false, narrowed := true }
def BytesEscapeUptoSaid : Prop := bytesEscapeUptoRow.holds Try.pinned (OpenSpec.upto bytesEscapeSpec)

/-- 'bobbinlaw7.BytesOrder', WHERE WHAT IT READS IS OF BULK AT MOST 1048576: true; the input reads as it did. -/
def bytesOrderUptoRow : OpenClaim := { program := "ytocmgdolinajmaa", sum := "132e2136d0d96f2b86a36fa8d03d7da28eee7b77165a34312564fb0ba730a90d", func := "bobbin/bobbinlaw7.BytesOrder", spec := "bytesOrder", inPlace := ["internal/bytealg.Compare"], unfollowed := true, recurses := true, apart := false, narrowed := true }
def BytesOrderUptoSaid : Prop := bytesOrderUptoRow.holds Try.pinned (OpenSpec.upto bytesOrderSpec)

/-- 'bobbinlaw7.BytesQuotes', WHERE WHAT IT READS IS OF BULK AT MOST 1048576: true; the input reads as it did. -/
def bytesQuotesUptoRow : OpenClaim := { program := "ytocmgdolinajmaa", sum := "132e2136d0d96f2b86a36fa8d03d7da28eee7b77165a34312564fb0ba730a90d", func := "bobbin/bobbinlaw7.BytesQuotes", spec := "bytesQuotes", inPlace := ["internal/bytealg.Compare"], unfollowed := true, recurses := true, apart := false, narrowed := true }
def BytesQuotesUptoSaid : Prop := bytesQuotesUptoRow.holds Try.pinned (OpenSpec.upto bytesQuotesSpec)

/-- 'bobbinlaw7.BytesSubstitute', WHERE WHAT IT READS IS OF BULK AT MOST 1048576: true; the input reads as it did. -/
def bytesSubstituteUptoRow : OpenClaim := { program := "ytocmgdolinajmaa", sum := "132e2136d0d96f2b86a36fa8d03d7da28eee7b77165a34312564fb0ba730a90d", func := "bobbin/bobbinlaw7.BytesSubstitute", spec := "bytesSubstitute", inPlace := ["internal/bytealg.Compare", "internal/bytealg.IndexByte"], unfollowed := true, recurses := true, apart := false, narrowed := true }
def BytesSubstituteUptoSaid : Prop := bytesSubstituteUptoRow.holds Try.pinned (OpenSpec.upto bytesSubstituteSpec)

/-- 'bobbinlaw7.BytesFinds', WHERE WHAT IT READS IS OF BULK AT MOST 1048576: true; the input reads as it did. -/
def bytesFindsUptoRow : OpenClaim := { program := "ytocmgdolinajmaa", sum := "132e2136d0d96f2b86a36fa8d03d7da28eee7b77165a34312564fb0ba730a90d", func := "bobbin/bobbinlaw7.BytesFinds", spec := "bytesFinds", inPlace := ["internal/bytealg.Compare", "internal/bytealg.IndexByte", "internal/bytealg.Index"], unfollowed := true, recurses := true, named := ["internal/bytealg.MaxLen"], apart := false, narrowed := true }
def BytesFindsUptoSaid : Prop := bytesFindsUptoRow.holds Try.pinned (OpenSpec.upto bytesFindsSpec)

end Rows
end Go.Proofs.Ytocmgdolinajmaa
