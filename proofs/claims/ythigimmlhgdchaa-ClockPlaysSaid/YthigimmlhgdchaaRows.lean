/-
  No cell of these rows narrows 'for every input' (looked for: loops, veiled, ifaces, maps, wideKeys, modest, calm, conditions, laid).
  DERIVED. THE GIVEN ROWS OF THIS SEAT. 5 by the template 'for every input the law returns true; each argument reads behind the call as it read before'; 0 by the template 'total and deterministic' (their statements: YthigimmlhgdchaaTotals.lean).
  GIVEN WITH THE SEED: the statements are not yours to turn. If you find one false, say at which input.
  Laid BY PROGRAM, IN A SANDBOX (cutbox-rows.mjs): the forced cells as the released guide's own fill.sh prints them over the translation 641bd046da9450c0… (all of the seat's roots in one cut). By AI agents, Wed Nov 11 2026. No macro, syntax, notation, axiom, sorry.
-/
import Derived.Test.YthigimmlhgdchaaChecked
import GoSem.Claim
import GoSem.ClaimJoined
import GoSem.ClaimMapViews
import Derived.JoinedTies
import Derived.KernelRfl
namespace Go.Proofs.Ythigimmlhgdchaa
/- THE CELL 'sum', in the pinned program and in every row, IS THE sha256 OF THE DUMP (.gsa) THAT YthigimmlhgdchaaProg.lean LOADS. Nothing in Lean hashes anything: it is a label: what it is worth is what the hold of that sum in a sandbox is worth. -/
noncomputable def Try.pinned : Pinned := { name := "ythigimmlhgdchaa", sum := "641bd046da9450c09b0b7dd7636fcbb43783571a56c0f964cd9ad99d39c789e5", checked := Try.checked }
namespace Rows
def none {H : Type} : Left H := { results := [], args := [] }

/-- 'bobbinlaw12.ClockOrder': WHATEVER THE INPUT: true; the input reads as it did. -/
def clockOrderSpec : ChangeSpec := { name := "clockOrder", fn := fun _ => fun
  | [d] => { results := [.lit (.bool true)], args := [d] }
  | _ => none }
def clockOrderRow : OpenClaim := { program := "ythigimmlhgdchaa", sum := "641bd046da9450c09b0b7dd7636fcbb43783571a56c0f964cd9ad99d39c789e5", func := "bobbin/bobbinlaw12.ClockOrder", spec := "clockOrder", unfollowed := true, recurses := true, apart := false }
def ClockOrderSaid : Prop := clockOrderRow.holds Try.pinned (OpenSpec.ofChange clockOrderSpec)

/-- ITS FALSE NEIGHBOUR: 'it returns false'. Refute it at one input. -/
def clockOrderWrong : ChangeSpec := { name := "clockOrder", fn := fun _ => fun
  | [d] => { results := [.lit (.bool false)], args := [d] }
  | _ => none }
def ClockOrderWrongFalsely : Prop := clockOrderRow.holds Try.pinned (OpenSpec.ofChange clockOrderWrong)

/-- 'bobbinlaw12.ClockCalendar': WHATEVER THE INPUT: true; the input reads as it did. -/
def clockCalendarSpec : ChangeSpec := { name := "clockCalendar", fn := fun _ => fun
  | [d] => { results := [.lit (.bool true)], args := [d] }
  | _ => none }
def clockCalendarRow : OpenClaim := { program := "ythigimmlhgdchaa", sum := "641bd046da9450c09b0b7dd7636fcbb43783571a56c0f964cd9ad99d39c789e5", func := "bobbin/bobbinlaw12.ClockCalendar", spec := "clockCalendar", unfollowed := true, recurses := true, apart := false }
def ClockCalendarSaid : Prop := clockCalendarRow.holds Try.pinned (OpenSpec.ofChange clockCalendarSpec)

/-- ITS FALSE NEIGHBOUR: 'it returns false'. Refute it at one input. -/
def clockCalendarWrong : ChangeSpec := { name := "clockCalendar", fn := fun _ => fun
  | [d] => { results := [.lit (.bool false)], args := [d] }
  | _ => none }
def ClockCalendarWrongFalsely : Prop := clockCalendarRow.holds Try.pinned (OpenSpec.ofChange clockCalendarWrong)

/-- 'bobbinlaw12.ClockDates': WHATEVER THE INPUT: true; the input reads as it did. -/
def clockDatesSpec : ChangeSpec := { name := "clockDates", fn := fun _ => fun
  | [d1, d2] => { results := [.lit (.bool true)], args := [d1, d2] }
  | _ => none }
def clockDatesRow : OpenClaim := { program := "ythigimmlhgdchaa", sum := "641bd046da9450c09b0b7dd7636fcbb43783571a56c0f964cd9ad99d39c789e5", func := "bobbin/bobbinlaw12.ClockDates", spec := "clockDates", unfollowed := true, recurses := true, apart := false }
def ClockDatesSaid : Prop := clockDatesRow.holds Try.pinned (OpenSpec.ofChange clockDatesSpec)

/-- ITS FALSE NEIGHBOUR: 'it returns false'. Refute it at one input. -/
def clockDatesWrong : ChangeSpec := { name := "clockDates", fn := fun _ => fun
  | [d1, d2] => { results := [.lit (.bool false)], args := [d1, d2] }
  | _ => none }
def ClockDatesWrongFalsely : Prop := clockDatesRow.holds Try.pinned (OpenSpec.ofChange clockDatesWrong)

/-- 'bobbinlaw12.ClockPlays': WHATEVER THE INPUT: true; the input reads as it did. -/
def clockPlaysSpec : ChangeSpec := { name := "clockPlays", fn := fun _ => fun
  | [d1, d2, d3] => { results := [.lit (.bool true)], args := [d1, d2, d3] }
  | _ => none }
def clockPlaysRow : OpenClaim := { program := "ythigimmlhgdchaa", sum := "641bd046da9450c09b0b7dd7636fcbb43783571a56c0f964cd9ad99d39c789e5", func := "bobbin/bobbinlaw12.ClockPlays", spec := "clockPlays", unfollowed := true, recurses := true, apart := false }
def ClockPlaysSaid : Prop := clockPlaysRow.holds Try.pinned (OpenSpec.ofChange clockPlaysSpec)

/-- ITS FALSE NEIGHBOUR: 'it returns false'. Refute it at one input. -/
def clockPlaysWrong : ChangeSpec := { name := "clockPlays", fn := fun _ => fun
  | [d1, d2, d3] => { results := [.lit (.bool false)], args := [d1, d2, d3] }
  | _ => none }
def ClockPlaysWrongFalsely : Prop := clockPlaysRow.holds Try.pinned (OpenSpec.ofChange clockPlaysWrong)

/-- 'bobbinlaw12.ClockNothing': WHATEVER THE INPUT: true; the input reads as it did. -/
def clockNothingSpec : ChangeSpec := { name := "clockNothing", fn := fun _ => fun
  | [d1, d2] => { results := [.lit (.bool true)], args := [d1, d2] }
  | _ => none }
def clockNothingRow : OpenClaim := { program := "ythigimmlhgdchaa", sum := "641bd046da9450c09b0b7dd7636fcbb43783571a56c0f964cd9ad99d39c789e5", func := "bobbin/bobbinlaw12.ClockNothing", spec := "clockNothing", unfollowed := true, recurses := true, apart := false }
def ClockNothingSaid : Prop := clockNothingRow.holds Try.pinned (OpenSpec.ofChange clockNothingSpec)

/-- ITS FALSE NEIGHBOUR: 'it returns false'. Refute it at one input. -/
def clockNothingWrong : ChangeSpec := { name := "clockNothing", fn := fun _ => fun
  | [d1, d2] => { results := [.lit (.bool false)], args := [d1, d2] }
  | _ => none }
def ClockNothingWrongFalsely : Prop := clockNothingRow.holds Try.pinned (OpenSpec.ofChange clockNothingWrong)

/- THE SECOND FORM. 'bulk': how many values and letters a reading holds, each counted each time it is reached (what is shared counts as often as it is met; a slice's spare places count too). A statement '..UptoSaid' is the law's where the arguments, and the package variables that the reading takes, are together of bulk at most 1048576: NARROWER than '..Said'. Prove '..Said' where nothing that the law and all that it calls make is longer than what came in: it says more and counts as full. Else prove '..UptoSaid'. A law counts once. -/
mutual
def uptoBulk {H : Type} : DataW H → Nat
  | .lit (.string bytes) => bytes.length + 1
  | .lit _ => 1
  | .nil => 1
  | .ptr d => uptoBulk d + 1
  | .slice elems spare => uptoBulkAll elems + uptoBulkAll spare + 1
  | .agg parts => uptoBulkAll parts + 1
  | .iface _ d => uptoBulk d + 1
  | .map entries => uptoBulkEntries entries + 1
  | .held _ => 1
def uptoBulkAll {H : Type} : List (DataW H) → Nat
  | [] => 0
  | d :: r => uptoBulk d + uptoBulkAll r
def uptoBulkEntries {H : Type} : List (Lit × DataW H) → Nat
  | [] => 0
  | x :: r => uptoBulkEntry x + uptoBulkEntries r
def uptoBulkEntry {H : Type} : Lit × DataW H → Nat
  | (.string bytes, d) => bytes.length + uptoBulk d + 1
  | (_, d) => uptoBulk d + 1
 end
def uptoSmall : (H : Type) → List (DataW H) → Bool := fun _ ds => decide (uptoBulkAll ds ≤ 1048576)
def OpenSpec.upto (s : _root_.Go.ChangeSpec) : _root_.Go.OpenSpec := { _root_.Go.OpenSpec.ofChange s with cond := some uptoSmall }

/-- 'bobbinlaw12.ClockOrder', WHERE WHAT IT READS IS OF BULK AT MOST 1048576: true; the input reads as it did. -/
def clockOrderUptoRow : OpenClaim := { program := "ythigimmlhgdchaa", sum := "641bd046da9450c09b0b7dd7636fcbb43783571a56c0f964cd9ad99d39c789e5", func := "bobbin/bobbinlaw12.ClockOrder", spec := "clockOrder", unfollowed := true, recurses := true, apart := false, narrowed := true }
def ClockOrderUptoSaid : Prop := clockOrderUptoRow.holds Try.pinned (OpenSpec.upto clockOrderSpec)

/-- 'bobbinlaw12.ClockCalendar', WHERE WHAT IT READS IS OF BULK AT MOST 1048576: true; the input reads as it did. -/
def clockCalendarUptoRow : OpenClaim := { program := "ythigimmlhgdchaa", sum := "641bd046da9450c09b0b7dd7636fcbb43783571a56c0f964cd9ad99d39c789e5", func := "bobbin/bobbinlaw12.ClockCalendar", spec := "clockCalendar", unfollowed := true, recurses := true, apart := false, narrowed := true }
def ClockCalendarUptoSaid : Prop := clockCalendarUptoRow.holds Try.pinned (OpenSpec.upto clockCalendarSpec)

/-- 'bobbinlaw12.ClockDates', WHERE WHAT IT READS IS OF BULK AT MOST 1048576: true; the input reads as it did. -/
def clockDatesUptoRow : OpenClaim := { program := "ythigimmlhgdchaa", sum := "641bd046da9450c09b0b7dd7636fcbb43783571a56c0f964cd9ad99d39c789e5", func := "bobbin/bobbinlaw12.ClockDates", spec := "clockDates", unfollowed := true, recurses := true, apart := false, narrowed := true }
def ClockDatesUptoSaid : Prop := clockDatesUptoRow.holds Try.pinned (OpenSpec.upto clockDatesSpec)

/-- 'bobbinlaw12.ClockPlays', WHERE WHAT IT READS IS OF BULK AT MOST 1048576: true; the input reads as it did. -/
def clockPlaysUptoRow : OpenClaim := { program := "ythigimmlhgdchaa", sum := "641bd046da9450c09b0b7dd7636fcbb43783571a56c0f964cd9ad99d39c789e5", func := "bobbin/bobbinlaw12.ClockPlays", spec := "clockPlays", unfollowed := true, recurses := true, apart := false, narrowed := true }
def ClockPlaysUptoSaid : Prop := clockPlaysUptoRow.holds Try.pinned (OpenSpec.upto clockPlaysSpec)

/-- 'bobbinlaw12.ClockNothing', WHERE WHAT IT READS IS OF BULK AT MOST 1048576: true; the input reads as it did. -/
def clockNothingUptoRow : OpenClaim := { program := "ythigimmlhgdchaa", sum := "641bd046da9450c09b0b7dd7636fcbb43783571a56c0f964cd9ad99d39c789e5", func := "bobbin/bobbinlaw12.ClockNothing", spec := "clockNothing", unfollowed := true, recurses := true, apart := false, narrowed := true }
def ClockNothingUptoSaid : Prop := clockNothingUptoRow.holds Try.pinned (OpenSpec.upto clockNothingSpec)

end Rows
end Go.Proofs.Ythigimmlhgdchaa
