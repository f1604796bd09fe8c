/-
  No cell of these rows narrows 'for every input' (looked for: loops, veiled, ifaces, maps, wideKeys, modest, calm, conditions, laid).
  DERIVED. THE GIVEN ROWS OF THIS SEAT. 4 by the template 'for every input the law returns true; each argument reads behind the call as it read before'; 0 by the template 'total and deterministic' (their statements: YticjepfcgfdmgaaTotals.lean).
  GIVEN WITH THE SEED: the statements are not yours to turn. If you find one false, say at which input.
  Laid BY PROGRAM, IN A SANDBOX (cutbox-rows.mjs): the forced cells as the released guide's own fill.sh prints them over the translation 5250b55429eb63f4… (all of the seat's roots in one cut). By AI agents, Wed Nov 11 2026. No macro, syntax, notation, axiom, sorry.
-/
import Derived.Test.YticjepfcgfdmgaaChecked
import GoSem.Claim
import GoSem.ClaimJoined
import GoSem.ClaimMapViews
import Derived.JoinedTies
import Derived.KernelRfl
namespace Go.Proofs.Yticjepfcgfdmgaa
/- THE CELL 'sum', in the pinned program and in every row, IS THE sha256 OF THE DUMP (.gsa) THAT YticjepfcgfdmgaaProg.lean LOADS. Nothing in Lean hashes anything: it is a label: what it is worth is what the hold of that sum in a sandbox is worth. -/
noncomputable def Try.pinned : Pinned := { name := "yticjepfcgfdmgaa", sum := "5250b55429eb63f47171bcdc1be06b1521bc131bd444df4607fbc658ce8dffde", checked := Try.checked }
namespace Rows
def none {H : Type} : Left H := { results := [], args := [] }

/-- 'bobbinlaw10.StackOwn': WHATEVER THE INPUT: true; the input reads as it did. -/
def stackOwnSpec : ChangeSpec := { name := "stackOwn", fn := fun _ => fun
  | [d] => { results := [.lit (.bool true)], args := [d] }
  | _ => none }
def stackOwnRow : OpenClaim := { program := "yticjepfcgfdmgaa", sum := "5250b55429eb63f47171bcdc1be06b1521bc131bd444df4607fbc658ce8dffde", func := "bobbin/bobbinlaw10.StackOwn", spec := "stackOwn", apart := false }
def StackOwnSaid : Prop := stackOwnRow.holds Try.pinned (OpenSpec.ofChange stackOwnSpec)

/-- ITS FALSE NEIGHBOUR: 'it returns false'. Refute it at one input. -/
def stackOwnWrong : ChangeSpec := { name := "stackOwn", fn := fun _ => fun
  | [d] => { results := [.lit (.bool false)], args := [d] }
  | _ => none }
def StackOwnWrongFalsely : Prop := stackOwnRow.holds Try.pinned (OpenSpec.ofChange stackOwnWrong)

/-- 'bobbinlaw10.StackTwo': WHATEVER THE INPUT: true; the input reads as it did. -/
def stackTwoSpec : ChangeSpec := { name := "stackTwo", fn := fun _ => fun
  | [d1, d2] => { results := [.lit (.bool true)], args := [d1, d2] }
  | _ => none }
def stackTwoRow : OpenClaim := { program := "yticjepfcgfdmgaa", sum := "5250b55429eb63f47171bcdc1be06b1521bc131bd444df4607fbc658ce8dffde", func := "bobbin/bobbinlaw10.StackTwo", spec := "stackTwo", apart := false }
def StackTwoSaid : Prop := stackTwoRow.holds Try.pinned (OpenSpec.ofChange stackTwoSpec)

/-- ITS FALSE NEIGHBOUR: 'it returns false'. Refute it at one input. -/
def stackTwoWrong : ChangeSpec := { name := "stackTwo", fn := fun _ => fun
  | [d1, d2] => { results := [.lit (.bool false)], args := [d1, d2] }
  | _ => none }
def StackTwoWrongFalsely : Prop := stackTwoRow.holds Try.pinned (OpenSpec.ofChange stackTwoWrong)

/-- 'bobbinlaw10.StackPlays': WHATEVER THE INPUT: true; the input reads as it did. -/
def stackPlaysSpec : ChangeSpec := { name := "stackPlays", fn := fun _ => fun
  | [d1, d2, d3, d4] => { results := [.lit (.bool true)], args := [d1, d2, d3, d4] }
  | _ => none }
def stackPlaysRow : OpenClaim := { program := "yticjepfcgfdmgaa", sum := "5250b55429eb63f47171bcdc1be06b1521bc131bd444df4607fbc658ce8dffde", func := "bobbin/bobbinlaw10.StackPlays", spec := "stackPlays", apart := false }
def StackPlaysSaid : Prop := stackPlaysRow.holds Try.pinned (OpenSpec.ofChange stackPlaysSpec)

/-- ITS FALSE NEIGHBOUR: 'it returns false'. Refute it at one input. -/
def stackPlaysWrong : ChangeSpec := { name := "stackPlays", fn := fun _ => fun
  | [d1, d2, d3, d4] => { results := [.lit (.bool false)], args := [d1, d2, d3, d4] }
  | _ => none }
def StackPlaysWrongFalsely : Prop := stackPlaysRow.holds Try.pinned (OpenSpec.ofChange stackPlaysWrong)

/-- 'bobbinlaw10.StackNothing': WHATEVER THE INPUT: true; the input reads as it did. -/
def stackNothingSpec : ChangeSpec := { name := "stackNothing", fn := fun _ => fun
  | [d] => { results := [.lit (.bool true)], args := [d] }
  | _ => none }
def stackNothingRow : OpenClaim := { program := "yticjepfcgfdmgaa", sum := "5250b55429eb63f47171bcdc1be06b1521bc131bd444df4607fbc658ce8dffde", func := "bobbin/bobbinlaw10.StackNothing", spec := "stackNothing", apart := false }
def StackNothingSaid : Prop := stackNothingRow.holds Try.pinned (OpenSpec.ofChange stackNothingSpec)

/-- ITS FALSE NEIGHBOUR: 'it returns false'. Refute it at one input. -/
def stackNothingWrong : ChangeSpec := { name := "stackNothing", fn := fun _ => fun
  | [d] => { results := [.lit (.bool false)], args := [d] }
  | _ => none }
def StackNothingWrongFalsely : Prop := stackNothingRow.holds Try.pinned (OpenSpec.ofChange stackNothingWrong)

/- THE SECOND FORM. 'bulk': how many values and letters a reading holds, each counted each time it is reached (what is shared counts as often as it is met; a slice's spare places count too). A statement '..UptoSaid' is the law's where the arguments, and the package variables that the reading takes, are together of bulk at most 1048576: NARROWER than '..Said'. Prove '..Said' where nothing that the law and all that it calls make is longer than what came in: it says more and counts as full. Else prove '..UptoSaid'. A law counts once. -/
mutual
def uptoBulk {H : Type} : DataW H → Nat
  | .lit (.string bytes) => bytes.length + 1
  | .lit _ => 1
  | .nil => 1
  | .ptr d => uptoBulk d + 1
  | .slice elems spare => uptoBulkAll elems + uptoBulkAll spare + 1
  | .agg parts => uptoBulkAll parts + 1
  | .iface _ d => uptoBulk d + 1
  | .map entries => uptoBulkEntries entries + 1
  | .held _ => 1
def uptoBulkAll {H : Type} : List (DataW H) → Nat
  | [] => 0
  | d :: r => uptoBulk d + uptoBulkAll r
def uptoBulkEntries {H : Type} : List (Lit × DataW H) → Nat
  | [] => 0
  | x :: r => uptoBulkEntry x + uptoBulkEntries r
def uptoBulkEntry {H : Type} : Lit × DataW H → Nat
  | (.string bytes, d) => bytes.length + uptoBulk d + 1
  | (_, d) => uptoBulk d + 1
 end
def uptoSmall : (H : Type) → List (DataW H) → Bool := fun _ ds => decide (uptoBulkAll ds ≤ 1048576)
def OpenSpec.upto (s : _root_.Go.ChangeSpec) : _root_.Go.OpenSpec := { _root_.Go.OpenSpec.ofChange s with cond := some uptoSmall }

/-- 'bobbinlaw10.StackOwn', WHERE WHAT IT READS IS OF BULK AT MOST 1048576: true; the input reads as it did. -/
def stackOwnUptoRow : OpenClaim := { program := "yticjepfcgfdmgaa", sum := "5250b55429eb63f47171bcdc1be06b1521bc131bd444df4607fbc658ce8dffde", func := "bobbin/bobbinlaw10.StackOwn", spec := "stackOwn", apart := false, narrowed := true }
def StackOwnUptoSaid : Prop := stackOwnUptoRow.holds Try.pinned (OpenSpec.upto stackOwnSpec)

/-- 'bobbinlaw10.StackTwo', WHERE WHAT IT READS IS OF BULK AT MOST 1048576: true; the input reads as it did. -/
def stackTwoUptoRow : OpenClaim := { program := "yticjepfcgfdmgaa", sum := "5250b55429eb63f47171bcdc1be06b1521bc131bd444df4607fbc658ce8dffde", func := "bobbin/bobbinlaw10.StackTwo", spec := "stackTwo", apart := false, narrowed := true }
def StackTwoUptoSaid : Prop := stackTwoUptoRow.holds Try.pinned (OpenSpec.upto stackTwoSpec)

/-- 'bobbinlaw10.StackPlays', WHERE WHAT IT READS IS OF BULK AT MOST 1048576: true; the input reads as it did. -/
def stackPlaysUptoRow : OpenClaim := { program := "yticjepfcgfdmgaa", sum := "5250b55429eb63f47171bcdc1be06b1521bc131bd444df4607fbc658ce8dffde", func := "bobbin/bobbinlaw10.StackPlays", spec := "stackPlays", apart := false, narrowed := true }
def StackPlaysUptoSaid : Prop := stackPlaysUptoRow.holds Try.pinned (OpenSpec.upto stackPlaysSpec)

/-- 'bobbinlaw10.StackNothing', WHERE WHAT IT READS IS OF BULK AT MOST 1048576: true; the input reads as it did. -/
def stackNothingUptoRow : OpenClaim := { program := "yticjepfcgfdmgaa", sum := "5250b55429eb63f47171bcdc1be06b1521bc131bd444df4607fbc658ce8dffde", func := "bobbin/bobbinlaw10.StackNothing", spec := "stackNothing", apart := false, narrowed := true }
def StackNothingUptoSaid : Prop := stackNothingUptoRow.holds Try.pinned (OpenSpec.upto stackNothingSpec)

end Rows
end Go.Proofs.Yticjepfcgfdmgaa
