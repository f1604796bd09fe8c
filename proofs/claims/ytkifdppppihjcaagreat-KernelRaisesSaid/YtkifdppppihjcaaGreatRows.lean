/-
  No cell of these rows narrows 'for every input' (looked for: loops, veiled, ifaces, maps, wideKeys, modest, calm, conditions, laid).
  DERIVED. THE GIVEN ROWS OF THIS SEAT. 5 by the template 'for every input the law returns true; each argument reads behind the call as it read before'; 0 by the template 'total and deterministic' (their statements: YtkifdppppihjcaaGreatTotals.lean).
  GIVEN WITH THE SEED: the statements are not yours to turn. If you find one false, say at which input.
  Laid BY PROGRAM, IN A SANDBOX (cutbox-rows.mjs): the forced cells as the released guide's own fill.sh prints them over the translation 01ec4c8947cc9056… (all of the seat's roots in one cut). By AI agents, Wed Nov 11 2026. No macro, syntax, notation, axiom, sorry.
-/
import Derived.Test.YtkifdppppihjcaaGreatChecked
import GoSem.Claim
import GoSem.ClaimJoined
import GoSem.ClaimMapViews
import Derived.JoinedTies
import Derived.KernelRfl
namespace Go.Proofs.YtkifdppppihjcaaGreat
/- THE CELL 'sum', in the pinned program and in every row, IS THE sha256 OF THE DUMP (.gsa) THAT YtkifdppppihjcaaGreatProg.lean LOADS. Nothing in Lean hashes anything: it is a label: what it is worth is what the hold of that sum in a sandbox is worth. -/
noncomputable def Tryz.pinned : Pinned := { name := "ytkifdppppihjcaagreat", sum := "01ec4c8947cc90569aeeca1468ba7df91bb64e66f45f32a0968ba20b0ead41c4", checked := Tryz.checked }
namespace Rows
def none {H : Type} : Left H := { results := [], args := [] }

/-- 'bobbinlaw5.KernelRaises': WHATEVER THE INPUT: true; the input reads as it did. -/
def kernelRaisesSpec : ChangeSpec := { name := "kernelRaises", fn := fun _ => fun
  | [d1, d2] => { results := [.lit (.bool true)], args := [d1, d2] }
  | _ => none }
def kernelRaisesRow : OpenClaim := { program := "ytkifdppppihjcaagreat", sum := "01ec4c8947cc90569aeeca1468ba7df91bb64e66f45f32a0968ba20b0ead41c4", func := "bobbin/bobbinlaw5.KernelRaises", spec := "kernelRaises", inPlace := ["math/bits.Sub64", "math/bits.Add64"], unfollowed := true, recurses := true, named := ["math/bits.divideError", "math/bits.overflowError"], apart := false }
def KernelRaisesSaid : Prop := kernelRaisesRow.holds Tryz.pinned (OpenSpec.ofChange kernelRaisesSpec)

/-- ITS FALSE NEIGHBOUR: 'it returns false'. Refute it at one input. -/
def kernelRaisesWrong : ChangeSpec := { name := "kernelRaises", fn := fun _ => fun
  | [d1, d2] => { results := [.lit (.bool false)], args := [d1, d2] }
  | _ => none }
def KernelRaisesWrongFalsely : Prop := kernelRaisesRow.holds Tryz.pinned (OpenSpec.ofChange kernelRaisesWrong)

/-- 'bobbinlaw5.KernelPowers': WHATEVER THE INPUT: true; the input reads as it did. -/
def kernelPowersSpec : ChangeSpec := { name := "kernelPowers", fn := fun _ => fun
  | [d] => { results := [.lit (.bool true)], args := [d] }
  | _ => none }
def kernelPowersRow : OpenClaim := { program := "ytkifdppppihjcaagreat", sum := "01ec4c8947cc90569aeeca1468ba7df91bb64e66f45f32a0968ba20b0ead41c4", func := "bobbin/bobbinlaw5.KernelPowers", spec := "kernelPowers", inPlace := ["math/bits.Sub64", "math/bits.Add64"], unfollowed := true, recurses := true, named := ["math/bits.divideError", "math/bits.overflowError"], apart := false }
def KernelPowersSaid : Prop := kernelPowersRow.holds Tryz.pinned (OpenSpec.ofChange kernelPowersSpec)

/-- ITS FALSE NEIGHBOUR: 'it returns false'. Refute it at one input. -/
def kernelPowersWrong : ChangeSpec := { name := "kernelPowers", fn := fun _ => fun
  | [d] => { results := [.lit (.bool false)], args := [d] }
  | _ => none }
def KernelPowersWrongFalsely : Prop := kernelPowersRow.holds Tryz.pinned (OpenSpec.ofChange kernelPowersWrong)

/-- 'bobbinlaw5.KernelCircles': WHATEVER THE INPUT: true; the input reads as it did. -/
def kernelCirclesSpec : ChangeSpec := { name := "kernelCircles", fn := fun _ => fun
  | [d] => { results := [.lit (.bool true)], args := [d] }
  | _ => none }
def kernelCirclesRow : OpenClaim := { program := "ytkifdppppihjcaagreat", sum := "01ec4c8947cc90569aeeca1468ba7df91bb64e66f45f32a0968ba20b0ead41c4", func := "bobbin/bobbinlaw5.KernelCircles", spec := "kernelCircles", inPlace := ["math/bits.Sub64", "math/bits.Add64"], unfollowed := true, recurses := true, named := ["math/bits.divideError", "math/bits.overflowError"], apart := false }
def KernelCirclesSaid : Prop := kernelCirclesRow.holds Tryz.pinned (OpenSpec.ofChange kernelCirclesSpec)

/-- ITS FALSE NEIGHBOUR: 'it returns false'. Refute it at one input. -/
def kernelCirclesWrong : ChangeSpec := { name := "kernelCircles", fn := fun _ => fun
  | [d] => { results := [.lit (.bool false)], args := [d] }
  | _ => none }
def KernelCirclesWrongFalsely : Prop := kernelCirclesRow.holds Tryz.pinned (OpenSpec.ofChange kernelCirclesWrong)

/-- 'bobbinlaw5.KernelHyperbolas': WHATEVER THE INPUT: true; the input reads as it did. -/
def kernelHyperbolasSpec : ChangeSpec := { name := "kernelHyperbolas", fn := fun _ => fun
  | [d] => { results := [.lit (.bool true)], args := [d] }
  | _ => none }
def kernelHyperbolasRow : OpenClaim := { program := "ytkifdppppihjcaagreat", sum := "01ec4c8947cc90569aeeca1468ba7df91bb64e66f45f32a0968ba20b0ead41c4", func := "bobbin/bobbinlaw5.KernelHyperbolas", spec := "kernelHyperbolas", inPlace := ["math/bits.Sub64", "math/bits.Add64"], unfollowed := true, recurses := true, named := ["math/bits.divideError", "math/bits.overflowError"], apart := false }
def KernelHyperbolasSaid : Prop := kernelHyperbolasRow.holds Tryz.pinned (OpenSpec.ofChange kernelHyperbolasSpec)

/-- ITS FALSE NEIGHBOUR: 'it returns false'. Refute it at one input. -/
def kernelHyperbolasWrong : ChangeSpec := { name := "kernelHyperbolas", fn := fun _ => fun
  | [d] => { results := [.lit (.bool false)], args := [d] }
  | _ => none }
def KernelHyperbolasWrongFalsely : Prop := kernelHyperbolasRow.holds Tryz.pinned (OpenSpec.ofChange kernelHyperbolasWrong)

/-- 'bobbinlaw5.KernelAngles': WHATEVER THE INPUT: true; the input reads as it did. -/
def kernelAnglesSpec : ChangeSpec := { name := "kernelAngles", fn := fun _ => fun
  | [d1, d2] => { results := [.lit (.bool true)], args := [d1, d2] }
  | _ => none }
def kernelAnglesRow : OpenClaim := { program := "ytkifdppppihjcaagreat", sum := "01ec4c8947cc90569aeeca1468ba7df91bb64e66f45f32a0968ba20b0ead41c4", func := "bobbin/bobbinlaw5.KernelAngles", spec := "kernelAngles", inPlace := ["math/bits.Add64", "math/bits.Sub64"], unfollowed := true, recurses := true, named := ["math/bits.divideError", "math/bits.overflowError"], apart := false }
def KernelAnglesSaid : Prop := kernelAnglesRow.holds Tryz.pinned (OpenSpec.ofChange kernelAnglesSpec)

/-- ITS FALSE NEIGHBOUR: 'it returns false'. Refute it at one input. -/
def kernelAnglesWrong : ChangeSpec := { name := "kernelAngles", fn := fun _ => fun
  | [d1, d2] => { results := [.lit (.bool false)], args := [d1, d2] }
  | _ => none }
def KernelAnglesWrongFalsely : Prop := kernelAnglesRow.holds Tryz.pinned (OpenSpec.ofChange kernelAnglesWrong)

/- THE SECOND FORM. 'bulk': how many values and letters a reading holds, each counted each time it is reached (what is shared counts as often as it is met; a slice's spare places count too). A statement '..UptoSaid' is the law's where the arguments, and the package variables that the reading takes, are together of bulk at most 1048576: NARROWER than '..Said'. Prove '..Said' where nothing that the law and all that it calls make is longer than what came in: it says more and counts as full. Else prove '..UptoSaid'. A law counts once. -/
mutual
def uptoBulk {H : Type} : DataW H → Nat
  | .lit (.string bytes) => bytes.length + 1
  | .lit _ => 1
  | .nil => 1
  | .ptr d => uptoBulk d + 1
  | .slice elems spare => uptoBulkAll elems + uptoBulkAll spare + 1
  | .agg parts => uptoBulkAll parts + 1
  | .iface _ d => uptoBulk d + 1
  | .map entries => uptoBulkEntries entries + 1
  | .held _ => 1
def uptoBulkAll {H : Type} : List (DataW H) → Nat
  | [] => 0
  | d :: r => uptoBulk d + uptoBulkAll r
def uptoBulkEntries {H : Type} : List (Lit × DataW H) → Nat
  | [] => 0
  | x :: r => uptoBulkEntry x + uptoBulkEntries r
def uptoBulkEntry {H : Type} : Lit × DataW H → Nat
  | (.string bytes, d) => bytes.length + uptoBulk d + 1
  | (_, d) => uptoBulk d + 1
 end
def uptoSmall : (H : Type) → List (DataW H) → Bool := fun _ ds => decide (uptoBulkAll ds ≤ 1048576)
def OpenSpec.upto (s : _root_.Go.ChangeSpec) : _root_.Go.OpenSpec := { _root_.Go.OpenSpec.ofChange s with cond := some uptoSmall }

/-- 'bobbinlaw5.KernelRaises', WHERE WHAT IT READS IS OF BULK AT MOST 1048576: true; the input reads as it did. -/
def kernelRaisesUptoRow : OpenClaim := { program := "ytkifdppppihjcaagreat", sum := "01ec4c8947cc90569aeeca1468ba7df91bb64e66f45f32a0968ba20b0ead41c4", func := "bobbin/bobbinlaw5.KernelRaises", spec := "kernelRaises", inPlace := ["math/bits.Sub64", "math/bits.Add64"], unfollowed := true, recurses := true, named := ["math/bits.divideError", "math/bits.overflowError"], apart := false, narrowed := true }
def KernelRaisesUptoSaid : Prop := kernelRaisesUptoRow.holds Tryz.pinned (OpenSpec.upto kernelRaisesSpec)

/-- 'bobbinlaw5.KernelPowers', WHERE WHAT IT READS IS OF BULK AT MOST 1048576: true; the input reads as it did. -/
def kernelPowersUptoRow : OpenClaim := { program := "ytkifdppppihjcaagreat", sum := "01ec4c8947cc90569aeeca1468ba7df91bb64e66f45f32a0968ba20b0ead41c4", func := "bobbin/bobbinlaw5.KernelPowers", spec := "kernelPowers", inPlace := ["math/bits.Sub64", "math/bits.Add64"], unfollowed := true, recurses := true, named := ["math/bits.divideError", "math/bits.overflowError"], apart := false, narrowed := true }
def KernelPowersUptoSaid : Prop := kernelPowersUptoRow.holds Tryz.pinned (OpenSpec.upto kernelPowersSpec)

/-- 'bobbinlaw5.KernelCircles', WHERE WHAT IT READS IS OF BULK AT MOST 1048576: true; the input reads as it did. -/
def kernelCirclesUptoRow : OpenClaim := { program := "ytkifdppppihjcaagreat", sum := "01ec4c8947cc90569aeeca1468ba7df91bb64e66f45f32a0968ba20b0ead41c4", func := "bobbin/bobbinlaw5.KernelCircles", spec := "kernelCircles", inPlace := ["math/bits.Sub64", "math/bits.Add64"], unfollowed := true, recurses := true, named := ["math/bits.divideError", "math/bits.overflowError"], apart := false, narrowed := true }
def KernelCirclesUptoSaid : Prop := kernelCirclesUptoRow.holds Tryz.pinned (OpenSpec.upto kernelCirclesSpec)

/-- 'bobbinlaw5.KernelHyperbolas', WHERE WHAT IT READS IS OF BULK AT MOST 1048576: true; the input reads as it did. -/
def kernelHyperbolasUptoRow : OpenClaim := { program := "ytkifdppppihjcaagreat", sum := "01ec4c8947cc90569aeeca1468ba7df91bb64e66f45f32a0968ba20b0ead41c4", func := "bobbin/bobbinlaw5.KernelHyperbolas", spec := "kernelHyperbolas", inPlace := ["math/bits.Sub64", "math/bits.Add64"], unfollowed := true, recurses := true, named := ["math/bits.divideError", "math/bits.overflowError"], apart := false, narrowed := true }
def KernelHyperbolasUptoSaid : Prop := kernelHyperbolasUptoRow.holds Tryz.pinned (OpenSpec.upto kernelHyperbolasSpec)

/-- 'bobbinlaw5.KernelAngles', WHERE WHAT IT READS IS OF BULK AT MOST 1048576: true; the input reads as it did. -/
def kernelAnglesUptoRow : OpenClaim := { program := "ytkifdppppihjcaagreat", sum := "01ec4c8947cc90569aeeca1468ba7df91bb64e66f45f32a0968ba20b0ead41c4", func := "bobbin/bobbinlaw5.KernelAngles", spec := "kernelAngles", inPlace := ["math/bits.Add64", "math/bits.Sub64"], unfollowed := true, recurses := true, named := ["math/bits.divideError", "math/bits.overflowError"], apart := false, narrowed := true }
def KernelAnglesUptoSaid : Prop := kernelAnglesUptoRow.holds Tryz.pinned (OpenSpec.upto kernelAnglesSpec)

end Rows
end Go.Proofs.YtkifdppppihjcaaGreat
