/- Texts Y, for this seat. -/
import Derived.Test.YtkifdppppihjcaaV
namespace Go.Proofs.Ytkifdppppihjcaa
set_option linter.unusedVariables false
set_option linter.unusedSimpArgs false
open Go.RowKit Go.Shelf SF

end Go.Proofs.Ytkifdppppihjcaa

namespace Go.Proofs.Ytkifdppppihjcaa
set_option linter.unusedVariables false
set_option linter.unusedSimpArgs false
open Go.RowKit Go.Shelf SF
end Go.Proofs.Ytkifdppppihjcaa

namespace Go.Proofs.Ytkifdppppihjcaa
set_option linter.unusedVariables false
set_option linter.unusedSimpArgs false
open Go.RowKit Go.Shelf SF

/-- What the reference's Make gives: nothing of more than 1000 words. -/
def makeR (n : Bool) (M : Nat) (e : Int) : Nat := if 32000 < bl M then NaN else makeV n M e
theorem makeR_ok (n : Bool) {M : Nat} (e : Int) (h : bl M ≤ 32000) : makeR n M e = makeV n M e := by unfold makeR; rw [if_neg (by omega)]
theorem len_gt {M : Nat} : 1000 < (ws M).length ↔ 32000 < bl M := by rw [ws_length]; omega
end Go.Proofs.Ytkifdppppihjcaa

namespace Go.Proofs.Ytkifdppppihjcaa
set_option linter.unusedVariables false
set_option linter.unusedSimpArgs false
open Go.RowKit Go.Shelf SF

end Go.Proofs.Ytkifdppppihjcaa
