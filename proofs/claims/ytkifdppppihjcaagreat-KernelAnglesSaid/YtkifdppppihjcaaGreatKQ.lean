/- The reference's Pow, a walk for each way through it. -/
import Derived.Test.YtkifdppppihjcaaGreatKB
namespace Go.Proofs.YtkifdppppihjcaaGreat
set_option linter.unusedVariables false
set_option linter.unusedSimpArgs false
open Go.RowKit Go.Shelf Go.ChangeShapes Go.WideShapes SF
