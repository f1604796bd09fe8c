/- Texts KY, for this seat. -/
import Derived.Test.YtkifdppppihjcaaKG
namespace Go.Proofs.Ytkifdppppihjcaa.SF
set_option maxRecDepth 1000000 in
set_option exponentiation.threshold 5000 in
theorem exp_0 : expV 0 = 4607182418800017408 := by decide
set_option maxRecDepth 1000000 in
set_option exponentiation.threshold 5000 in
theorem ln_1 : lnV 4607182418800017408 = 0 := by decide
theorem pow_2 : powV 4611686018427387904 4621819117588971520 = 4652218415073722368 := by decide
