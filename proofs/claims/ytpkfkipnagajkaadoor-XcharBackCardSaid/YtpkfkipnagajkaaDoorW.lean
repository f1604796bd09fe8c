/- The two tables, out of the row's condition. -/
import Derived.Test.YtpkfkipnagajkaaDoorV
import Derived.Lib.LaidU8T
namespace Go.Proofs.YtpkfkipnagajkaaDoor
set_option linter.unusedVariables false
open Go.RowKit Go.Shelf Go.Lib

def rn : Go.Shelf.Ren := ⟨fun n => n, fun | 119 => 45 | 138 => 47 | 139 => 48 | n => n, fun | 3 => Tryd.lays32_ren.g 2 | 4 => Tryd.lays32_ren.g 3 | n => n⟩
theorem rnTypes : U8Types Tryd.prog rn := ⟨by kernel_rfl, by kernel_rfl, by kernel_rfl, by kernel_rfl⟩
theorem rnExtra : U8Extra Tryd.prog rn := ⟨by kernel_rfl, by kernel_rfl, by kernel_rfl, by kernel_rfl, by kernel_rfl, by kernel_rfl, by kernel_rfl⟩
end Go.Proofs.YtpkfkipnagajkaaDoor
