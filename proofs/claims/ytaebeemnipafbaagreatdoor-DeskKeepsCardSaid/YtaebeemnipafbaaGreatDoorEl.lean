/-
  Proved here: the zero values and sizes of three types of the language. No condition.
-/
import Derived.Test.YtaebeemnipafbaaGreatDoorRows
import Derived.Test.YtaebeemnipafbaaGreatDoorOps
set_option maxRecDepth 20000
set_option linter.unusedSimpArgs false
set_option linter.unusedVariables false
namespace Go.Proofs.YtaebeemnipafbaaGreatDoor
open Go.RowKit
theorem el_int : ElemIs Tryz.prog 3 (.int .i64 0) 1 8 := by unfold ElemIs; kernel_rfl
theorem el_S_uint8 : ElemIs Tryz.prog 22 (.slice none 0 0) 1 24 := by unfold ElemIs; kernel_rfl
theorem el_uint8 : ElemIs Tryz.prog 5 (.int .u8 0) 1 1 := by unfold ElemIs; kernel_rfl
end Go.Proofs.YtaebeemnipafbaaGreatDoor
