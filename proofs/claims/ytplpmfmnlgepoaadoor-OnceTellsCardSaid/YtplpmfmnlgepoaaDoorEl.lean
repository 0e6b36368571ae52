/-
  Proved here: the zero values and sizes of three types of the language. No condition.
-/
import Derived.Test.YtplpmfmnlgepoaaDoorRows
import Derived.Test.YtplpmfmnlgepoaaDoorOps
set_option maxRecDepth 20000
namespace Go.Proofs.YtplpmfmnlgepoaaDoor
open Go.RowKit
theorem el_int : ElemIs Tryd.prog 3 (.int .i64 0) 1 8 := by unfold ElemIs; kernel_rfl
theorem el_S_uint8 : ElemIs Tryd.prog 33 (.slice none 0 0) 1 24 := by unfold ElemIs; kernel_rfl
theorem el_uint8 : ElemIs Tryd.prog 5 (.int .u8 0) 1 1 := by unfold ElemIs; kernel_rfl
end Go.Proofs.YtplpmfmnlgepoaaDoor
