/-
  Proved here: the zero values and sizes of three types of the language. No condition.
-/
import Derived.Test.YtnofmbajgjmdfaaRows
import Derived.Test.YtnofmbajgjmdfaaOps
namespace Go.Proofs.Ytnofmbajgjmdfaa
open Go.RowKit
theorem el_int : ElemIs Try.prog 3 (.int .i64 0) 1 8 := by unfold ElemIs; kernel_rfl
theorem el_S_uint8 : ElemIs Try.prog 30 (.slice none 0 0) 1 24 := by unfold ElemIs; kernel_rfl
theorem el_uint8 : ElemIs Try.prog 5 (.int .u8 0) 1 1 := by unfold ElemIs; kernel_rfl
end Go.Proofs.Ytnofmbajgjmdfaa
