/-
  Proved here: the zero values and sizes of three types of the language. No condition.
-/
import Derived.Test.YtaebeemnipafbaaGreatDoorRows
import Derived.Test.YtaebeemnipafbaaGreatDoorOps
import Derived.Test.YtaebeemnipafbaaGreatDoorSq
set_option linter.unusedSimpArgs false
set_option linter.unusedVariables false
set_option maxRecDepth 100000
set_option maxHeartbeats 200000000
namespace Go.Proofs.YtaebeemnipafbaaGreatDoor
open Go.RowKit
theorem Jo : GW Tryz.prog 3 (.int .i64 0) 1 8 := by unfold GW; kernel_rfl
theorem K6 : GW Tryz.prog 22 (.slice none 0 0) 1 24 := by unfold GW; kernel_rfl
theorem GF : GW Tryz.prog 5 (.int .u8 0) 1 1 := by unfold GW; kernel_rfl
end Go.Proofs.YtaebeemnipafbaaGreatDoor
