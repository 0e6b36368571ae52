/-
  Proved here: the contracts of a chain's steps.
-/
import Derived.Test.YtaebeemnipafbaaGreatDoorErr
import Derived.Test.YtaebeemnipafbaaGreatDoorMac
import Derived.Test.YtaebeemnipafbaaGreatDoorSq
set_option linter.unusedSimpArgs false
set_option linter.unusedVariables false
set_option maxRecDepth 100000
set_option maxHeartbeats 200000000
namespace Go.Proofs.YtaebeemnipafbaaGreatDoor
open Go.RowKit
theorem JH (d : Dig) : GP [d] = d.arr.toList := by rw [Dig.toList]; simp [GP]
theorem JG : Tryz.prog.eqGuardType Tryz.prog.depth 32 = false := by kernel_rfl
end Go.Proofs.YtaebeemnipafbaaGreatDoor
