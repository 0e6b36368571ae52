/-
  Named here: an error of the program, by its number.
-/
import Derived.Test.YtaebeemnipafbaaGreatDoorRows
import Derived.Test.YtaebeemnipafbaaGreatDoorSq
set_option linter.unusedSimpArgs false
set_option linter.unusedVariables false
set_option maxRecDepth 100000
set_option maxHeartbeats 200000000
namespace Go.Proofs.YtaebeemnipafbaaGreatDoor
def JL (k : Nat) : Value := .iface 28 (.int .i64 (k : Int))
end Go.Proofs.YtaebeemnipafbaaGreatDoor
