/-
  Named here: an error of the program, by its number.
-/
import Derived.Test.YtaebeemnipafbaaGreatDoorRows
set_option linter.unusedSimpArgs false
set_option linter.unusedVariables false
namespace Go.Proofs.YtaebeemnipafbaaGreatDoor
/-- an error of the program, by its number -/
def errV (k : Nat) : Value := .iface 28 (.int .i64 (k : Int))
end Go.Proofs.YtaebeemnipafbaaGreatDoor
