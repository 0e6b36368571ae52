/-
  Named here: an error of the program, by its number.
-/
import Derived.Test.YtaebeemnipafbaaDoorRows
set_option linter.unusedSimpArgs false
set_option linter.unusedVariables false
namespace Go.Proofs.YtaebeemnipafbaaDoor
/-- an error of the program, by its number -/
def errV (k : Nat) : Value := .iface 89 (.int .i64 (k : Int))
end Go.Proofs.YtaebeemnipafbaaDoor
