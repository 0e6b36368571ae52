/-
  Named here: an error of the program, by its number.
-/
import Derived.Test.YtkbleigmfcleaaaDoorRows
set_option linter.unusedSimpArgs false
set_option linter.unusedVariables false
namespace Go.Proofs.YtkbleigmfcleaaaDoor
/-- an error of the program, by its number -/
def errV (k : Nat) : Value := .iface 30 (.int .i64 (k : Int))
end Go.Proofs.YtkbleigmfcleaaaDoor
