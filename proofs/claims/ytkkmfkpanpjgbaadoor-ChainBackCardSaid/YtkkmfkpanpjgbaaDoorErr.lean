/-
  Named here: an error of the program, by its number.
-/
import Derived.Test.YtkkmfkpanpjgbaaDoorRows
set_option linter.unusedSimpArgs false
set_option linter.unusedVariables false
namespace Go.Proofs.YtkkmfkpanpjgbaaDoor
/-- an error of the program, by its number -/
def errV (k : Nat) : Value := .iface 30 (.int .i64 (k : Int))
end Go.Proofs.YtkkmfkpanpjgbaaDoor
