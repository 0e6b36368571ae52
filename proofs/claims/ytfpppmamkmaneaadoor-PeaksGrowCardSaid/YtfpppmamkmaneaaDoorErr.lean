/-
  Named here: an error of the program, by its number.
-/
import Derived.Test.YtfpppmamkmaneaaDoorRows
set_option linter.unusedSimpArgs false
set_option linter.unusedVariables false
namespace Go.Proofs.YtfpppmamkmaneaaDoor
/-- an error of the program, by its number -/
def errV (k : Nat) : Value := .iface 45 (.int .i64 (k : Int))
end Go.Proofs.YtfpppmamkmaneaaDoor
