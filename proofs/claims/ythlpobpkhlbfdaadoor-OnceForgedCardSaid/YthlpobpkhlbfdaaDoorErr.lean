/-
  Named here: an error of the program, by its number.
-/
import Derived.Test.YthlpobpkhlbfdaaDoorRows
set_option linter.unusedSimpArgs false
set_option linter.unusedVariables false
namespace Go.Proofs.YthlpobpkhlbfdaaDoor
/-- an error of the program, by its number -/
def errV (k : Nat) : Value := .iface 38 (.int .i64 (k : Int))
end Go.Proofs.YthlpobpkhlbfdaaDoor
