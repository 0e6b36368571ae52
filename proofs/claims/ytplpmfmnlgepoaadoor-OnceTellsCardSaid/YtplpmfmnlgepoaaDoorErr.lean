/-
  Named here: an error of the program, by its number.
-/
import Derived.Test.YtplpmfmnlgepoaaDoorRows
namespace Go.Proofs.YtplpmfmnlgepoaaDoor
/-- an error of the program, by its number -/
def errV (k : Nat) : Value := .iface 24 (.int .i64 (k : Int))
end Go.Proofs.YtplpmfmnlgepoaaDoor
