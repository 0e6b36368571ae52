/-
  Named here: an error of the program, by its number.
-/
import Derived.Test.YtnofmbajgjmdfaaRows
namespace Go.Proofs.Ytnofmbajgjmdfaa
/-- an error of the program, by its number -/
def errV (k : Nat) : Value := .iface 27 (.int .i64 (k : Int))
end Go.Proofs.Ytnofmbajgjmdfaa
