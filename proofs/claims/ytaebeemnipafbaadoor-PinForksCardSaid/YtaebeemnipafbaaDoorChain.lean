/-
  Proved here: the contracts of a chain's steps.
-/
import Derived.Test.YtaebeemnipafbaaDoorErr
import Derived.Test.YtaebeemnipafbaaDoorMac
set_option maxRecDepth 20000
set_option linter.unusedSimpArgs false
set_option linter.unusedVariables false
namespace Go.Proofs.YtaebeemnipafbaaDoor
open Go.RowKit

def stepN (d : Dig) : Dig := ofN 8 [d]
def walkN (d : Dig) : Nat → Dig
  | 0 => d
  | n + 1 => stepN (walkN d n)
theorem walkN_add (d : Dig) (m n : Nat) : walkN (walkN d m) n = walkN d (m + n) := by
  induction n with
  | zero => rfl
  | succ n ih => rw [walkN, ih]; rfl
theorem digsL_single (d : Dig) : digsL [d] = d.arr.toList := by rw [Dig.toList]; simp [digsL]






theorem eqG_D : Tryd.prog.eqGuardType Tryd.prog.depth 30 = false := by kernel_rfl
end Go.Proofs.YtaebeemnipafbaaDoor
