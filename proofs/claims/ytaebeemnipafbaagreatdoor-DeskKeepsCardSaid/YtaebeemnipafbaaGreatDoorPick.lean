/-
  Proved here: a choice between two values whose test is decided. No condition on any program.
-/
import Derived.Test.YtaebeemnipafbaaGreatDoorLawC
set_option maxRecDepth 20000
set_option linter.unusedSimpArgs false
set_option linter.unusedVariables false
namespace Go.Proofs.YtaebeemnipafbaaGreatDoor
open Go.RowKit

section
variable {P : Program} {ops : Array Oper} {rest : List Oper} {o : Oper} {a : Act} {W : World} {Q : Exit → Act → World → Prop} {d : Option Tmp}
end
theorem dNe (x : Dig) : (!decide (x = x)) = false := by simp
end Go.Proofs.YtaebeemnipafbaaGreatDoor
