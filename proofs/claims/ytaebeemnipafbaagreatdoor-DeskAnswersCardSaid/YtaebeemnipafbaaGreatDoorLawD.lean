/-
  Proved here: the law of '[]byte("..")': the row that was written out is marked behind its last cell, and reads as before. No condition on any program.
-/
import Derived.Test.YtaebeemnipafbaaGreatDoorLawB
import Derived.Test.YtaebeemnipafbaaGreatDoorSq
set_option linter.unusedSimpArgs false
set_option linter.unusedVariables false
set_option maxRecDepth 100000
set_option maxHeartbeats 200000000
namespace Go.Proofs.YtaebeemnipafbaaGreatDoor
open Go.RowKit
theorem Jb {a b c d : Nat} (h : (some ⟨a, b, none⟩ : Option Addr) = some ⟨c, d, none⟩) : a = c ∧ b = d := by
 simpa using h
section
variable {P : Program} {ops : Array Oper} {rest : List Oper} {o : Oper} {a : Act} {W w0 : World} {Q : Exit → Act → World → Prop} {L : List Res} {d : Option Tmp}
end
end Go.Proofs.YtaebeemnipafbaaGreatDoor
