/-
  Proved here: a byte of a text. No condition.
-/
import Derived.Test.YtaebeemnipafbaaGreatDoorLawC
set_option maxRecDepth 20000
set_option linter.unusedSimpArgs false
set_option linter.unusedVariables false
namespace Go.Proofs.YtaebeemnipafbaaGreatDoor
open Go.RowKit

end Go.Proofs.YtaebeemnipafbaaGreatDoor
