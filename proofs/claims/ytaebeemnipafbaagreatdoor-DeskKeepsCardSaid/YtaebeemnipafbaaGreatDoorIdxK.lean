/-
  Proved here: an element's place in a slice whose own place is known. No condition on any program.
-/
import Derived.Test.YtaebeemnipafbaaGreatDoorLawC
set_option maxRecDepth 20000
set_option linter.unusedSimpArgs false
set_option linter.unusedVariables false
namespace Go.Proofs.YtaebeemnipafbaaGreatDoor
open Go.RowKit

end Go.Proofs.YtaebeemnipafbaaGreatDoor
