/-
  Proved here: an operation whose guard did not yield what it asks for is passed over. No condition on any program.
-/
import Derived.Test.YtaebeemnipafbaaGreatDoorLawB
set_option linter.unusedSimpArgs false
set_option linter.unusedVariables false
namespace Go.Proofs.YtaebeemnipafbaaGreatDoor
open Go.RowKit

end Go.Proofs.YtaebeemnipafbaaGreatDoor
