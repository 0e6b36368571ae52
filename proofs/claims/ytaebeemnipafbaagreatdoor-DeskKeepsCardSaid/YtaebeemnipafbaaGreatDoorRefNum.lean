/-
  Proved here: the contracts of the reference's numbers of bytes and bytes of numbers. No condition.
-/
import Derived.Test.YtaebeemnipafbaaGreatDoorRefPlain
import Derived.Test.YtaebeemnipafbaaGreatDoorLawE
import Derived.Test.YtaebeemnipafbaaGreatDoorLawD
import Derived.Test.YtaebeemnipafbaaGreatDoorWrite
set_option maxRecDepth 20000
set_option linter.unusedSimpArgs false
set_option linter.unusedVariables false
namespace Go.Proofs.YtaebeemnipafbaaGreatDoor
open Go.RowKit

end Go.Proofs.YtaebeemnipafbaaGreatDoor
