/-
  Proved here: an operation that is not wanted is passed over, whatever its slot held. No condition on any program.
-/
import Derived.Test.YtaebeemnipafbaaGreatDoorLaw
import Derived.Test.YtaebeemnipafbaaGreatDoorDraw
import Derived.Test.YtaebeemnipafbaaGreatDoorLawC
import Derived.Test.YtaebeemnipafbaaGreatDoorSq
set_option linter.unusedSimpArgs false
set_option linter.unusedVariables false
set_option maxRecDepth 100000
set_option maxHeartbeats 200000000
namespace Go.Proofs.YtaebeemnipafbaaGreatDoor
open Go.RowKit
theorem GI {P : Program} {ops : Array Oper} {rest : List Oper} {o : Oper} {a : Act} {W : World} {Q : Exit → Act → World → Prop} {t : Tmp} (hd : o.dst = some t) (hw : Region.wanted o (yielded ops a.tmps) = false) (h : wpList P ops Q rest (a.put (some t) undef) W) : wpList P ops Q (o :: rest) a W :=
 wpList_skip hw (by rw [hd]; exact h)
end Go.Proofs.YtaebeemnipafbaaGreatDoor
