/-
  Proved here: the contract of the reference's table of what is added in each round. No condition.
-/
import Derived.Test.YtaebeemnipafbaaGreatDoorBlock
import Derived.Test.YtaebeemnipafbaaGreatDoorRefPlainB
import Derived.Test.YtaebeemnipafbaaGreatDoorLawE
import Derived.Test.YtaebeemnipafbaaGreatDoorSq
set_option linter.unusedSimpArgs false
set_option linter.unusedVariables false
set_option maxRecDepth 100000
set_option maxHeartbeats 200000000
namespace Go.Proofs.YtaebeemnipafbaaGreatDoor
open Go.RowKit
theorem rrounds_any (w : World) : Calls Tryz.prog 116 #[] w fun e w' => ∃ A, e = .returned (.slice A 64 64) ∧ St w w' [.row A 64 64 3 1 tableI] := by
 have Ga := St.refl w
 go_enter Tryz.func116, Tryz.ntmps116
 go_wp2_with fail
 go_ret
 refine ⟨_, rfl, Ga.allocRow (xs := tableI) _ ⟨by rfl, by decide, by decide, by decide, fun j v hv => ?_⟩⟩
 show tableI.toArray[0 + j]? = some v
 rw [Nat.zero_add]
 simpa using hv
end Go.Proofs.YtaebeemnipafbaaGreatDoor
