/-
  Proved here: the contract of the reference's turn of a word. No condition beyond the count's bounds.
-/
import Derived.Test.YtaebeemnipafbaaGreatDoorRows
import Derived.Test.YtaebeemnipafbaaGreatDoorRefWord
import Derived.Test.YtaebeemnipafbaaGreatDoorLaw
import Derived.WalkSpells
import Derived.BigQuiet
import Derived.Deep.QuietTactic
import Derived.Test.YtaebeemnipafbaaGreatDoorSq
set_option linter.unusedSimpArgs false
set_option linter.unusedVariables false
set_option maxRecDepth 100000
set_option maxHeartbeats 200000000
namespace Go.Proofs.YtaebeemnipafbaaGreatDoor
open Go.RowKit
theorem Mf (x : Wd) (s : Nat) (h1 : 2 ≤ s) (h2 : s ≤ 31) (w : World) :
  Calls Tryz.prog 139 #[iW x, .int .i64 (s : Int)] w fun e w' => e = .returned (iW (x.rot s)) ∧ St w w' [] := by
 have Ga := St.refl w
 have Hv := Gg (iw_rot x s h1 h2)
 unfold iW
 go_enter Tryz.func139, Tryz.ntmps139
 go_wp2
 go_quiet (fail)
 go_wp2
 rw [Hv.out]
 go_ret
 exact ⟨rfl, Ga.drewN nq⟩
end Go.Proofs.YtaebeemnipafbaaGreatDoor
