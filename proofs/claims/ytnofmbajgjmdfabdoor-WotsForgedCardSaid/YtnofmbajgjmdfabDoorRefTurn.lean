/-
  Proved here: the contract of the reference's turn of a word. No condition beyond the count's bounds.
-/
import Derived.Test.YtnofmbajgjmdfabDoorRows
import Derived.Test.YtnofmbajgjmdfabDoorRefWord
import Derived.Test.YtnofmbajgjmdfabDoorLaw
import Derived.WalkSpells
import Derived.BigQuiet
import Derived.Deep.QuietTactic
namespace Go.Proofs.YtnofmbajgjmdfabDoor
open Go.RowKit

set_option maxHeartbeats 400000 in
theorem rturn_any (x : Wd) (s : Nat) (h1 : 2 ≤ s) (h2 : s ≤ 31) (w : World) :
    Calls Tryd.prog 36 #[iW x, .int .i64 (s : Int)] w fun e w' => e = .returned (iW (x.rot s)) ∧ St w w' [] := by
  have hst := St.refl w
  have Hv := Lib.hid (iw_rot x s h1 h2)
  unfold iW
  go_enter Tryd.func36, Tryd.ntmps36
  go_wp2
  go_quiet (fail)
  go_wp2
  rw [Hv.out]
  go_ret
  exact ⟨rfl, hst.drewN nq⟩
end Go.Proofs.YtnofmbajgjmdfabDoor
