/-
  Proved here: the walk of the law ShaSums: it returns true. No condition.
-/
import Derived.Test.YtnofmbajgjmdfaaDoorShaPieces
import Derived.Test.YtnofmbajgjmdfaaDoorRefSum
namespace Go.Proofs.YtnofmbajgjmdfaaDoor
open Go.RowKit

set_option maxHeartbeats 1000000 in
theorem shaSums_any (w : World) (hT : Tb w) (b : List UInt8) (A : Option Addr) (n c : Nat) (hx : SlR w A n c 1 (bytesL b)) (hn : n * 1 ≤ 140737488351232) :
    Calls Tryd.prog 3 #[.slice A n c] w fun e w' => e = .returned (.bool true) ∧ St w w' [] := by
  have hst := St.refl w
  have HT := Lib.hid hT
  have HE := Lib.hid (show decide (sha b = sha b) = true by simp)
  clear hT
  go_enter Tryd.func3, Tryd.ntmps3
  go_wp2_with (first
    | (go_at_call 12; refine (known_any _ (HT.out.of hst)).mono ?_; rintro e W13 ⟨rfl, hnew⟩; replace hst := hst.keep hnew; clear hnew)
    | (go_at_call 13; refine (ssum_any b _ _ _ _ (HT.out.of hst) (hst.old (by decide) hx) (by omega)).mono ?_; rintro e W14 ⟨rfl, hnew⟩; replace hst := hst.keep hnew; clear hnew)
    | (go_at_call 14; refine (rsum_any b _ _ _ _ (hst.old (by decide) hx) (by omega)).mono ?_; rintro e W15 ⟨rfl, hnew⟩; replace hst := hst.keep hnew; clear hnew)
    | (refine L_eqD (d := some 11) rfl rfl rfl Tryd.underlying25 Tryd.underlying5 el_uint8 eqG_D (ev_tmp rfl) (ev_tmp rfl) ?_; (try rw [HE.out]))
    | fail)
  go_ret
  exact ⟨rfl, hst⟩
end Go.Proofs.YtnofmbajgjmdfaaDoor
