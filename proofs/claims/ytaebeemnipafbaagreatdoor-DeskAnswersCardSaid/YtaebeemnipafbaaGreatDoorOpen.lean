/-
  Proved here: how arguments of a row are opened: a digest by value. No condition on any program.
-/
import Derived.Test.YtaebeemnipafbaaGreatDoorDig
import Derived.ProofKit
import Derived.OpenShut
import Derived.ShutString
import Derived.ChangeOld
import Derived.Test.YtaebeemnipafbaaGreatDoorSq
set_option linter.unusedSimpArgs false
set_option linter.unusedVariables false
set_option maxRecDepth 100000
set_option maxHeartbeats 200000000
namespace Go.Proofs.YtaebeemnipafbaaGreatDoor
open Go.ChangeShapes Go.WideShapes Go.ChangeAt Go.RowKit
section
variable {P : Program} {H : Type} {enc : TypeId × Value → H} {W : World} {base : Nat} {spare : Nat → Bool} {held : Bool}
theorem byte_of_trod {e : TypeId} {m : Nat} {c : Value} {y : DataW H × List MemPlace} (he : P.underlying e = some (.int .u8)) (h : DataW.trod enc P W base spare held m e [c] = some y) : ∃ b : UInt8, c = JC b := by
 obtain ⟨n, hc, _, hw⟩ := DataW.trod_int he h
 have hb : 0 ≤ n ∧ n ≤ 255 := by simpa [Lit.wf, IntKind.min, IntKind.max, IntKind.signed, IntKind.bits] using hw
 refine ⟨UInt8.ofNat n.toNat, ?_⟩
 have : c = .int .u8 n := by simpa using hc
 rw [this]
 unfold JC
 congr 1
 rw [UInt8.toNat_ofNat']
 omega
end
end Go.Proofs.YtaebeemnipafbaaGreatDoor
