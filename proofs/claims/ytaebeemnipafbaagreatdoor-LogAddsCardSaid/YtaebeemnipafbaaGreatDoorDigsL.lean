/-
  Proved here: rows of digests, put together; bytes of small numbers. No condition on any program.
-/
import Derived.Test.YtaebeemnipafbaaGreatDoorSha
set_option linter.unusedSimpArgs false
set_option linter.unusedVariables false
namespace Go.Proofs.YtaebeemnipafbaaGreatDoor
theorem digsL_append (a b : List Dig) : digsL (a ++ b) = digsL a ++ digsL b := by simp [digsL]
theorem digsL_two (a b : Dig) : digsL [a, b] = a.arr.toList ++ b.arr.toList := by simp [digsL, Dig.toList]
theorem digs2_one (a b : Dig) : ∀ u ∈ a.arr.toList ++ b.arr.toList, u.oneCell' = true := by
  rw [← digsL_two]
  exact digsL_one
theorem byteV_of (k : Nat) (h : k < 256) : Value.int .u8 ((k : Nat) : Int) = byteV (UInt8.ofNat k) := by
  simp only [byteV, UInt8.toNat_ofNat', Nat.mod_eq_of_lt h]
end Go.Proofs.YtaebeemnipafbaaGreatDoor
