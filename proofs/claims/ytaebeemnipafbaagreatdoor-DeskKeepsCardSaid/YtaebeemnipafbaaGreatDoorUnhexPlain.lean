/-
  Proved here: bytes of digits, plain: there and back. No program in sight.
-/
import Derived.Test.YtaebeemnipafbaaGreatDoorHex
set_option linter.unusedSimpArgs false
set_option linter.unusedVariables false
namespace Go.Proofs.YtaebeemnipafbaaGreatDoor

/-- what a digit is worth; below 0: it is none -/
def hexV (c : UInt8) : Int := Lib.indexByte digitsS.data.toList c
theorem hexV_all : ∀ k : Fin 256, (hexV (UInt8.ofNat k.val) < 0 ∨ (0 ≤ hexV (UInt8.ofNat k.val) ∧ hexV (UInt8.ofNat k.val) < 16 ∧ hexB (hexV (UInt8.ofNat k.val)).toNat = UInt8.ofNat k.val)) := by decide +kernel
theorem hexV_cases (c : UInt8) : hexV c < 0 ∨ (0 ≤ hexV c ∧ hexV c < 16 ∧ hexB (hexV c).toNat = c) := by
  have h := hexV_all ⟨c.toNat, UInt8.toNat_lt c⟩
  have e : UInt8.ofNat c.toNat = c := by simp
  simp only [e] at h
  exact h
/-- is the j-th pair one of digits? -/
def pairOk (s : List UInt8) (j : Nat) : Prop := 0 ≤ hexV (s.getD (2 * j) 0) ∧ 0 ≤ hexV (s.getD (2 * j + 1) 0)
def pairB (s : List UInt8) (j : Nat) : UInt8 := UInt8.ofNat ((hexV (s.getD (2 * j) 0)).toNat * 16 + (hexV (s.getD (2 * j + 1) 0)).toNat)
/-- the bytes of the first pairs -/
def decL (s : List UInt8) (m : Nat) : List UInt8 := (List.range m).map (pairB s)
theorem decL_succ (s : List UInt8) (m : Nat) : decL s (m + 1) = decL s m ++ [pairB s m] := by simp [decL, List.range_succ]
theorem length_decL (s : List UInt8) (m : Nat) : (decL s m).length = m := by simp [decL]
end Go.Proofs.YtaebeemnipafbaaGreatDoor
