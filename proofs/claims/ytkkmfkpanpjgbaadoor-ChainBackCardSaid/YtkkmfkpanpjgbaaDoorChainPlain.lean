/-
  Proved here: plain laws of a chain that is gone back with few digests kept: at which places they stand, how many they are, and what is kept one step before. No condition on any program.
-/
import Derived.Test.YtkkmfkpanpjgbaaDoorPeakPlain
set_option maxRecDepth 20000
set_option linter.unusedSimpArgs false
set_option linter.unusedVariables false
namespace Go.Proofs.YtkkmfkpanpjgbaaDoor

/-- the lowest bit of a number above 0 -/
def lowN (n : Nat) : Nat := if _h : n = 0 then 0 else if n % 2 = 1 then 1 else 2 * lowN (n / 2)
termination_by n
theorem lowN_odd {n : Nat} (h : n % 2 = 1) : lowN n = 1 := by rw [lowN, dif_neg (by omega), if_pos h]
theorem lowN_even {n : Nat} (h0 : n ≠ 0) (h : ¬ n % 2 = 1) : lowN n = 2 * lowN (n / 2) := by rw [lowN, dif_neg h0, if_neg h]
theorem lowN_le : ∀ n, n ≠ 0 → 0 < lowN n ∧ lowN n ≤ n := by
  intro n
  induction n using Nat.strongRecOn with
  | ind n ih =>
  intro h0
  by_cases h : n % 2 = 1
  · rw [lowN_odd h]; omega
  · have := ih (n / 2) (by omega) (by omega)
    rw [lowN_even h0 h]
    omega
/-- a number whose lower bits are 0, with one bit set below -/
theorem lowN_of : ∀ (z q : Nat), lowN (2 ^ (z + 1) * q + 2 ^ z) = 2 ^ z := by
  intro z
  induction z with
  | zero => intro q; rw [lowN_odd (by omega)]
  | succ z ih =>
    intro q
    have e1 : 2 ^ (z + 1 + 1) * q = 2 * (2 ^ (z + 1) * q) := by rw [Nat.pow_succ 2 (z + 1), Nat.mul_comm (2 ^ (z + 1)) 2, Nat.mul_assoc]
    have e2 : 2 ^ (z + 1) = 2 * 2 ^ z := by rw [Nat.pow_succ, Nat.mul_comm]
    have hp := Nat.two_pow_pos z
    rw [e1, lowN_even (by omega) (by omega), show (2 * (2 ^ (z + 1) * q) + 2 ^ (z + 1)) / 2 = 2 ^ (z + 1) * q + 2 ^ z by omega, ih q, e2]
/-- where digests are kept, so that the n-th is the next one -/
def posL (n : Nat) : List Nat := if _h : n = 0 then [0] else posL (n - lowN n) ++ [n]
termination_by n
decreasing_by
  have := lowN_le n _h
  omega
theorem posL_zero : posL 0 = [0] := by rw [posL]; rfl
theorem posL_pos {n : Nat} (h : n ≠ 0) : posL n = posL (n - lowN n) ++ [n] := by rw [posL, dif_neg h]
theorem posL_bit (z q : Nat) : posL (2 ^ (z + 1) * q + 2 ^ z) = posL (2 ^ (z + 1) * q) ++ [2 ^ (z + 1) * q + 2 ^ z] := by
  have hp := Nat.two_pow_pos z
  rw [posL_pos (by omega), lowN_of, Nat.add_sub_cancel]
theorem onesN_low : ∀ n, n ≠ 0 → onesN n = onesN (n - lowN n) + 1 := by
  intro n
  induction n using Nat.strongRecOn with
  | ind n ih =>
  intro h0
  by_cases h : n % 2 = 1
  · rw [lowN_odd h, onesN_odd h, onesN_even (n := n - 1) (by omega), show (n - 1) / 2 = n / 2 by omega]
  · have hl := lowN_le (n / 2) (by omega)
    have hi := ih (n / 2) (by omega) (by omega)
    rw [lowN_even h0 h, onesN_even (by omega), onesN_even (n := n - 2 * lowN (n / 2)) (by omega), show (n - 2 * lowN (n / 2)) / 2 = n / 2 - lowN (n / 2) by omega, hi]
theorem length_posL : ∀ n, (posL n).length = onesN n + 1 := by
  intro n
  induction n using Nat.strongRecOn with
  | ind n ih =>
  by_cases h : n = 0
  · subst h; rw [posL_zero, onesN_zero]; rfl
  · have hl := lowN_le n h
    rw [posL_pos h, List.length_append, ih (n - lowN n) (by omega), onesN_low n h]
    rfl
theorem posL_le (k n : Nat) (h : n < 2 ^ k) : 1 ≤ (posL n).length ∧ (posL n).length ≤ k + 1 := by
  rw [length_posL]
  have := onesN_bits k n h
  omega
theorem posL_last (n : Nat) : ∃ q, posL n = q ++ [n] := by
  by_cases h : n = 0
  · subst h; exact ⟨[], posL_zero⟩
  · exact ⟨_, posL_pos h⟩
/-- ahead of the n-th, where it is taken away, stands a number whose lower bits are 0, and the one before the n-th has them all -/
theorem low_split : ∀ n, n ≠ 0 → ∃ z q, lowN n = 2 ^ z ∧ n - lowN n = 2 ^ z * q ∧ n = 2 ^ z * q + 2 ^ z ∧ n - 1 = 2 ^ z * q + (2 ^ z - 1) ∧ ∃ p, 2 ^ z * q = 2 ^ (z + 1) * p := by
  intro n
  induction n using Nat.strongRecOn with
  | ind n ih =>
  intro h0
  by_cases h : n % 2 = 1
  · refine ⟨0, n - 1, lowN_odd h, by rw [lowN_odd h, Nat.pow_zero, Nat.one_mul], by omega, by omega, (n - 1) / 2, by omega⟩
  · obtain ⟨z, q, h1, h2, h3, h4, p, h5⟩ := ih (n / 2) (by omega) (by omega)
    have e : 2 ^ (z + 1) = 2 * 2 ^ z := by rw [Nat.pow_succ, Nat.mul_comm]
    have e2 : 2 ^ (z + 1) * q = 2 * (2 ^ z * q) := by rw [e, Nat.mul_assoc]
    have e3 : 2 ^ (z + 1 + 1) * p = 2 * (2 ^ (z + 1) * p) := by rw [Nat.pow_succ 2 (z + 1), Nat.mul_comm (2 ^ (z + 1)) 2, Nat.mul_assoc]
    have hp := Nat.two_pow_pos z
    refine ⟨z + 1, q, by rw [lowN_even h0 h, h1, e], ?_, ?_, ?_, p, by rw [e2, e3, h5]⟩
    · rw [lowN_even h0 h, e2, ← h2]; omega
    · rw [e2, e]; omega
    · rw [e2, e]; omega
/-- one digest more is kept, half of the way on: from a number whose lower bits are 0 towards the one that has them all -/
theorem posL_half (z q : Nat) : posL (2 ^ (z + 1) * q) ++ [2 ^ (z + 1) * q + 2 ^ z] = posL (2 ^ z * (2 * q + 1)) ∧ 2 ^ (z + 1) * q + 2 ^ z = 2 ^ z * (2 * q + 1) ∧ 2 ^ (z + 1) * q + (2 ^ (z + 1) - 1) = 2 ^ z * (2 * q + 1) + (2 ^ z - 1) ∧ (2 ^ (z + 1) - 1 + 1) / 2 = 2 ^ z := by
  have e : 2 ^ (z + 1) = 2 * 2 ^ z := by rw [Nat.pow_succ, Nat.mul_comm]
  have e2 : 2 ^ z * (2 * q + 1) = 2 ^ (z + 1) * q + 2 ^ z := by rw [Nat.mul_add, Nat.mul_one, e, ← Nat.mul_assoc, Nat.mul_comm (2 ^ z) 2]
  have hp := Nat.two_pow_pos z
  refine ⟨by rw [e2, posL_bit], e2.symm, by rw [e2, e]; omega, by rw [e]; omega⟩
/-- the digests that are kept -/
def keptL (seed : Dig) (n : Nat) : List (Nat × Dig) := (posL n).map fun a => (a, walkN seed a)
theorem keptL_last (seed : Dig) (n : Nat) : ∃ q, keptL seed n = q ++ [(n, walkN seed n)] := by
  obtain ⟨q, h⟩ := posL_last n
  exact ⟨q.map fun a => (a, walkN seed a), by unfold keptL; rw [h, List.map_append]; rfl⟩
end Go.Proofs.YtkkmfkpanpjgbaaDoor
