/-
  Proved here: how many bits of a number are 1. No condition on any program.
-/
import Derived.Test.YtkkmfkpanpjgbaaDoorChain
set_option maxRecDepth 20000
set_option linter.unusedSimpArgs false
set_option linter.unusedVariables false
namespace Go.Proofs.YtkkmfkpanpjgbaaDoor

/-- how many bits are 1 -/
def onesN (n : Nat) : Nat := if _h : n = 0 then 0 else n % 2 + onesN (n / 2)
termination_by n
theorem onesN_zero : onesN 0 = 0 := by rw [onesN]; rfl
theorem onesN_pos {n : Nat} (h : n ≠ 0) : onesN n = n % 2 + onesN (n / 2) := by rw [onesN, dif_neg h]
theorem onesN_odd {n : Nat} (h : n % 2 = 1) : onesN n = onesN (n / 2) + 1 := by rw [onesN_pos (by omega), h, Nat.add_comm]
theorem onesN_even {n : Nat} (h : n % 2 = 0) : onesN n = onesN (n / 2) := by
  by_cases h0 : n = 0
  · subst h0; rfl
  · rw [onesN_pos h0, h, Nat.zero_add]
theorem onesN_pow : ∀ (j m : Nat), m < 2 ^ j → onesN (2 ^ j + m) = onesN m + 1 := by
  intro j
  induction j with
  | zero =>
    intro m hm
    obtain rfl : m = 0 := by simpa using hm
    rw [onesN_odd (by decide)]
  | succ j ih =>
    intro m hm
    rw [Nat.pow_succ] at hm
    have h1 := ih (m / 2) (by omega)
    have h2 : (2 ^ (j + 1) + m) / 2 = 2 ^ j + m / 2 := by rw [Nat.pow_succ]; omega
    by_cases hp : m % 2 = 1
    · rw [onesN_odd (n := 2 ^ (j + 1) + m) (by rw [Nat.pow_succ]; omega), h2, h1, onesN_odd hp]
    · rw [onesN_even (n := 2 ^ (j + 1) + m) (by rw [Nat.pow_succ]; omega), h2, h1, onesN_even (n := m) (by omega)]
theorem onesN_le : ∀ (n : Nat), onesN n ≤ n := by
  intro n
  induction n using Nat.strongRecOn with
  | ind n ih =>
  by_cases h : n = 0
  · subst h; rw [onesN_zero]; exact Nat.le_refl _
  · rw [onesN_pos h]
    have := ih (n / 2) (by omega)
    omega
theorem onesN_bits : ∀ (k n : Nat), n < 2 ^ k → onesN n ≤ k := by
  intro k
  induction k with
  | zero =>
    intro n hn
    obtain rfl : n = 0 := by simpa using hn
    rw [onesN_zero]
    exact Nat.le_refl _
  | succ k ih =>
    intro n hn
    rw [Nat.pow_succ] at hn
    by_cases h : n = 0
    · subst h; rw [onesN_zero]; exact Nat.zero_le _
    · rw [onesN_pos h]
      have := ih (n / 2) (by omega)
      omega
end Go.Proofs.YtkkmfkpanpjgbaaDoor
