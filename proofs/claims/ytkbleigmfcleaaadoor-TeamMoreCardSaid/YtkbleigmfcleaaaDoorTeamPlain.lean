/-
  Proved here: plain laws of witnesses: which places of a row of keys have something, in their order; two majorities meet. No condition on any program.
-/
import Derived.Test.YtkbleigmfcleaaaDoorShaSpec
set_option maxRecDepth 20000
set_option linter.unusedSimpArgs false
set_option linter.unusedVariables false
namespace Go.Proofs.YtkbleigmfcleaaaDoor

/-- the places that have it, in their order -/
def rightL (p : Nat → Bool) (n : Nat) : List Nat := (List.range n).filter p
theorem rightL_succ (p : Nat → Bool) (n : Nat) : rightL p (n + 1) = rightL p n ++ (if p n = true then [n] else []) := by
  unfold rightL
  rw [List.range_succ, List.filter_append]
  by_cases h : p n = true
  · rw [if_pos h, List.filter_cons_of_pos h]; rfl
  · rw [if_neg h, List.filter_cons_of_neg h]; rfl
theorem rightL_zero (p : Nat → Bool) : rightL p 0 = [] := rfl
theorem mem_rightL {p : Nat → Bool} {n i : Nat} : i ∈ rightL p n ↔ i < n ∧ p i = true := by
  unfold rightL
  rw [List.mem_filter, List.mem_range]
theorem length_rightL_le (p : Nat → Bool) (n : Nat) : (rightL p n).length ≤ n := by
  have := List.length_filter_le p (List.range n)
  rwa [List.length_range] at this
/-- those of one row that are in another one -/
theorem rightL_both (p q : Nat → Bool) (n : Nat) : (rightL p n).filter (fun i => decide (i ∈ rightL q n)) = rightL (fun i => p i && q i) n := by
  unfold rightL
  rw [List.filter_filter]
  refine List.filter_congr (fun i hi => ?_)
  rw [List.mem_range] at hi
  by_cases h : q i = true
  · simp [List.mem_filter, hi, h]
  · simp [List.mem_filter, h]
/-- they grow -/
theorem rightL_sorted (p : Nat → Bool) (n : Nat) : (rightL p n).Pairwise (· < ·) := List.Pairwise.filter _ List.pairwise_lt_range
theorem rightL_lt {p : Nat → Bool} {n i j : Nat} (h : i < j) (hj : j < (rightL p n).length) : (rightL p n)[i] < (rightL p n)[j] := List.pairwise_iff_getElem.1 (rightL_sorted p n) i j (by omega) hj h
theorem rightL_at {p : Nat → Bool} {n i : Nat} (h : i < (rightL p n).length) : (rightL p n)[i] < n ∧ p (rightL p n)[i] = true := mem_rightL.1 (List.getElem_mem h)
/-- two majorities meet -/
theorem meet_len (p q : Nat → Bool) (l : List Nat) : (l.filter p).length + (l.filter q).length ≤ (l.filter (fun i => p i && q i)).length + l.length := by
  induction l with
  | nil => exact Nat.le_refl _
  | cons x l ih =>
    by_cases h1 : p x = true <;> by_cases h2 : q x = true <;> simp [h1, h2] <;> omega
theorem meet_right (p q : Nat → Bool) (n : Nat) : (rightL p n).length + (rightL q n).length ≤ (rightL (fun i => p i && q i) n).length + n := by
  have := meet_len p q (List.range n)
  rwa [List.length_range] at this
/-- where a place stands in the row -/
theorem rightL_split (p : Nat → Bool) : ∀ (n i : Nat), i ≤ n → ∃ r, rightL p n = rightL p i ++ r ∧ ∀ x ∈ r, i ≤ x := by
  intro n
  induction n with
  | zero => intro i hi; obtain rfl : i = 0 := by omega
            exact ⟨[], rfl, by simp⟩
  | succ n ih =>
    intro i hi
    by_cases h : i = n + 1
    · subst h; exact ⟨[], by simp, by simp⟩
    · obtain ⟨r, h1, h2⟩ := ih i (by omega)
      refine ⟨r ++ (if p n = true then [n] else []), by rw [rightL_succ, h1, List.append_assoc], ?_⟩
      intro x hx
      rcases List.mem_append.1 hx with hx | hx
      · exact h2 x hx
      · by_cases hp : p n = true
        · rw [if_pos hp] at hx
          rw [List.mem_singleton] at hx
          omega
        · rw [if_neg hp] at hx; cases hx
theorem rightL_find (p : Nat → Bool) (n i : Nat) (h : i < n) : ((rightL p i).length < (rightL p n).length ∧ (rightL p n)[(rightL p i).length]? = some i) ↔ p i = true := by
  obtain ⟨r, h1, h2⟩ := rightL_split p n (i + 1) h
  rw [rightL_succ] at h1
  by_cases hp : p i = true
  · rw [if_pos hp] at h1
    refine ⟨fun _ => hp, fun _ => ?_⟩
    rw [h1]
    refine ⟨by simp, ?_⟩
    rw [List.append_assoc, List.getElem?_append_right (Nat.le_refl _), Nat.sub_self]
    rfl
  · rw [if_neg hp, List.append_nil] at h1
    refine ⟨fun ⟨_, h3⟩ => ?_, fun h3 => absurd h3 hp⟩
    rw [h1, List.getElem?_append_right (Nat.le_refl _), Nat.sub_self] at h3
    match r, h3, h2 with
    | x :: r, h3, h2 =>
      simp at h3
      have := h2 x (List.mem_cons_self ..)
      omega
end Go.Proofs.YtkbleigmfcleaaaDoor
