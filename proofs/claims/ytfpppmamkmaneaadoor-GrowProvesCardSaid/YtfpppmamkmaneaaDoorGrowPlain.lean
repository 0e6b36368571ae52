/-
  Proved here: plain laws of a tree that grows: which digests a proof has, how many, what it folds to. No condition on any program.
-/
import Derived.Test.YtfpppmamkmaneaaDoorTreePlain
set_option maxRecDepth 20000
set_option linter.unusedSimpArgs false
set_option linter.unusedVariables false
namespace Go.Proofs.YtfpppmamkmaneaaDoor

/-- how many digests a proof has -/
def plN (n m : Nat) (own : Bool) : Nat :=
  if m = n then (if own then 0 else 1)
  else if _h : n < 2 then 0
  else if m ≤ halfN n then plN (halfN n) m own + 1
  else plN (n - halfN n) (m - halfN n) false + 1
termination_by n
decreasing_by
  · exact halfN_lt n (by omega)
  · have := halfN_pos n
    omega
theorem plN_all (n : Nat) (own : Bool) : plN n n own = if own then 0 else 1 := by rw [plN, if_pos rfl]
theorem plN_left {n m : Nat} {own : Bool} (h : m ≠ n) (h2 : 2 ≤ n) (hk : m ≤ halfN n) : plN n m own = plN (halfN n) m own + 1 := by rw [plN, if_neg h, dif_neg (by omega), if_pos hk]
theorem plN_right {n m : Nat} {own : Bool} (h : m ≠ n) (h2 : 2 ≤ n) (hk : ¬ m ≤ halfN n) : plN n m own = plN (n - halfN n) (m - halfN n) false + 1 := by rw [plN, if_neg h, dif_neg (by omega), if_neg hk]
theorem plN_le : ∀ (n m : Nat) (own : Bool), plN n m own ≤ n + 1 := by
  intro n
  induction n using Nat.strongRecOn with
  | ind n ih =>
  intro m own
  by_cases h : m = n
  · subst h
    rw [plN_all]
    split <;> omega
  · by_cases h2 : n < 2
    · rw [plN, if_neg h, dif_pos h2]
      omega
    · have h1 := halfN_lt n (by omega)
      have h3 := halfN_pos n
      by_cases hk : m ≤ halfN n
      · have := ih _ h1 m own
        rw [plN_left h (by omega) hk]
        omega
      · have := ih (n - halfN n) (by omega) (m - halfN n) false
        rw [plN_right h (by omega) hk]
        omega

/-- a proof that the first m leaves were there -/
def gpN (ls : List Dig) (m : Nat) (own : Bool) : List Dig :=
  if m = ls.length then (if own then [] else [rootN ls])
  else if _h : ls.length < 2 then []
  else if m ≤ halfN ls.length then gpN (ls.take (halfN ls.length)) m own ++ [rootN (ls.drop (halfN ls.length))]
  else gpN (ls.drop (halfN ls.length)) (m - halfN ls.length) false ++ [rootN (ls.take (halfN ls.length))]
termination_by ls.length
decreasing_by
  · have := halfN_lt ls.length (by omega)
    rw [List.length_take]
    omega
  · have := halfN_pos ls.length
    rw [List.length_drop]
    omega
theorem gpN_all (ls : List Dig) {m : Nat} (own : Bool) (h : m = ls.length) : gpN ls m own = if own then [] else [rootN ls] := by rw [gpN, if_pos h]
theorem gpN_left {ls : List Dig} {m : Nat} {own : Bool} (h : m ≠ ls.length) (h2 : 2 ≤ ls.length) (hk : m ≤ halfN ls.length) : gpN ls m own = gpN (ls.take (halfN ls.length)) m own ++ [rootN (ls.drop (halfN ls.length))] := by
  rw [gpN, if_neg h, dif_neg (by omega), if_pos hk]
theorem gpN_right {ls : List Dig} {m : Nat} {own : Bool} (h : m ≠ ls.length) (h2 : 2 ≤ ls.length) (hk : ¬ m ≤ halfN ls.length) : gpN ls m own = gpN (ls.drop (halfN ls.length)) (m - halfN ls.length) false ++ [rootN (ls.take (halfN ls.length))] := by
  rw [gpN, if_neg h, dif_neg (by omega), if_neg hk]
theorem length_gpN : ∀ (n : Nat) (ls : List Dig) (m : Nat) (own : Bool), ls.length = n → (gpN ls m own).length = plN n m own := by
  intro n
  induction n using Nat.strongRecOn with
  | ind n ih =>
  intro ls m own hl
  by_cases h : m = n
  · subst h
    rw [gpN_all ls own hl.symm, plN_all]
    split <;> rfl
  · by_cases h2 : n < 2
    · rw [gpN, if_neg (by omega), dif_pos (by omega), plN, if_neg h, dif_pos h2]
      rfl
    · have h1 := halfN_lt n (by omega)
      have h3 := halfN_pos n
      by_cases hk : m ≤ halfN n
      · rw [gpN_left (by omega) (by omega) (by rw [hl]; exact hk), plN_left h (by omega) hk, List.length_append, hl, ih _ h1 (ls.take (halfN n)) m own (by rw [List.length_take]; omega), List.length_singleton]
      · rw [gpN_right (by omega) (by omega) (by rw [hl]; exact hk), plN_right h (by omega) hk, List.length_append, hl, ih (n - halfN n) (by omega) (ls.drop (halfN n)) (m - halfN n) false (by rw [List.length_drop]; omega), List.length_singleton]

/-- both roots that a proof of the right length tells -/
def grN (n m : Nat) (own : Bool) (old : Dig) (p : List Dig) : Dig × Dig :=
  if m = n then (if own then (old, old) else (p.getLastD zeroD, p.getLastD zeroD))
  else if _h : n < 2 then (old, old)
  else if m ≤ halfN n then
    ((grN (halfN n) m own old p.dropLast).1, nodeN (grN (halfN n) m own old p.dropLast).2 (p.getLastD zeroD))
  else
    (nodeN (p.getLastD zeroD) (grN (n - halfN n) (m - halfN n) false old p.dropLast).1, nodeN (p.getLastD zeroD) (grN (n - halfN n) (m - halfN n) false old p.dropLast).2)
termination_by n
decreasing_by
  all_goals first
    | exact halfN_lt n (by omega)
    | (have := halfN_pos n; omega)
theorem grN_all (n : Nat) (own : Bool) (old : Dig) (p : List Dig) : grN n n own old p = if own then (old, old) else (p.getLastD zeroD, p.getLastD zeroD) := by rw [grN, if_pos rfl]
theorem grN_left {n m : Nat} {own : Bool} {old : Dig} (h : m ≠ n) (h2 : 2 ≤ n) (hk : m ≤ halfN n) (q : List Dig) (d : Dig) : grN n m own old (q ++ [d]) = ((grN (halfN n) m own old q).1, nodeN (grN (halfN n) m own old q).2 d) := by
  rw [grN, if_neg h, dif_neg (by omega), if_pos hk]
  simp
theorem grN_right {n m : Nat} {own : Bool} {old : Dig} (h : m ≠ n) (h2 : 2 ≤ n) (hk : ¬ m ≤ halfN n) (q : List Dig) (d : Dig) : grN n m own old (q ++ [d]) = (nodeN d (grN (n - halfN n) (m - halfN n) false old q).1, nodeN d (grN (n - halfN n) (m - halfN n) false old q).2) := by
  rw [grN, if_neg h, dif_neg (by omega), if_neg hk]
  simp
theorem root_take {ls : List Dig} {m : Nat} (h2 : 2 ≤ ls.length) (hk : ¬ m ≤ halfN ls.length) (hm : m ≤ ls.length) :
    rootN (ls.take m) = nodeN (rootN (ls.take (halfN ls.length))) (rootN ((ls.drop (halfN ls.length)).take (m - halfN ls.length))) := by
  have h3 := halfN_pos ls.length
  have hl : (ls.take m).length = m := by rw [List.length_take]; omega
  have hh : halfN m = halfN ls.length := by
    have hu : ls.length - 1 < 2 ^ (Nat.log2 (ls.length - 1) + 1) := Nat.lt_log2_self
    refine halfN_of (Nat.log2 (ls.length - 1)) rfl (by omega) ?_
    unfold halfN
    rw [Nat.pow_succ] at hu
    omega
  rw [rootN_more (ls.take m) (by omega), hl, hh, List.take_take, Nat.min_eq_left (by omega), List.drop_take]
/-- a proof tells both roots -/
theorem grow_proves : ∀ (n : Nat) (ls : List Dig) (m : Nat) (own : Bool) (old : Dig), ls.length = n → 1 ≤ m → m ≤ n → (own = true → old = rootN (ls.take m)) → grN n m own old (gpN ls m own) = (rootN (ls.take m), rootN ls) := by
  intro n
  induction n using Nat.strongRecOn with
  | ind n ih =>
  intro ls m own old hl h1 hm ho
  by_cases h : m = n
  · subst h
    rw [gpN_all ls own hl.symm, grN_all, List.take_of_length_le (by omega)]
    cases own with
    | true =>
      have := ho rfl
      rw [List.take_of_length_le (by omega)] at this
      simp [this]
    | false => simp
  · have h2 : 2 ≤ n := by omega
    have hlt := halfN_lt n h2
    have hps := halfN_pos n
    by_cases hk : m ≤ halfN n
    · have hl' : (ls.take (halfN n)).length = halfN n := by rw [List.length_take]; omega
      have ht : (ls.take (halfN n)).take m = ls.take m := by rw [List.take_take, Nat.min_eq_left hk]
      have := ih _ hlt (ls.take (halfN n)) m own old hl' h1 hk (fun e => by rw [ht]; exact ho e)
      rw [gpN_left (by omega) (by omega) (by rw [hl]; exact hk), hl, grN_left h h2 hk, this, ht, rootN_more ls (by omega), hl]
    · have hl' : (ls.drop (halfN n)).length = n - halfN n := by rw [List.length_drop, hl]
      have := ih (n - halfN n) (by omega) (ls.drop (halfN n)) (m - halfN n) false old hl' (by omega) (by omega) (fun e => by cases e)
      rw [gpN_right (by omega) (by omega) (by rw [hl]; exact hk), hl, grN_right h h2 hk, this, root_take (m := m) (by omega) (by rw [hl]; exact hk) (by omega), rootN_more ls (by omega), hl]
end Go.Proofs.YtfpppmamkmaneaaDoor
