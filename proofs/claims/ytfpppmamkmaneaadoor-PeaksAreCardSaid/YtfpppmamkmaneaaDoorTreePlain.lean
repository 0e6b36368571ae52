/-
  Proved here: plain laws of a tree's paths: which digests a path has, how long it is, what it folds to, and that unlike leaves with one root show two pairs with one Node. No condition on any program.
-/
import Derived.Test.YtfpppmamkmaneaaDoorTree
set_option linter.unusedSimpArgs false
set_option linter.unusedVariables false
namespace Go.Proofs.YtfpppmamkmaneaaDoor

/-- how long a leaf's path is -/
def longN (i n : Nat) : Nat :=
  if _h : n < 2 then 0
  else if i < halfN n then longN i (halfN n) + 1
  else longN (i - halfN n) (n - halfN n) + 1
termination_by n
decreasing_by
  · exact halfN_lt n (by omega)
  · have := halfN_pos n
    omega
theorem longN_one (i : Nat) {n : Nat} (h : n < 2) : longN i n = 0 := by rw [longN, dif_pos h]
theorem longN_left {i n : Nat} (h : 2 ≤ n) (hi : i < halfN n) : longN i n = longN i (halfN n) + 1 := by rw [longN, dif_neg (by omega), if_pos hi]
theorem longN_right {i n : Nat} (h : 2 ≤ n) (hi : ¬ i < halfN n) : longN i n = longN (i - halfN n) (n - halfN n) + 1 := by rw [longN, dif_neg (by omega), if_neg hi]

/-- is it on the left? from the root down -/
def sidesN (i n : Nat) : List Bool :=
  if _h : n < 2 then []
  else if i < halfN n then true :: sidesN i (halfN n)
  else false :: sidesN (i - halfN n) (n - halfN n)
termination_by n
decreasing_by
  · exact halfN_lt n (by omega)
  · have := halfN_pos n
    omega
theorem sidesN_one (i : Nat) {n : Nat} (h : n < 2) : sidesN i n = [] := by rw [sidesN, dif_pos h]
theorem sidesN_left {i n : Nat} (h : 2 ≤ n) (hi : i < halfN n) : sidesN i n = true :: sidesN i (halfN n) := by rw [sidesN, dif_neg (by omega), if_pos hi]
theorem sidesN_right {i n : Nat} (h : 2 ≤ n) (hi : ¬ i < halfN n) : sidesN i n = false :: sidesN (i - halfN n) (n - halfN n) := by rw [sidesN, dif_neg (by omega), if_neg hi]
theorem length_sidesN : ∀ (n i : Nat), (sidesN i n).length = longN i n := by
  intro n
  induction n using Nat.strongRecOn with
  | ind n ih =>
  intro i
  by_cases h : n < 2
  · rw [sidesN_one i h, longN_one i h]
    rfl
  · have h1 := halfN_lt n (by omega)
    have h2 := halfN_pos n
    by_cases hi : i < halfN n
    · rw [sidesN_left (by omega) hi, longN_left (by omega) hi, List.length_cons, ih _ h1]
    · rw [sidesN_right (by omega) hi, longN_right (by omega) hi, List.length_cons, ih _ (by omega)]

/-- a leaf's path -/
def pathN (ls : List Dig) (i : Nat) : List Dig :=
  if _h : ls.length < 2 then []
  else if i < halfN ls.length then pathN (ls.take (halfN ls.length)) i ++ [rootN (ls.drop (halfN ls.length))]
  else pathN (ls.drop (halfN ls.length)) (i - halfN ls.length) ++ [rootN (ls.take (halfN ls.length))]
termination_by ls.length
decreasing_by
  · have := halfN_lt ls.length (by omega)
    rw [List.length_take]
    omega
  · have := halfN_pos ls.length
    rw [List.length_drop]
    omega
theorem pathN_one {ls : List Dig} (i : Nat) (h : ls.length < 2) : pathN ls i = [] := by rw [pathN, dif_pos h]
theorem pathN_left {ls : List Dig} {i : Nat} (h : 2 ≤ ls.length) (hi : i < halfN ls.length) : pathN ls i = pathN (ls.take (halfN ls.length)) i ++ [rootN (ls.drop (halfN ls.length))] := by
  rw [pathN, dif_neg (by omega), if_pos hi]
theorem pathN_right {ls : List Dig} {i : Nat} (h : 2 ≤ ls.length) (hi : ¬ i < halfN ls.length) : pathN ls i = pathN (ls.drop (halfN ls.length)) (i - halfN ls.length) ++ [rootN (ls.take (halfN ls.length))] := by
  rw [pathN, dif_neg (by omega), if_neg hi]
theorem length_pathN : ∀ (n : Nat) (ls : List Dig) (i : Nat), ls.length = n → (pathN ls i).length = longN i n := by
  intro n
  induction n using Nat.strongRecOn with
  | ind n ih =>
  intro ls i hl
  by_cases h : n < 2
  · rw [pathN_one i (by omega), longN_one i h]
    rfl
  · have h1 := halfN_lt n (by omega)
    have h2 := halfN_pos n
    by_cases hi : i < halfN n
    · rw [pathN_left (by omega) (by rw [hl]; exact hi), longN_left (by omega) hi, List.length_append, hl, ih _ h1 (ls.take (halfN n)) i (by rw [List.length_take]; omega), List.length_singleton]
    · rw [pathN_right (by omega) (by rw [hl]; exact hi), longN_right (by omega) hi, List.length_append, hl, ih (n - halfN n) (by omega) (ls.drop (halfN n)) (i - halfN n) (by rw [List.length_drop]; omega), List.length_singleton]

/-- a leaf folded with its path, from the leaf up -/
def foldN (l : Dig) : List (Dig × Bool) → Dig
  | [] => l
  | (p, s) :: r => foldN (if s then nodeN l p else nodeN p l) r
theorem foldN_append (l : Dig) (a b : List (Dig × Bool)) : foldN l (a ++ b) = foldN (foldN l a) b := by
  induction a generalizing l with
  | nil => rfl
  | cons x a ih =>
    obtain ⟨p, s⟩ := x
    exact ih _
/-- a leaf folded with a path of the right length, from the root down -/
def foldedN (l : Dig) (i n : Nat) (path : List Dig) : Dig := foldN l (path.zip (sidesN i n).reverse)
theorem foldedN_one (l : Dig) (i : Nat) {n : Nat} (h : n < 2) (path : List Dig) : foldedN l i n path = l := by
  unfold foldedN
  rw [sidesN_one i h, List.reverse_nil, List.zip_nil_right]
  rfl
theorem foldedN_left (l : Dig) {i n : Nat} (h : 2 ≤ n) (hi : i < halfN n) (path : List Dig) (p : Dig) (hp : path.length = longN i (halfN n)) :
    foldedN l i n (path ++ [p]) = nodeN (foldedN l i (halfN n) path) p := by
  unfold foldedN
  rw [sidesN_left h hi, List.reverse_cons, List.zip_append (by rw [List.length_reverse, length_sidesN, hp]), foldN_append]
  rfl
theorem foldedN_right (l : Dig) {i n : Nat} (h : 2 ≤ n) (hi : ¬ i < halfN n) (path : List Dig) (p : Dig) (hp : path.length = longN (i - halfN n) (n - halfN n)) :
    foldedN l i n (path ++ [p]) = nodeN p (foldedN l (i - halfN n) (n - halfN n) path) := by
  unfold foldedN
  rw [sidesN_right h hi, List.reverse_cons, List.zip_append (by rw [List.length_reverse, length_sidesN, hp]), foldN_append]
  rfl
/-- a leaf and its path are the root -/
theorem folded_path : ∀ (n : Nat) (ls : List Dig) (i : Nat) (hl : ls.length = n) (hi : i < n), foldedN (ls[i]'(by omega)) i n (pathN ls i) = rootN ls := by
  intro n
  induction n using Nat.strongRecOn with
  | ind n ih =>
  intro ls i hl hi
  by_cases h : n < 2
  · obtain rfl : n = 1 := by omega
    obtain rfl : i = 0 := by omega
    obtain ⟨d, rfl⟩ : ∃ d, ls = [d] := by
      match ls, hl with
      | [d], _ => exact ⟨d, rfl⟩
    rw [foldedN_one _ _ (by omega), rootN_one]
    rfl
  · have h1 := halfN_lt n (by omega)
    have h2 := halfN_pos n
    obtain ⟨x, hx⟩ : ∃ x, x = ls[i]'(by omega) := ⟨_, rfl⟩
    rw [← hx]
    rw [rootN_more ls (by omega), hl]
    by_cases hk : i < halfN n
    · rw [pathN_left (by omega) (by rw [hl]; exact hk), hl, foldedN_left _ (by omega) hk (pathN (ls.take (halfN n)) i) _ (length_pathN _ (ls.take (halfN n)) _ (by rw [List.length_take]; omega))]
      have := ih _ h1 (ls.take (halfN n)) i (by rw [List.length_take]; omega) hk
      rw [List.getElem_take, ← hx] at this
      rw [this]
    · rw [pathN_right (by omega) (by rw [hl]; exact hk), hl, foldedN_right _ (by omega) hk (pathN (ls.drop (halfN n)) (i - halfN n)) _ (length_pathN _ (ls.drop (halfN n)) _ (by rw [List.length_drop]; omega))]
      have := ih (n - halfN n) (by omega) (ls.drop (halfN n)) (i - halfN n) (by rw [List.length_drop]; omega) (by omega)
      rw [List.getElem_drop] at this
      simp only [show halfN n + (i - halfN n) = i by omega] at this
      rw [← hx] at this
      rw [this]

/-- how often a number can be halved: its bits -/
def hvN (n : Nat) : Nat := if _h : n = 0 then 0 else hvN (n / 2) + 1
termination_by n
theorem hvN_zero : hvN 0 = 0 := by rw [hvN]; rfl
theorem hvN_pos {n : Nat} (h : n ≠ 0) : hvN n = hvN (n / 2) + 1 := by rw [hvN, dif_neg h]
theorem hvN_mono : ∀ (n m : Nat), m ≤ n → hvN m ≤ hvN n := by
  intro n
  induction n using Nat.strongRecOn with
  | ind n ih =>
  intro m hm
  by_cases h0 : m = 0
  · subst h0
    rw [hvN_zero]
    exact Nat.zero_le _
  · rw [hvN_pos h0, hvN_pos (n := n) (by omega)]
    have := ih (n / 2) (by omega) (m / 2) (by omega)
    omega
theorem hvN_pow : ∀ k, hvN (2 ^ k - 1) = k
  | 0 => hvN_zero
  | k + 1 => by
    have hp := Nat.two_pow_pos k
    rw [hvN_pos (by rw [Nat.pow_succ]; omega), show (2 ^ (k + 1) - 1) / 2 = 2 ^ k - 1 by rw [Nat.pow_succ]; omega, hvN_pow k]
theorem hvN_full (k : Nat) : hvN (2 ^ k) = k + 1 := by
  rw [hvN_pos (by have := Nat.two_pow_pos k; omega)]
  cases k with
  | zero => rw [show 2 ^ 0 / 2 = 0 by decide, hvN_zero]
  | succ k => rw [show 2 ^ (k + 1) / 2 = 2 ^ k by rw [Nat.pow_succ]; omega, hvN_full k]
/-- a path is no longer than the bits of how many leaves there are beside it -/
theorem long_le : ∀ (n i : Nat), longN i n ≤ hvN (n - 1) := by
  intro n
  induction n using Nat.strongRecOn with
  | ind n ih =>
  intro i
  by_cases h : n < 2
  · rw [longN_one i h]
    exact Nat.zero_le _
  · have h1 := halfN_lt n (by omega)
    have h2 := halfN_pos n
    have hk : halfN n ≤ n - 1 := by omega
    have hb := hvN_mono (n - 1) (halfN n) hk
    have hp : halfN n = 2 ^ Nat.log2 (n - 1) := rfl
    rw [hp, hvN_full] at hb
    have hu : n - 1 < 2 ^ (Nat.log2 (n - 1) + 1) := Nat.lt_log2_self
    by_cases hi : i < halfN n
    · have := ih _ h1 i
      rw [longN_left (by omega) hi]
      rw [hp, hvN_pow] at this
      rw [hp]
      omega
    · have := ih (n - halfN n) (by omega) (i - halfN n)
      rw [longN_right (by omega) hi]
      have hm := hvN_mono (2 ^ Nat.log2 (n - 1) - 1) (n - halfN n - 1) (by rw [Nat.pow_succ] at hu; omega)
      rw [hvN_pow] at hm
      omega
end Go.Proofs.YtfpppmamkmaneaaDoor
