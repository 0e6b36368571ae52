/-
  Proved here: plain laws of a list that is turned round by swaps from both ends; an element of a row of digests replaced. No condition on any program.
-/
import Derived.Test.YthlpobpkhlbfdaaDoorDigsL
import Derived.Test.YthlpobpkhlbfdaaDoorSameD
set_option linter.unusedSimpArgs false
set_option linter.unusedVariables false
namespace Go.Proofs.YthlpobpkhlbfdaaDoor

/-- l' is l, swapped at both ends up to i -/
structure SwapAt {α : Type} (l l' : List α) (i : Nat) : Prop where
  len : l'.length = l.length
  at_ : ∀ k, k < l.length → l'[k]? = if k < i ∨ l.length ≤ k + i then l[l.length - 1 - k]? else l[k]?
theorem SwapAt.start {α : Type} (l : List α) : SwapAt l l 0 := ⟨rfl, fun k hk => by rw [if_neg (by omega)]⟩
theorem SwapAt.step {α : Type} {l l' : List α} {i : Nat} (h : SwapAt l l' i) (hi : 2 * i + 1 < l.length) {x y : α} (hx : l'[i]? = some x) (hy : l'[l.length - 1 - i]? = some y) : SwapAt l ((l'.set i y).set (l.length - 1 - i) x) (i + 1) := by
  refine ⟨by rw [List.length_set, List.length_set, h.len], fun k hk => ?_⟩
  have h1 := h.at_ i (by omega)
  have h2 := h.at_ (l.length - 1 - i) (by omega)
  rw [if_neg (by omega), hx] at h1
  rw [if_neg (by omega), hy] at h2
  rw [List.getElem?_set, List.getElem?_set, List.length_set, h.len]
  by_cases hkj : l.length - 1 - i = k
  · rw [if_pos hkj, if_pos (by omega), if_pos (by omega), h1]
    congr 1
    omega
  · rw [if_neg hkj]
    by_cases hki : i = k
    · subst hki
      rw [if_pos rfl, if_pos (by omega), if_pos (by omega), h2]
    · rw [if_neg hki, h.at_ k hk]
      by_cases hc : k < i ∨ l.length ≤ k + i
      · rw [if_pos hc, if_pos (by omega)]
      · rw [if_neg hc, if_neg (by omega)]
theorem SwapAt.done {α : Type} {l l' : List α} {i : Nat} (h : SwapAt l l' i) (hi : l.length ≤ 2 * i + 1) : l' = l.reverse := by
  apply List.ext_getElem?
  intro k
  by_cases hk : k < l.length
  · rw [h.at_ k hk, List.getElem?_reverse hk]
    by_cases hc : k < i ∨ l.length ≤ k + i
    · rw [if_pos hc]
    · rw [if_neg hc]
      congr 1
      omega
  · rw [List.getElem?_eq_none (by rw [h.len]; omega), List.getElem?_eq_none (by rw [List.length_reverse]; omega)]
theorem digsL_cons (d : Dig) (l : List Dig) : digsL (d :: l) = d.arr.toList ++ digsL l := by simp [digsL, Dig.toList]
theorem digsL_set : ∀ (l : List Dig) (i : Nat) (d : Dig), i < l.length → (digsL l).take (i * 32) ++ d.arr.toList ++ (digsL l).drop (i * 32 + 32) = digsL (l.set i d)
  | [], i, d, h => by simp at h
  | x :: l, 0, d, _ => by
    rw [digsL_cons, List.set_cons_zero, digsL_cons, Nat.zero_mul, Nat.zero_add, List.take_zero, List.nil_append, List.drop_append_of_le_length (by rw [Array.length_toList, Dig.size]; exact Nat.le_refl _)]
    rw [List.drop_eq_nil_of_le (by rw [Array.length_toList, Dig.size]; exact Nat.le_refl _), List.nil_append]
  | x :: l, i + 1, d, h => by
    have hs : x.arr.toList.length = 32 := by rw [Array.length_toList, Dig.size]
    have ih := digsL_set l i d (by simpa using h)
    rw [digsL_cons, List.set_cons_succ, digsL_cons, ← ih, List.take_append, List.drop_append, hs]
    have e1 : x.arr.toList.take ((i + 1) * 32) = x.arr.toList := List.take_of_length_le (by omega)
    have e2 : x.arr.toList.drop ((i + 1) * 32 + 32) = [] := List.drop_eq_nil_of_le (by omega)
    rw [e1, e2, show (i + 1) * 32 - 32 = i * 32 by omega, show (i + 1) * 32 + 32 - 32 = i * 32 + 32 by omega, List.nil_append]
    simp only [List.append_assoc]
/-- bools as values -/
def boolsL (l : List Bool) : List Value := l.map fun b => .bool b
theorem length_boolsL (l : List Bool) : (boolsL l).length = l.length := by simp [boolsL]
theorem boolsL_append (a b : List Bool) : boolsL (a ++ b) = boolsL a ++ boolsL b := by simp [boolsL]
theorem boolsL_set (l : List Bool) (i : Nat) (b : Bool) : (boolsL l).set i (.bool b) = boolsL (l.set i b) := by simp [boolsL, List.map_set]
theorem boolsL_at (l : List Bool) (i : Nat) (h : i < l.length) : (boolsL l)[i]? = some (.bool l[i]) := by simp [boolsL, h]
theorem oneCell_bools {l : List Bool} : ∀ v ∈ boolsL l, v.oneCell' = true := fun v hv => by
  obtain ⟨b, _, rfl⟩ := List.mem_map.1 hv
  rfl
end Go.Proofs.YthlpobpkhlbfdaaDoor
