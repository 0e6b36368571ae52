/-
  Proved here: each slice of a slice of slices is no longer than a slice that was handed in may be. No condition on any program.
-/
import Derived.Test.YtkbleigmfcleaaaDoorOpenS
import Derived.SizedLaws
set_option maxRecDepth 20000
set_option linter.unusedSimpArgs false
set_option linter.unusedVariables false
namespace Go.Proofs.YtkbleigmfcleaaaDoor
open Go.ChangeShapes Go.WideShapes Go.ChangeAt Go.RowKit Go.Deep

section
variable {P : Program} {H : Type} {ts : List TypeId} {ds : List (DataW H)}
theorem weights_mem_all {e : TypeId} {d : DataW H} {x : Nat} (hx : x ∈ d.weights P e) : ∀ {l : List (DataW H)}, d ∈ l → x ∈ DataW.weightsAll P e l
  | y :: l, h => by
    rcases List.mem_cons.1 h with rfl | h
    · simp only [DataW.weightsAll, List.mem_append]; exact .inl hx
    · simp only [DataW.weightsAll, List.mem_append]; exact .inr (weights_mem_all hx h)
theorem pieces_small (h : (DataW.weightsEach P ts ds).all (· ≤ reachBytes) = true) {j : Nat} {t u e : TypeId} {d : DataW H} (ht : ts[j]? = some t) (hd : ds[j]? = some d) (hu : P.underlying t = some (.slice u)) (hue : P.underlying u = some (.slice e)) (hb : P.bytesOf e = 1) {n : Nat} {f : Nat → Piece}
    (hD : (d = .nil ∧ n = 0) ∨ ∃ (D : Nat → DataW H) (sp : List (DataW H)), d = .slice ((List.range n).map D) sp ∧ ∀ i, i < n → (D i = .nil ∧ (f i).2.1 = 0) ∨ ∃ el sp, D i = .slice el sp ∧ el.length = (f i).2.1) : ∀ i, i < n → (f i).2.1 ≤ 140737488351232 := by
  intro i hi
  rcases hD with ⟨_, rfl⟩ | ⟨D, sp, rfl, hD⟩
  · omega
  · rcases hD i hi with ⟨_, h0⟩ | ⟨el, sp', hDi, hel⟩
    · omega
    · have hm : D i ∈ (List.range n).map D := List.mem_map.2 ⟨i, List.mem_range.2 hi, rfl⟩
      have hw : (el.length + sp'.length) * P.bytesOf e ∈ (D i).weights P u := by rw [hDi]; simp [DataW.weights, hue]
      have := List.all_eq_true.1 h _ (DataW.weights_mem_each ht hd _ (by
        simp only [DataW.weights, hu, List.mem_cons, List.mem_append]
        exact .inr (.inl (weights_mem_all hw hm))))
      have h2 : (el.length + sp'.length) * P.bytesOf e ≤ reachBytes := by simpa using this
      rw [hb] at h2
      have := reach_le h2
      omega
end
end Go.Proofs.YtkbleigmfcleaaaDoor
