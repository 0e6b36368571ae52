/-
  Proved here: slices of bytes whose reading is of a bulk have no more bytes together. No condition.
-/
import Derived.Test.YtnofmbajgjmdfaaDoorShaPieces
import Derived.Test.YtnofmbajgjmdfaaDoorRows
namespace Go.Proofs.YtnofmbajgjmdfaaDoor
open Go.RowKit

theorem bulk_pos {H : Type} (d : DataW H) : 1 ≤ Rows.uptoBulk d := by
  cases d with
  | lit l => cases l <;> simp [Rows.uptoBulk]
  | _ => simp [Rows.uptoBulk]
theorem bulkAll_len {H : Type} : ∀ l : List (DataW H), l.length ≤ Rows.uptoBulkAll l
  | [] => Nat.zero_le _
  | d :: r => by
    have h1 := bulk_pos d
    have h2 := bulkAll_len r
    simp only [Rows.uptoBulkAll, List.length_cons]
    omega
theorem bulkAll_app {H : Type} : ∀ a b : List (DataW H), Rows.uptoBulkAll (a ++ b) = Rows.uptoBulkAll a + Rows.uptoBulkAll b
  | [], b => by simp [Rows.uptoBulkAll]
  | d :: r, b => by simp only [List.cons_append, Rows.uptoBulkAll, bulkAll_app r b]; omega
theorem bulk_pieces {H : Type} {W : World} {n : Nat} {f : Nat → Piece} {d : DataW H} (hp : ∀ i, i < n → SlR W (f i).1 (f i).2.1 (f i).2.2.1 1 (bytesL (f i).2.2.2))
    (hd : (d = .nil ∧ n = 0) ∨ ∃ (D : Nat → DataW H) (sp : List (DataW H)), d = .slice ((List.range n).map D) sp ∧ ∀ i, i < n → (D i = .nil ∧ (f i).2.1 = 0) ∨ ∃ el sp, D i = .slice el sp ∧ el.length = (f i).2.1)
    (hk : Rows.uptoBulk d ≤ 1048576) : ∀ m, m ≤ n → (allP f m).length ≤ 1048576 := by
  rcases hd with ⟨_, rfl⟩ | ⟨D, sp, rfl, hD⟩
  · intro m hm
    obtain rfl : m = 0 := by omega
    exact Nat.zero_le _
  · have key : ∀ m, m ≤ n → (allP f m).length ≤ Rows.uptoBulkAll ((List.range m).map D) := by
      intro m
      induction m with
      | zero => intro _; simp [allP]
      | succ m ih =>
        intro hm
        have h1 := ih (by omega)
        have h2 := (hp m (by omega)).1
        rw [length_bytesL, Nat.mul_one] at h2
        have h3 : (f m).2.1 ≤ Rows.uptoBulk (D m) := by
          rcases hD m (by omega) with ⟨_, h0⟩ | ⟨el, s, he, hl⟩
          · omega
          · rw [he, ← hl]
            have := bulkAll_len el
            simp only [Rows.uptoBulk]
            omega
        rw [allP_succ, List.length_append, List.range_succ, List.map_append, bulkAll_app, h2]
        simp only [List.map_cons, List.map_nil, Rows.uptoBulkAll]
        omega
    have mono : ∀ m, m ≤ n → (allP f m).length ≤ (allP f n).length := by
      intro m hm
      obtain ⟨k, rfl⟩ := Nat.exists_eq_add_of_le hm
      clear key hk hm hD hp
      induction k with
      | zero => exact Nat.le_refl _
      | succ k ih => rw [← Nat.add_assoc, allP_succ, List.length_append]; omega
    intro m hm
    have h1 := mono m hm
    have h2 := key n (Nat.le_refl _)
    simp only [Rows.uptoBulk] at hk
    omega
theorem bulk_of {H : Type} {d : DataW H} {r : List (DataW H)} (hk : Rows.uptoSmall H (d :: r) = true) : Rows.uptoBulk d ≤ 1048576 := by
  have := of_decide_eq_true hk
  simp only [Rows.uptoBulkAll] at this
  omega
end Go.Proofs.YtnofmbajgjmdfaaDoor
