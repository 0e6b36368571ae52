/-
  Proved here: rows of slices of bytes whose reading is of a bulk: what a diary of them is long. No condition.
-/
import Derived.Test.YtkbleigmfcleaaaDoorOpenS
import Derived.Test.YtkbleigmfcleaaaDoorDRows
import Derived.Test.YtkbleigmfcleaaaDoorBulkS
set_option maxRecDepth 20000
set_option linter.unusedSimpArgs false
set_option linter.unusedVariables false
namespace Go.Proofs.YtkbleigmfcleaaaDoor
open Go.RowKit

theorem rows_of2 {W : World} {A : Option Addr} {n c : Nat} {f : Nat → Piece} (hs : SlR W A n c 1 ((List.range n).map fun i => (f i).v)) (hp : ∀ i, i < n → SlR W (f i).1 (f i).2.1 (f i).2.2.1 1 (bytesL (f i).2.2.2)) :
    RowsAt W A n c ((List.range n).map fun i => (f i).2.2.2) :=
  ⟨(List.range n).map f, by rw [piecesL, List.map_map]; exact hs, fun p hq => by
    obtain ⟨i, hi, rfl⟩ := List.mem_map.1 hq
    exact hp i (List.mem_range.1 hi), by rw [recsP, List.map_map]; rfl⟩
theorem bulkS_app2 {H : Type} : ∀ a b : List (DataW H), Rows.uptoBulkAll (a ++ b) = Rows.uptoBulkAll a + Rows.uptoBulkAll b
  | [], b => by simp [Rows.uptoBulkAll]
  | d :: r, b => by simp only [List.cons_append, Rows.uptoBulkAll, bulkS_app2 r b]; omega
theorem endD_app2 (a b : List (List UInt8)) : endD (a ++ b) = endD a + endD b := by
  rw [← length_diaryN (a ++ b) [], diaryN_append, List.length_append, length_diaryN, length_diaryN]
theorem bulk_rows2 {H : Type} {W : World} {n : Nat} {f : Nat → Piece} {d : DataW H} (hp : ∀ i, i < n → SlR W (f i).1 (f i).2.1 (f i).2.2.1 1 (bytesL (f i).2.2.2))
    (hd : (d = .nil ∧ n = 0) ∨ ∃ (D : Nat → DataW H) (sp : List (DataW H)), d = .slice ((List.range n).map D) sp ∧ ∀ i, i < n → (D i = .nil ∧ (f i).2.1 = 0) ∨ ∃ el sp, D i = .slice el sp ∧ el.length = (f i).2.1)
    (hk : Rows.uptoBulk d ≤ 1048576) : endD ((List.range n).map fun i => (f i).2.2.2) ≤ 11534336 := by
  rcases hd with ⟨_, rfl⟩ | ⟨D, sp, rfl, hD⟩
  · exact Nat.zero_le _
  · have key : ∀ m, m ≤ n → endD ((List.range m).map fun i => (f i).2.2.2) ≤ 11 * Rows.uptoBulkAll ((List.range m).map D) := by
      intro m
      induction m with
      | zero => intro _; exact Nat.zero_le _
      | succ m ih =>
        intro hm
        have h1 := ih (by omega)
        have h2 := (hp m (by omega)).1
        rw [length_bytesL, Nat.mul_one] at h2
        have h3 : (f m).2.1 + 10 ≤ 11 * Rows.uptoBulk (D m) := by
          have h4 := bulkS_pos (D m)
          rcases hD m (by omega) with ⟨_, h0⟩ | ⟨el, s, he, hl⟩
          · omega
          · rw [he, ← hl]
            have := bulkS_len el
            simp only [Rows.uptoBulk]
            omega
        rw [List.range_succ, List.map_append, List.map_append, endD_app2, bulkS_app2]
        simp only [List.map_cons, List.map_nil, Rows.uptoBulkAll, endD_cons]
        have : endD [] = 0 := rfl
        omega
    have h2 := key n (Nat.le_refl _)
    simp only [Rows.uptoBulk] at hk
    omega
end Go.Proofs.YtkbleigmfcleaaaDoor
