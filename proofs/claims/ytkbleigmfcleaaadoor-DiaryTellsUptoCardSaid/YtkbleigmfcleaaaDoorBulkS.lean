/-
  Proved here: what is of a bulk has no more elements. No condition.
-/
import Derived.Test.YtkbleigmfcleaaaDoorRows
set_option linter.unusedSimpArgs false
set_option linter.unusedVariables false
namespace Go.Proofs.YtkbleigmfcleaaaDoor

theorem bulkS_pos {H : Type} (d : DataW H) : 1 ≤ Rows.uptoBulk d := by
  cases d with
  | lit l => cases l <;> simp [Rows.uptoBulk]
  | _ => simp [Rows.uptoBulk]
theorem bulkS_len {H : Type} : ∀ l : List (DataW H), l.length ≤ Rows.uptoBulkAll l
  | [] => Nat.zero_le _
  | d :: r => by
    have h1 := bulkS_pos d
    have h2 := bulkS_len r
    simp only [Rows.uptoBulkAll, List.length_cons]
    omega
theorem bulkS_slice {H : Type} {d : DataW H} {n : Nat} (hd : (d = .nil ∧ n = 0) ∨ ∃ el sp, d = .slice el sp ∧ el.length = n) : n ≤ Rows.uptoBulk d := by
  rcases hd with ⟨_, h⟩ | ⟨el, sp, rfl, rfl⟩
  · omega
  · have := bulkS_len el
    simp only [Rows.uptoBulk]
    omega
theorem bulkS_str {H : Type} (s : ByteArray) : s.size ≤ Rows.uptoBulk (DataW.lit (.string s.data.toList) : DataW H) := by
  have : s.data.toList.length = s.size := by simp
  simp only [Rows.uptoBulk]
  omega
theorem bulkS_all {H : Type} {l : List (DataW H)} (hk : Rows.uptoSmall H l = true) : ∀ d ∈ l, Rows.uptoBulk d ≤ 1048576 := by
  have h := of_decide_eq_true hk
  have key : ∀ (l : List (DataW H)), ∀ d ∈ l, Rows.uptoBulk d ≤ Rows.uptoBulkAll l := by
    intro l
    induction l with
    | nil => intro d hd; cases hd
    | cons x l ih =>
      intro d hd
      simp only [Rows.uptoBulkAll]
      rcases List.mem_cons.1 hd with rfl | hd
      · omega
      · have := ih d hd
        omega
  intro d hd
  exact Nat.le_trans (key l d hd) h
end Go.Proofs.YtkbleigmfcleaaaDoor
