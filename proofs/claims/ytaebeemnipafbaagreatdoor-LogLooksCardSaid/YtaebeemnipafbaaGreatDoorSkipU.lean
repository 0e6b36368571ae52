/-
  Proved here: an operation that only reads and is not wanted is passed over, whatever its slot held, in a region that draws its order. No condition on any program.
-/
import Derived.Test.YtaebeemnipafbaaGreatDoorSkip
set_option maxRecDepth 20000
set_option linter.unusedSimpArgs false
set_option linter.unusedVariables false
namespace Go.Proofs.YtaebeemnipafbaaGreatDoor
open Go.RowKit
theorem idx_w {P : Program} {ops : Array Oper} {Q : Act → World → Prop} {i : Nat} {rest : List (Nat × Nat)} {o : Oper} {a : Act} {w : World} (t : Tmp) (hi : ops[i]? = some o) (hd : o.dst = some t) (hw : Region.wanted o (yielded ops a.tmps) = false) (h : wpIdx P ops Q rest (a.put (some t) undef) w) : wpIdx P ops Q ((i, 0) :: rest) a w := by
  refine ⟨o, hi, fun _ hw' => absurd (hw.symm.trans hw') (by decide), ?_⟩
  unfold wpList
  rw [if_neg (by simp [hw]), hd]
  exact ⟨fun h => absurd h (by decide), h⟩
end Go.Proofs.YtaebeemnipafbaaGreatDoor
