/-
  Proved here: an operation that is not wanted is passed over, whatever its slot held. No condition on any program.
-/
import Derived.Test.YtkkmfkpanpjgbaaDoorLaw
import Derived.Test.YtkkmfkpanpjgbaaDoorDraw
import Derived.Test.YtkkmfkpanpjgbaaDoorLawC
set_option maxRecDepth 20000
set_option linter.unusedSimpArgs false
set_option linter.unusedVariables false
namespace Go.Proofs.YtkkmfkpanpjgbaaDoor
open Go.RowKit
theorem L_pass {P : Program} {ops : Array Oper} {rest : List Oper} {o : Oper} {a : Act} {W : World} {Q : Exit → Act → World → Prop} {t : Tmp} (hd : o.dst = some t) (hw : Region.wanted o (yielded ops a.tmps) = false) (h : wpList P ops Q rest (a.put (some t) undef) W) : wpList P ops Q (o :: rest) a W :=
  wpList_skip hw (by rw [hd]; exact h)
/-- an operation that only reads and is not wanted is passed over: its slot, never filled, stays so -/
theorem idx_u {P : Program} {ops : Array Oper} {Q : Act → World → Prop} {i : Nat} {rest : List (Nat × Nat)} {o : Oper} {a : Act} {w : World} (t : Tmp) (hi : ops[i]? = some o) (hd : o.dst = some t) (hw : Region.wanted o (yielded ops a.tmps) = false) (hu : a.tmps.toList[t]? = some undef) (h : wpIdx P ops Q rest a w) : wpIdx P ops Q ((i, 0) :: rest) a w := by
  refine ⟨o, hi, fun _ hw' => absurd (hw.symm.trans hw') (by decide), ?_⟩
  unfold wpList
  rw [if_neg (by simp [hw]), hd, put_same hu]
  exact ⟨fun h => absurd h (by decide), h⟩
end Go.Proofs.YtkkmfkpanpjgbaaDoor
