/-
  Proved here: an operation that only reads and is not wanted is passed over, whatever its slot held, in a region that draws its order. No condition on any program.
-/
import Derived.Test.YtaebeemnipafbaaGreatDoorSkip
set_option maxRecDepth 20000
set_option linter.unusedSimpArgs false
set_option linter.unusedVariables false
namespace Go.Proofs.YtaebeemnipafbaaGreatDoor
open Go.RowKit
/-- two texts put together: it only reads -/
theorem calmV_strAdd {P : Program} {ρ : Operand → Value} {o : Oper} {t t' : TypeId} {x y : Operand} {s u : ByteArray} (ho : o.op = .binOp .add t x y t') (hx : ρ x = .string s) (hy : ρ y = .string u) : CalmV P (execOp ρ o) := by
  have e : execOp ρ o = (do Pure.pure (.value (← (do eqGuard .add t x y (.string s) (.string u); Go.binOp .add t (.string s) (.string u)))) : Sem Next) := by
    unfold execOp
    simp only [ho, hx, hy]
  rw [e]
  refine CalmV.of (Calm.bind ?_ fun _ => ?_)
  · have e1 : eqGuard .add t x y (.string s) (.string u) = Pure.pure () := rfl
    rw [e1]
    exact Calm.pure _
  · show Calm P (Op.stringOp .add s u)
    unfold Op.stringOp
    simp only
    split
    · (exact Calm.halt _)
    · exact Calm.pure _
theorem idx_sa {P : Program} {ops : Array Oper} {Q : Act → World → Prop} {i : Nat} {rest : List (Nat × Nat)} {o : Oper} {a : Act} {w : World} (hi : ops[i]? = some o) {t t' : TypeId} {x y : Operand} {s u : ByteArray} (ho : o.op = .binOp .add t x y t') (hx : a.eval x = .string s) (hy : a.eval y = .string u)
    (h : wpList P ops (Exit.then (wpIdx P ops Q rest) fun _ _ _ => False) [o] a w) : wpIdx P ops Q ((i, 0) :: rest) a w :=
  idx_qv hi (calmV_strAdd ho hx hy) h
end Go.Proofs.YtaebeemnipafbaaGreatDoor
