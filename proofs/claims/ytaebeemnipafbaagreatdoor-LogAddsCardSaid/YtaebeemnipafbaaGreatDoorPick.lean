/-
  Proved here: a choice between two values whose test is decided. No condition on any program.
-/
import Derived.Test.YtaebeemnipafbaaGreatDoorLawC
set_option maxRecDepth 20000
set_option linter.unusedSimpArgs false
set_option linter.unusedVariables false
namespace Go.Proofs.YtaebeemnipafbaaGreatDoor
open Go.RowKit

section
variable {P : Program} {ops : Array Oper} {rest : List Oper} {o : Oper} {a : Act} {W : World} {Q : Exit → Act → World → Prop} {d : Option Tmp}
theorem L_pickF (hd : o.dst = d) (hw : Region.wanted o (yielded ops a.tmps) = true) {c x y : Operand} (ho : o.op = .pick c x y) (hc : a.eval c = .bool false) {v : Value} (hy : a.eval y = v) (h : wpList P ops Q rest (a.put d v) W) : wpList P ops Q (o :: rest) a W := by
  refine L_val hd hw ?_ h
  unfold execOp
  simp [ho, hc, hy, asBool]
theorem L_pickT (hd : o.dst = d) (hw : Region.wanted o (yielded ops a.tmps) = true) {c x y : Operand} (ho : o.op = .pick c x y) (hc : a.eval c = .bool true) {v : Value} (hx : a.eval x = v) (h : wpList P ops Q rest (a.put d v) W) : wpList P ops Q (o :: rest) a W := by
  refine L_val hd hw ?_ h
  unfold execOp
  simp [ho, hc, hx, asBool]
end
theorem dEq (x : Dig) : decide (x = x) = true := by simp
theorem dNe (x : Dig) : (!decide (x = x)) = false := by simp
theorem dEqL (x : List Dig) : decide (x = x) = true := by simp
end Go.Proofs.YtaebeemnipafbaaGreatDoor
