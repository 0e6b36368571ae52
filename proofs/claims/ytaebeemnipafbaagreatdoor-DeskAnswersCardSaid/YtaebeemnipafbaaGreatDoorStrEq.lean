/-
  Proved here: texts compared. No condition on any program.
-/
import Derived.Test.YtaebeemnipafbaaGreatDoorLaw
import Derived.Test.YtaebeemnipafbaaGreatDoorNamePlain
import Derived.Test.YtaebeemnipafbaaGreatDoorEqS
import Derived.Test.YtaebeemnipafbaaGreatDoorSq
set_option linter.unusedSimpArgs false
set_option linter.unusedVariables false
set_option maxRecDepth 100000
set_option maxHeartbeats 200000000
namespace Go.Proofs.YtaebeemnipafbaaGreatDoor
open Go.RowKit
theorem PN (l : List UInt8) : (GZ l).toList = l := by rw [ByteArray.toList_eq]; exact Km l
theorem MD : Tryz.prog.eqGuardType Tryz.prog.depth 9 = false := by kernel_rfl
theorem bsOf_beq (s u : List UInt8) : ((GZ s).toList == (GZ u).toList) = decide (s = u) := by
 rw [PN, PN]
 by_cases h : s = u <;> simp [h]
section
variable {P : Program} {ops : Array Oper} {rest : List Oper} {o : Oper} {a : Act} {W : World} {Q : Exit → Act → World → Prop} {d : Option Tmp}
theorem Ja (hd : o.dst = d) (hw : Region.wanted o (yielded ops a.tmps) = true) {t t' : TypeId} {x y : Operand} (ho : o.op = .binOp .eql t x y t') {s u : List UInt8} (hg : P.eqGuardType P.depth t = false) (ht : P.underlying t = some .string) (hx : a.eval x = .string (GZ s)) (hy : a.eval y = .string (GZ u))
  (h : wpList P ops Q rest (a.put d (.bool (decide (s = u)))) W) : wpList P ops Q (o :: rest) a W := by
 refine Js hd hw ?_ h
 unfold execOp
 simp only [ho, hx, hy]
 have h1 : (eqGuard .eql t x y (.string (GZ s)) (.string (GZ u))).run P W = .ok () W := by simp [eqGuard, program, Sem.run, hg]
 have h2 : (Go.binOp .eql t (.string (GZ s)) (.string (GZ u))).run P W = .ok (.bool (decide (s = u))) W := by
  have := bsOf_beq s u
  simp only [Go.binOp, Op.stringOp, this, Sem.run_pure]
 simp [h1, h2]
theorem MW (hd : o.dst = d) (hw : Region.wanted o (yielded ops a.tmps) = true) {t t' : TypeId} {x y : Operand} (ho : o.op = .binOp .neq t x y t') {s u : List UInt8} (hg : P.eqGuardType P.depth t = false) (ht : P.underlying t = some .string) (hx : a.eval x = .string (GZ s)) (hy : a.eval y = .string (GZ u))
  (h : wpList P ops Q rest (a.put d (.bool (!decide (s = u)))) W) : wpList P ops Q (o :: rest) a W := by
 refine Js hd hw ?_ h
 unfold execOp
 simp only [ho, hx, hy]
 have h1 : (eqGuard .neq t x y (.string (GZ s)) (.string (GZ u))).run P W = .ok () W := by simp [eqGuard, program, Sem.run, hg]
 have h2 : (Go.binOp .neq t (.string (GZ s)) (.string (GZ u))).run P W = .ok (.bool (!decide (s = u))) W := by
  have := bsOf_beq s u
  simp only [Go.binOp, Op.stringOp, this, Sem.run_pure]
 simp [h1, h2]
end
end Go.Proofs.YtaebeemnipafbaaGreatDoor
