/-
  Proved here: a byte of a text. No condition.
-/
import Derived.Test.YtaebeemnipafbaaGreatDoorLawC
set_option maxRecDepth 20000
set_option linter.unusedSimpArgs false
set_option linter.unusedVariables false
namespace Go.Proofs.YtaebeemnipafbaaGreatDoor
open Go.RowKit

theorem L_strIx {P : Program} {ops : Array Oper} {rest : List Oper} {o : Oper} {a : Act} {W : World} {Q : Exit → Act → World → Prop} {d : Option Tmp} (hd : o.dst = d) (hw : Region.wanted o (yielded ops a.tmps) = true) {t : TypeId} {x y : Operand} (ho : o.op = .index t x y) (hu : P.underlying t = some .string) {s : ByteArray} (hx : a.eval x = .string s) {k : IntKind} {i : Int} (hy : a.eval y = .int k i) (j : Nat) (hj : i = (j : Int)) {b : UInt8} (hb : s[j]? = some b)
    (h : wpList P ops Q rest (a.put d (.int .u8 (b.toNat : Int))) W) : wpList P ops Q (o :: rest) a W := by
  subst hj
  refine L_val hd hw ?_ h
  unfold execOp
  simp only [ho, hx, hy]
  simp [Instr.index, asIntOf, run_underlying hu, hb]
end Go.Proofs.YtaebeemnipafbaaGreatDoor
