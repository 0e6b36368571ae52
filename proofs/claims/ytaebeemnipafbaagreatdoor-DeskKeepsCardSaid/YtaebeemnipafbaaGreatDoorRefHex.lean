/-
  Proved here: the contracts of the reference's digits of bytes, and bytes of digits. Condition: lengths that slices may have.
-/
import Derived.Test.YtaebeemnipafbaaGreatDoorUnhex
import Derived.Test.YtaebeemnipafbaaGreatDoorPick
import Derived.Deep.DeepCutAuto
import Derived.Deep.RegionWith
set_option maxRecDepth 20000
set_option linter.unusedSimpArgs false
set_option linter.unusedVariables false
namespace Go.Proofs.YtaebeemnipafbaaGreatDoor
open Go.RowKit

section
variable {P : Program} {ops : Array Oper} {rest : List Oper} {o : Oper} {a : Act} {W : World} {Q : Exit → Act → World → Prop} {d : Option Tmp}
theorem L_strAdd (hd : o.dst = d) (hw : Region.wanted o (yielded ops a.tmps) = true) {t t' : TypeId} {x y : Operand} (ho : o.op = .binOp .add t x y t') {s u : ByteArray} (hx : a.eval x = .string s) (hy : a.eval y = .string u) (hz : s.size + u.size ≤ 9223372036854775807) {v : ByteArray} (hv : s ++ u = v)
    (h : wpList P ops Q rest (a.put d (.string v)) W) : wpList P ops Q (o :: rest) a W := by
  subst hv
  refine L_val hd hw ?_ h
  unfold execOp
  simp only [ho, hx, hy]
  have h1 : (eqGuard .add t x y (.string s) (.string u)).run P W = .ok () W := by simp [eqGuard]
  have h2 : (Go.binOp .add t (.string s) (.string u)).run P W = .ok (.string (s ++ u)) W := by
    show (Op.stringOp .add s u).run P W = _
    have h3 : ¬ (((s.size + u.size : Nat) : Int) > IntKind.i64.max) := by
      have : IntKind.i64.max = 9223372036854775807 := rfl
      rw [this]
      omega
    simp only [Op.stringOp, if_neg h3, Sem.run_pure]
  simp [h1, h2]
end
end Go.Proofs.YtaebeemnipafbaaGreatDoor
