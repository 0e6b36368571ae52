/-
  Proved here: how structs of a number and digests are compared: pairs (a number, a digest) and heads (a number, three digests). No condition on any program.
-/
import Derived.Test.YtaebeemnipafbaaGreatDoorHead
import Derived.Test.YtaebeemnipafbaaGreatDoorSq
set_option linter.unusedSimpArgs false
set_option linter.unusedVariables false
set_option maxRecDepth 100000
set_option maxHeartbeats 200000000
namespace Go.Proofs.YtaebeemnipafbaaGreatDoor
open Go.RowKit
section
variable {P : Program}
theorem run_eqDig (dd : Nat) {t e : TypeId} {z : Value} {bb : Nat} (ht : P.underlying t = some (.array 32 e)) (he : P.underlying e = some (.int .u8)) (hi : GW P e z 1 bb) (a b : Dig) (w : World) :
  (Op.equalIn (dd + 2) t (.agg a.arr) (.agg b.arr)).run P w = .ok (decide (a = b)) w := by
 obtain ⟨i, hii, _, hs, _⟩ := hi.parts
 have hc : P.cellsOf e = 1 := by simp [Program.cellsOf, hii, hs]
 rw [run_equalIn_array w (dd + 1) a.arr b.arr ht hii, hc, List.range_eq_range']
 have := Nb (P := P) dd he a.l b.l w 32 0 (by rw [a.h]) (by rw [a.h, b.h])
 simp only [List.drop_zero] at this
 rw [Dig.arr, Dig.arr, this]
 congr 1
 by_cases h : a = b
 ·subst h; simp
 ·have : a.l ≠ b.l := fun e => h (Dig.ext' e)
  simp [h, this]
theorem run_partD {t e : TypeId} {z : Value} {bb : Nat} (ht : P.underlying t = some (.array 32 e)) (hi : GW P t z 32 bb) {cs : Array Value} {o : Nat} {d : Dig} (hc : (cs.toList.drop o).take 32 = d.arr.toList) (w : World) :
  (part t cs o).run P w = .ok (.agg d.arr) w := by
 obtain ⟨i, hii, _, hs, _⟩ := hi.parts
 have hagg : (isAgg t).run P w = .ok true w := by
  unfold isAgg
  rw [Sem.run_bind, run_underlying ht]
  rfl
 have hx : cs.extract o (o + 32) = d.arr := by
  apply Array.ext'
  rw [Array.toList_extract, List.extract_eq_take_drop, show o + 32 - o = 32 by omega]
  exact hc
 simp [part, hagg, sizeOf, typeInfo, hii, hs, hx]
end
section
variable {P : Program} {t ti td e8 : TypeId} {zd : Value} {bd : Nat} {z8 : Value} {b8 : Nat}
end
section
variable {P : Program} {ops : Array Oper} {rest : List Oper} {o : Oper} {a : Act} {W : World} {Q : Exit → Act → World → Prop} {d : Option Tmp}
theorem L_neA (hd : o.dst = d) (hw : Region.wanted o (yielded ops a.tmps) = true) {t t' : TypeId} {x y : Operand} (ho : o.op = .binOp .neq t x y t') {cs cs' : Array Value} (hg : P.eqGuardType P.depth t = false) (hx : a.eval x = .agg cs) (hy : a.eval y = .agg cs') {r : Bool}
  (hr : (Op.equalIn 10000 t (.agg cs) (.agg cs')).run P W = .ok r W) (h : wpList P ops Q rest (a.put d (.bool (!r))) W) : wpList P ops Q (o :: rest) a W := by
 refine Js hd hw ?_ h
 unfold execOp
 simp only [ho, hx, hy]
 have h1 : (eqGuard .neq t x y (.agg cs) (.agg cs')).run P W = .ok () W := by simp [eqGuard, program, Sem.run, hg]
 have h2 := run_neq_struct (P := P) W t cs cs'
 rw [hr] at h2
 simp [h1, h2]
end
end Go.Proofs.YtaebeemnipafbaaGreatDoor
