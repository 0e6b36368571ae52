/-
  Proved here: how structs of a number and digests are compared: pairs (a number, a digest) and heads (a number, three digests). No condition on any program.
-/
import Derived.Test.YtkbleigmfcleaaaDoorHead
set_option maxRecDepth 20000
set_option linter.unusedSimpArgs false
set_option linter.unusedVariables false
namespace Go.Proofs.YtkbleigmfcleaaaDoor
open Go.RowKit

section
variable {P : Program}
theorem run_eqDig (dd : Nat) {t e : TypeId} {z : Value} {bb : Nat} (ht : P.underlying t = some (.array 32 e)) (he : P.underlying e = some (.int .u8)) (hi : ElemIs P e z 1 bb) (a b : Dig) (w : World) :
    (Op.equalIn (dd + 2) t (.agg a.arr) (.agg b.arr)).run P w = .ok (decide (a = b)) w := by
  obtain ⟨i, hii, _, hs, _⟩ := hi.parts
  have hc : P.cellsOf e = 1 := by simp [Program.cellsOf, hii, hs]
  rw [run_equalIn_array w (dd + 1) a.arr b.arr ht hii, hc, List.range_eq_range']
  have := run_eqItems_bytes (P := P) dd he a.l b.l w 32 0 (by rw [a.h]) (by rw [a.h, b.h])
  simp only [List.drop_zero] at this
  rw [Dig.arr, Dig.arr, this]
  congr 1
  by_cases h : a = b
  · subst h; simp
  · have : a.l ≠ b.l := fun e => h (Dig.ext' e)
    simp [h, this]
theorem run_partD {t e : TypeId} {z : Value} {bb : Nat} (ht : P.underlying t = some (.array 32 e)) (hi : ElemIs P t z 32 bb) {cs : Array Value} {o : Nat} {d : Dig} (hc : (cs.toList.drop o).take 32 = d.arr.toList) (w : World) :
    (part t cs o).run P w = .ok (.agg d.arr) w := by
  obtain ⟨i, hii, _, hs, _⟩ := hi.parts
  have hagg : (isAgg t).run P w = .ok true w := by
    unfold isAgg
    rw [Sem.run_bind, run_underlying ht]
    rfl
  have hx : cs.extract o (o + 32) = d.arr := by
    apply Array.ext'
    rw [Array.toList_extract, List.extract_eq_take_drop, show o + 32 - o = 32 by omega]
    exact hc
  simp [part, hagg, sizeOf, typeInfo, hii, hs, hx]
end

section
variable {P : Program} {t ti td e8 : TypeId} {zd : Value} {bd : Nat} {z8 : Value} {b8 : Nat}
theorem hd_part (n : Int) (x y z : Dig) : ((hdArr n x y z).toList.drop 1).take 32 = x.arr.toList ∧ ((hdArr n x y z).toList.drop 33).take 32 = y.arr.toList ∧ ((hdArr n x y z).toList.drop 65).take 32 = z.arr.toList := by
  have l : ∀ d : Dig, d.arr.toList.length = 32 := fun d => by simp [Dig.size]
  rw [hdArr_list]
  refine ⟨?_, ?_, ?_⟩
  · rw [List.drop_succ_cons, List.drop_zero, List.take_left' (l x)]
  · rw [List.drop_succ_cons, List.drop_left' (l x), List.take_left' (l y)]
  · rw [List.drop_succ_cons, ← List.append_assoc, List.drop_left' (by rw [List.length_append, l, l]), List.take_of_length_le (by rw [l]; exact Nat.le_refl _)]
/-- two heads -/
theorem run_eqHead {f0 f1 f2 f3 : Field} (hS0 : P.underlying t = some (.struct #[f0, f1, f2, f3])) (hp : P.stoodInHeld t = false) (n0 : f0.name ≠ "_") (n1 : f1.name ≠ "_") (n2 : f2.name ≠ "_") (n3 : f3.name ≠ "_")
    (hi : P.underlying f0.type = some (.int .i64)) (h1 : f1.type = td) (h2 : f2.type = td) (h3 : f3.type = td) (o0 : f0.offset = 0) (o1 : f1.offset = 1) (o2 : f2.offset = 33) (o3 : f3.offset = 65)
    (ht : P.underlying td = some (.array 32 e8)) (hd : ElemIs P td zd 32 bd) (he : P.underlying e8 = some (.int .u8)) (h8 : ElemIs P e8 z8 1 b8) (n m : Int) (x y z x' y' z' : Dig) (w : World) :
    (Op.equalIn 10000 t (.agg (hdArr n x y z)) (.agg (hdArr m x' y' z'))).run P w = .ok (decide (n = m ∧ x = x' ∧ y = y' ∧ z = z')) w := by
  have hFo : P.fieldsOf t = #[f0, f1, f2, f3] := by unfold Program.fieldsOf; rw [hS0]
  rw [show (10000 : Nat) = 9999 + 1 from rfl, run_equalIn_agg w 9999 t _ _ (by rw [hFo]; exact hS0) hp, hFo]
  obtain ⟨p1, p2, p3⟩ := hd_part n x y z
  obtain ⟨q1, q2, q3⟩ := hd_part m x' y' z'
  have i0 := run_part1 (P := P) (d := .int .i64) hi rfl (hdArr_0 (n := n) (x := x) (y := y) (z := z)) w
  have j0 := run_part1 (P := P) (d := .int .i64) hi rfl (hdArr_0 (n := m) (x := x') (y := y') (z := z')) w
  have i1 := run_partD ht hd p1 w
  have i2 := run_partD ht hd p2 w
  have i3 := run_partD ht hd p3 w
  have j1 := run_partD ht hd q1 w
  have j2 := run_partD ht hd q2 w
  have j3 := run_partD ht hd q3 w
  have e0 : (Op.equalIn 9999 f0.type (.int .i64 n) (.int .i64 m)).run P w = .ok (n == m) w := run_equalIn_int w 9998 f0.type .i64 .i64 n m hi
  have e1 : (Op.equalIn 9999 td (.agg x.arr) (.agg x'.arr)).run P w = .ok (decide (x = x')) w := run_eqDig (P := P) 9997 ht he h8 x x' w
  have e2 : (Op.equalIn 9999 td (.agg y.arr) (.agg y'.arr)).run P w = .ok (decide (y = y')) w := run_eqDig (P := P) 9997 ht he h8 y y' w
  have e3 : (Op.equalIn 9999 td (.agg z.arr) (.agg z'.arr)).run P w = .ok (decide (z = z')) w := run_eqDig (P := P) 9997 ht he h8 z z' w
  simp only [Op.eqFields, n0, n1, n2, n3, ne_eq, not_false_eq_true, if_true, h1, h2, h3, o0, o1, o2, o3, Sem.run_bind, i0, i1, i2, i3, j0, j1, j2, j3, e0, Result.andThen_ok, e1, e2, e3]
  by_cases a0 : n = m
  · rw [beq_iff_eq.2 a0]
    simp only [Bool.not_true, Bool.false_eq_true, if_false, Sem.run_bind, i1, j1, i2, j2, i3, j3, Result.andThen_ok, e1, e2, e3]
    by_cases a1 : x = x'
    · rw [decide_eq_true a1]
      simp only [Bool.not_true, Bool.false_eq_true, if_false, Sem.run_bind, i2, j2, i3, j3, Result.andThen_ok, e2, e3]
      by_cases a2 : y = y'
      · rw [decide_eq_true a2]
        simp only [Bool.not_true, Bool.false_eq_true, if_false, Sem.run_bind, i3, j3, Result.andThen_ok, e3]
        by_cases a3 : z = z' <;> simp [a0, a1, a2, a3]
      · rw [decide_eq_false a2]
        simp [a2]
    · rw [decide_eq_false a1]
      simp [a1]
  · simp [a0]
/-- two pairs -/
theorem run_eqPair {f0 f1 : Field} (hS0 : P.underlying t = some (.struct #[f0, f1])) (hp : P.stoodInHeld t = false) (n0 : f0.name ≠ "_") (n1 : f1.name ≠ "_")
    (hi : P.underlying f0.type = some (.int .i64)) (h1 : f1.type = td) (o0 : f0.offset = 0) (o1 : f1.offset = 1)
    (ht : P.underlying td = some (.array 32 e8)) (hd : ElemIs P td zd 32 bd) (he : P.underlying e8 = some (.int .u8)) (h8 : ElemIs P e8 z8 1 b8) (n m : Int) (x x' : Dig) (w : World) :
    (Op.equalIn 10000 t (.agg (.int .i64 n :: x.arr.toList).toArray) (.agg (.int .i64 m :: x'.arr.toList).toArray)).run P w = .ok (decide (n = m ∧ x = x')) w := by
  have hFo : P.fieldsOf t = #[f0, f1] := by unfold Program.fieldsOf; rw [hS0]
  rw [show (10000 : Nat) = 9999 + 1 from rfl, run_equalIn_agg w 9999 t _ _ (by rw [hFo]; exact hS0) hp, hFo]
  have l : ∀ d : Dig, d.arr.toList.length = 32 := fun d => by simp [Dig.size]
  have p : ∀ (n : Int) (d : Dig), (((Value.int .i64 n :: d.arr.toList).toArray).toList.drop 1).take 32 = d.arr.toList := fun n d => by
    rw [List.toList_toArray, List.drop_succ_cons, List.drop_zero, List.take_of_length_le (by rw [l]; exact Nat.le_refl _)]
  have i0 := run_part1 (P := P) (d := .int .i64) hi rfl (cs := (Value.int .i64 n :: x.arr.toList).toArray) (k := 0) (v := .int .i64 n) rfl w
  have j0 := run_part1 (P := P) (d := .int .i64) hi rfl (cs := (Value.int .i64 m :: x'.arr.toList).toArray) (k := 0) (v := .int .i64 m) rfl w
  have i1 := run_partD ht hd (p n x) w
  have j1 := run_partD ht hd (p m x') w
  have e0 : (Op.equalIn 9999 f0.type (.int .i64 n) (.int .i64 m)).run P w = .ok (n == m) w := run_equalIn_int w 9998 f0.type .i64 .i64 n m hi
  have e1 : (Op.equalIn 9999 td (.agg x.arr) (.agg x'.arr)).run P w = .ok (decide (x = x')) w := run_eqDig (P := P) 9997 ht he h8 x x' w
  simp only [Op.eqFields, n0, n1, ne_eq, not_false_eq_true, if_true, h1, o0, o1, Sem.run_bind, i0, i1, j0, j1, e0, Result.andThen_ok, e1]
  by_cases a0 : n = m
  · rw [beq_iff_eq.2 a0]
    simp only [Bool.not_true, Bool.false_eq_true, if_false, Sem.run_bind, i1, j1, Result.andThen_ok, e1]
    by_cases a1 : x = x' <;> simp [a0, a1]
  · simp [a0]
end

section
variable {P : Program} {ops : Array Oper} {rest : List Oper} {o : Oper} {a : Act} {W : World} {Q : Exit → Act → World → Prop} {d : Option Tmp}
/-- two aggregates compared -/
theorem L_eqA (hd : o.dst = d) (hw : Region.wanted o (yielded ops a.tmps) = true) {t t' : TypeId} {x y : Operand} (ho : o.op = .binOp .eql t x y t') {cs cs' : Array Value} (hg : P.eqGuardType P.depth t = false) (hx : a.eval x = .agg cs) (hy : a.eval y = .agg cs') {r : Bool}
    (hr : (Op.equalIn 10000 t (.agg cs) (.agg cs')).run P W = .ok r W) (h : wpList P ops Q rest (a.put d (.bool r)) W) : wpList P ops Q (o :: rest) a W := by
  refine L_val hd hw ?_ h
  unfold execOp
  simp only [ho, hx, hy]
  have h1 : (eqGuard .eql t x y (.agg cs) (.agg cs')).run P W = .ok () W := by simp [eqGuard, program, Sem.run, hg]
  have h2 := run_eql_struct (P := P) W t cs cs'
  rw [hr] at h2
  simp [h1, h2]
theorem L_neA (hd : o.dst = d) (hw : Region.wanted o (yielded ops a.tmps) = true) {t t' : TypeId} {x y : Operand} (ho : o.op = .binOp .neq t x y t') {cs cs' : Array Value} (hg : P.eqGuardType P.depth t = false) (hx : a.eval x = .agg cs) (hy : a.eval y = .agg cs') {r : Bool}
    (hr : (Op.equalIn 10000 t (.agg cs) (.agg cs')).run P W = .ok r W) (h : wpList P ops Q rest (a.put d (.bool (!r))) W) : wpList P ops Q (o :: rest) a W := by
  refine L_val hd hw ?_ h
  unfold execOp
  simp only [ho, hx, hy]
  have h1 : (eqGuard .neq t x y (.agg cs) (.agg cs')).run P W = .ok () W := by simp [eqGuard, program, Sem.run, hg]
  have h2 := run_neq_struct (P := P) W t cs cs'
  rw [hr] at h2
  simp [h1, h2]
end

/-! ## at this program's types -/
theorem eqG_Head : Tryd.prog.eqGuardType Tryd.prog.depth 39 = false := by kernel_rfl
theorem eqHead (n m : Int) (x y z x' y' z' : Dig) (w : World) : (Op.equalIn 10000 39 (.agg (hdArr n x y z)) (.agg (hdArr m x' y' z'))).run Tryd.prog w = .ok (decide (n = m ∧ x = x' ∧ y = y' ∧ z = z')) w :=
  run_eqHead Tryd.underlying39 (by kernel_rfl) (by decide) (by decide) (by decide) (by decide) Tryd.underlying3 rfl rfl rfl rfl rfl rfl rfl Tryd.underlying23 el_api_Digest Tryd.underlying5 el_uint8 n m x y z x' y' z' w
end Go.Proofs.YtkbleigmfcleaaaDoor
