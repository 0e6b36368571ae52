/-
  Proved here: pairs (a number, a digest): their cells, how they are built, rows of them. No condition on any program.
-/
import Derived.Test.YtkkmfkpanpjgbaaDoorOpenH
import Derived.Test.YtkkmfkpanpjgbaaDoorLaw
import Derived.Test.YtkkmfkpanpjgbaaDoorLawB
set_option maxRecDepth 20000
set_option linter.unusedSimpArgs false
set_option linter.unusedVariables false
namespace Go.Proofs.YtkkmfkpanpjgbaaDoor
open Go.RowKit

/-- a pair's cells -/
def prArr (n : Int) (d : Dig) : Array Value := (.int .i64 n :: d.arr.toList).toArray
theorem prArr_size (n : Int) (d : Dig) : (prArr n d).size = 33 := by simp [prArr, Dig.size]
theorem prArr_list (n : Int) (d : Dig) : (prArr n d).toList = .int .i64 n :: d.arr.toList := rfl
theorem prArr_0 {n : Int} {d : Dig} : (prArr n d)[0]? = some (.int .i64 n) := rfl
theorem prArr_one (n : Int) (d : Dig) : ∀ u ∈ (prArr n d).toList, u.oneCell' = true := by
  intro u hu
  rw [prArr_list] at hu
  rcases List.mem_cons.1 hu with rfl | hu
  · rfl
  · rw [Dig.toList] at hu
    exact oneCell_bytes u hu
theorem prArr_all (n : Int) (d : Dig) : (prArr n d).all (·.oneCell') = true := Array.all_eq_true_iff_forall_mem.2 fun u hu => prArr_one n d u (Array.mem_toList_iff.2 hu)
theorem prArr_range {W : World} {g t : Nat} {n : Int} {d : Dig} {fr : Nat × Nat} (h : W.heap[g]? = some (.cells (prArr n d) t fr)) : W.rangeAt g 1 d.arr.toList :=
  rangeAt_of_cells h (fun j v hv => by
    have : (prArr n d)[1 + j]? = (prArr n d).toList[1 + j]? := (Array.getElem?_toList ..).symm
    rw [this, prArr_list, Nat.add_comm, List.getElem?_cons_succ]
    exact hv)
theorem pairsL_app (a b : List (Int × Dig)) : pairsL (a ++ b) = pairsL a ++ pairsL b := by simp [pairsL]
theorem pairsL_one (n : Int) (d : Dig) : pairsL [(n, d)] = (prArr n d).toList := by simp [pairsL, prArr_list]
theorem pairs_at (ss : List (Int × Dig)) (i : Nat) (h : i < ss.length) : ((pairsL ss).drop ((i : Int).toNat * 33)).take 33 = (prArr ss[i].1 ss[i].2).toList := by
  have e : ss = ss.take i ++ ([(ss[i].1, ss[i].2)] ++ ss.drop (i + 1)) := by
    rw [List.singleton_append, ← List.drop_eq_getElem_cons h, List.take_append_drop]
  conv => lhs; rw [e]
  have hl : (pairsL (ss.take i)).length = (i : Int).toNat * 33 := by rw [length_pairsL, List.length_take, Nat.min_eq_left (by omega)]; rfl
  rw [pairsL_app, List.drop_left' hl, pairsL_app, pairsL_one, List.take_left' (by rw [Array.length_toList, prArr_size])]
/-- a pair at its place -/
theorem pair_cells {W : World} {g off i : Nat} {ss : List (Int × Dig)} (h : W.rangeAt g (off + (i : Int).toNat * 33) (((pairsL ss).drop ((i : Int).toNat * 33)).take 33)) (hi : i < ss.length) : W.rangeAt g (off + (i : Int).toNat * 33) (prArr ss[i].1 ss[i].2).toList := by
  rwa [pairs_at ss i hi] at h

section
variable {P : Program} {ops : Array Oper} {rest : List Oper} {o : Oper} {a : Act} {W : World} {Q : Exit → Act → World → Prop} {d : Option Tmp}
/-- 'T{x, y}': a number and a digest -/
theorem L_buildP (hd : o.dst = d) (hw : Region.wanted o (yielded ops a.tmps) = true) {T : TypeId} {x y : Operand} (ho : o.op = .build T #[(0, x), (1, y)]) {f0 f1 : Field} (hu : P.underlying T = some (.struct #[f0, f1])) {z0 z1 : Value} {b0 b1 : Nat} (h0 : ElemIs P f0.type z0 1 b0) (h1 : ElemIs P f1.type z1 32 b1) (o0 : f0.offset = 0) (o1 : f1.offset = 1)
    {cs : Array Value} {b : Nat} (he : ElemIs P T (.agg cs) 33 b) (hcs : cs.size = 33) {n : Int} {q : Dig} (hx : a.eval x = .int .i64 n) (hy : a.eval y = .agg q.arr)
    (h : wpList P ops Q rest (a.put d (.agg (prArr n q))) W) : wpList P ops Q (o :: rest) a W := by
  refine L_val hd hw ?_ h
  have hq : q.arr.size = 32 := Dig.size q
  have hf := fold_put q.arr.toList 0 1 (cs.setIfInBounds 0 (.int .i64 n)) (by simp [hcs, hq])
  have hz : (q.arr.zipIdx.foldl (fun cs x => match x with | (c, j) => cs.setIfInBounds (1 + j) c) (cs.setIfInBounds 0 (.int .i64 n))) = putAt (cs.setIfInBounds 0 (.int .i64 n)) 1 q.arr.toList := by
    rw [← Array.foldl_toList, Array.toList_zipIdx]
    simpa using hf
  have hp : putAt (cs.setIfInBounds 0 (.int .i64 n)) 1 q.arr.toList = prArr n q := by
    obtain ⟨l⟩ := cs
    match l, hcs with
    | c :: l, hcs =>
      have hl : l.length = 32 := by simpa using hcs
      unfold putAt prArr
      simp [hq]
      omega
  rw [hp] at hz
  have hz' : (q.arr.zipIdx.foldl (fun cs x => cs.setIfInBounds (1 + x.2) x.1) (cs.setIfInBounds 0 (.int .i64 n))) = prArr n q := hz
  rw [show q.arr.zipIdx.size = 32 by simp [hq]] at hz'
  unfold execOp
  simp only [ho]
  have hfill : Instr.fill (fun x => ([(0, 1), (1, 32)] : List (Nat × Nat))[x]?) cs [(0, .int .i64 n), (1, .agg q.arr)] = some (prArr n q) := by
    have e1 : ¬ (cs.size < 1) := by omega
    simp [Instr.fill, Value.cells, hq, hcs, hz']
  simp [Instr.build, he.run_zero, run_underlying hu, Value.cells, hx, hy, h0.run_size, h1.run_size, o0, o1]
  rw [hfill]
  rfl
/-- a struct of four of which the first is told -/
theorem L_buildPF (hd : o.dst = d) (hw : Region.wanted o (yielded ops a.tmps) = true) {T : TypeId} {x : Operand} (ho : o.op = .build T #[(0, x)]) {f0 f1 f2 f3 : Field} (hu : P.underlying T = some (.struct #[f0, f1, f2, f3])) {z0 z1 z2 z3 : Value} {s1 s2 s3 b0 b1 b2 b3 : Nat} (h0 : ElemIs P f0.type z0 1 b0) (h1 : ElemIs P f1.type z1 s1 b1) (h2 : ElemIs P f2.type z2 s2 b2) (h3 : ElemIs P f3.type z3 s3 b3) (o0 : f0.offset = 0)
    {cs : Array Value} {s b : Nat} (he : ElemIs P T (.agg cs) s b) (hcs : 0 < cs.size) {v : Value} (hx : a.eval x = v) (hv : v.oneCell' = true)
    (h : wpList P ops Q rest (a.put d (.agg (cs.setIfInBounds 0 v))) W) : wpList P ops Q (o :: rest) a W := by
  have hc : v.cells = #[v] := by cases v <;> simp_all [Value.oneCell', Value.cells]
  refine L_val hd hw ?_ h
  unfold execOp
  simp only [ho]
  have hfill : Instr.fill (fun x => ([(0, 1), (f1.offset, s1), (f2.offset, s2), (f3.offset, s3)] : List (Nat × Nat))[x]?) cs [(0, v)] = some (cs.setIfInBounds 0 v) := by
    have e1 : ¬ (cs.size < 1) := by omega
    have hne : cs ≠ #[] := fun e => by rw [e] at hcs; exact absurd hcs (by decide)
    simp [Instr.fill, hc, hne]
  simp [Instr.build, he.run_zero, run_underlying hu, Value.cells, hx, h0.run_size, h1.run_size, h2.run_size, h3.run_size, o0]
  rw [hfill]
  rfl
end
end Go.Proofs.YtkkmfkpanpjgbaaDoor
