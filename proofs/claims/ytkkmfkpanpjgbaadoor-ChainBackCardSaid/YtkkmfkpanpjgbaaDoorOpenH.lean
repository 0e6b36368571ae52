/-
  Proved here: how structs of a row are opened: one of a number and three digests by value (a head), slices of structs of a number and a digest (seals, pebbles). No condition on any program.
-/
import Derived.Test.YtkkmfkpanpjgbaaDoorOpenB
import Derived.Deep.Strs
import Derived.ChangeSame
set_option maxRecDepth 20000
set_option linter.unusedSimpArgs false
set_option linter.unusedVariables false
namespace Go.Proofs.YtkkmfkpanpjgbaaDoor
open Go.ChangeShapes Go.WideShapes Go.ChangeAt Go.RowKit Go.Deep

/-- a head's cells -/
def hdCells (n : Int) (r m t : Dig) : List Value := .int .i64 n :: (r.arr.toList ++ (m.arr.toList ++ t.arr.toList))
theorem length_hdCells (n : Int) (r m t : Dig) : (hdCells n r m t).length = 97 := by simp [hdCells, Dig.size]
/-- cells of structs of a number and a digest -/
def pairsL (l : List (Int × Dig)) : List Value := l.flatMap fun p => .int .i64 p.1 :: p.2.arr.toList
theorem length_pairsL (l : List (Int × Dig)) : (pairsL l).length = l.length * 33 := by
  induction l with
  | nil => rfl
  | cons p l ih =>
    have : pairsL (p :: l) = (.int .i64 p.1 :: p.2.arr.toList) ++ pairsL l := by simp [pairsL]
    rw [this, List.length_append, ih, List.length_cons, List.length_cons, Array.length_toList, Dig.size]
    omega

section
variable {P : Program} {H : Type} {enc : TypeId × Value → H} {W : World} {base : Nat} {spare : Nat → Bool} {held : Bool}

theorem trod_struct4 {t : TypeId} {f0 f1 f2 f3 : Field} {fuel : Nat} {cs : List Value} {x : DataW H × List MemPlace} (ht : P.underlying t = some (.struct #[f0, f1, f2, f3])) (h : DataW.trod enc P W base spare held fuel t cs = some x) :
    ∃ y0 y1 y2 y3 n, x = (.agg [y0.1, y1.1, y2.1, y3.1], y0.2 ++ (y1.2 ++ (y2.2 ++ y3.2))) ∧ cs.length = P.cellsOf t ∧ DataW.trod enc P W base spare held n f0.type ((cs.drop f0.offset).take (P.cellsOf f0.type)) = some y0 ∧
      DataW.trod enc P W base spare held n f1.type ((cs.drop f1.offset).take (P.cellsOf f1.type)) = some y1 ∧ DataW.trod enc P W base spare held n f2.type ((cs.drop f2.offset).take (P.cellsOf f2.type)) = some y2 ∧ DataW.trod enc P W base spare held n f3.type ((cs.drop f3.offset).take (P.cellsOf f3.type)) = some y3 := by
  obtain ⟨xs, n, _, rfl, hl, hlen, hf⟩ := DataW.trod_struct ht h
  match xs, hlen with
  | [y0, y1, y2, y3], _ => exact ⟨y0, y1, y2, y3, n, by simp, hl, by simpa using hf 0 f0 rfl, by simpa using hf 1 f1 rfl, by simpa using hf 2 f2 rfl, by simpa using hf 3 f3 rfl⟩

/-- a struct of a number and a digest -/
theorem pair_of_trod {t te e8 : TypeId} {f0 f1 : Field} {fuel : Nat} {cs : List Value} {x : DataW H × List MemPlace} (ht : P.underlying t = some (.struct #[f0, f1])) (h0 : P.underlying f0.type = some (.int .i64)) (h1 : f1.type = te) (hte : P.underlying te = some (.array 32 e8)) (he : P.underlying e8 = some (.int .u8)) (hce : P.cellsOf e8 = 1) (hct : P.cellsOf te = 32)
    (o0 : f0.offset = 0) (o1 : f1.offset = 1) (c0 : P.cellsOf f0.type = 1) (ct : P.cellsOf t = 33) (h : DataW.trod enc P W base spare held fuel t cs = some x) :
    ∃ (n : Int) (d : Dig), cs = .int .i64 n :: d.arr.toList ∧ (Lit.int .i64 n).wf = true := by
  obtain ⟨y0, y1, m, _, hl, k0, k1⟩ := trod_struct2 ht h
  rw [o0, c0, List.drop_zero] at k0
  rw [h1, o1, hct] at k1
  rw [ct] at hl
  obtain ⟨n, hc, _, hw⟩ := DataW.trod_int h0 k0
  obtain ⟨d, hd⟩ := dig_of_trod hte he hce hct k1
  refine ⟨n, d, ?_, hw⟩
  match cs, hl with
  | c :: r, hl =>
    simp only [List.take_succ_cons, List.take_zero, List.cons.injEq, and_true] at hc
    rw [List.drop_succ_cons, List.drop_zero, List.take_of_length_le (by simp at hl; omega)] at hd
    rw [hc, hd, Dig.toList]

/-- a head by value -/
theorem open_head {r : Reach} {b0 : Nat} {t te e8 : TypeId} {f0 f1 f2 f3 : Field} {v : Value} {d : DataW H} {p : List MemPlace} (ht : P.underlying t = some (.struct #[f0, f1, f2, f3])) (h0 : P.underlying f0.type = some (.int .i64)) (h1 : f1.type = te) (h2 : f2.type = te) (h3 : f3.type = te) (hte : P.underlying te = some (.array 32 e8)) (he : P.underlying e8 = some (.int .u8)) (hce : P.cellsOf e8 = 1) (hct : P.cellsOf te = 32)
    (o0 : f0.offset = 0) (o1 : f1.offset = 1) (o2 : f2.offset = 33) (o3 : f3.offset = 65) (c0 : P.cellsOf f0.type = 1) (ct : P.cellsOf t = 97)
    (hval : Value.okWide P W r b0 t v) (h : DataW.Trod enc P W base spare held t v d p) : ∃ (n : Int) (x y z : Dig), v = .agg (hdCells n x y z).toArray ∧ (Lit.int .i64 n).wf = true := by
  simp only [Value.okWide, ht] at hval
  obtain ⟨cs, rfl, _⟩ := hval
  obtain ⟨fuel, hf⟩ := h
  simp only [Value.cells] at hf
  obtain ⟨y0, y1, y2, y3, m, _, hl, k0, k1, k2, k3⟩ := trod_struct4 ht hf
  rw [o0, c0, List.drop_zero] at k0
  rw [h1, o1, hct] at k1
  rw [h2, o2, hct] at k2
  rw [h3, o3, hct] at k3
  rw [ct] at hl
  obtain ⟨n, hc, _, hw⟩ := DataW.trod_int h0 k0
  obtain ⟨x, hx⟩ := dig_of_trod hte he hce hct k1
  obtain ⟨y, hy⟩ := dig_of_trod hte he hce hct k2
  obtain ⟨z, hz⟩ := dig_of_trod hte he hce hct k3
  refine ⟨n, x, y, z, ?_, hw⟩
  have e : cs.toList = hdCells n x y z := by
    have q : cs.toList = cs.toList.take 1 ++ ((cs.toList.drop 1).take 32 ++ ((cs.toList.drop 33).take 32 ++ (cs.toList.drop 65).take 32)) := by
      have a1 : (cs.toList.drop 65).take 32 = cs.toList.drop 65 := List.take_of_length_le (by rw [List.length_drop]; omega)
      have a2 : (cs.toList.drop 33).take 32 ++ cs.toList.drop 65 = cs.toList.drop 33 := by
        have := List.take_append_drop 32 (cs.toList.drop 33)
        rwa [List.drop_drop] at this
      have a3 : (cs.toList.drop 1).take 32 ++ cs.toList.drop 33 = cs.toList.drop 1 := by
        have := List.take_append_drop 32 (cs.toList.drop 1)
        rwa [List.drop_drop] at this
      rw [a1, a2, a3, List.take_append_drop]
    rw [q, hc, hx, hy, hz]
    simp [hdCells, Dig.toList]
  rw [← e]

/-- a slice of structs of a number and a digest -/
theorem open_pairsS {r : Reach} {b0 : Nat} {t t1 te e8 : TypeId} {f0 f1 : Field} {v : Value} {d : DataW H} {p : List MemPlace} (hts : P.underlying t = some (.slice t1)) (ht : P.underlying t1 = some (.struct #[f0, f1])) (h0 : P.underlying f0.type = some (.int .i64)) (h1 : f1.type = te) (hte : P.underlying te = some (.array 32 e8)) (he : P.underlying e8 = some (.int .u8)) (hce : P.cellsOf e8 = 1) (hct : P.cellsOf te = 32)
    (o0 : f0.offset = 0) (o1 : f1.offset = 1) (c0 : P.cellsOf f0.type = 1) (ct : P.cellsOf t1 = 33)
    (hval : Value.okWide P W r b0 t v) (h : DataW.Trod enc P W base spare held t v d p) :
    ∃ A n c ps, v = .slice A n c ∧ SlR W A n c 33 (pairsL ps) ∧ (∀ q ∈ ps, (Lit.int .i64 q.1).wf = true) ∧ ((d = .nil ∧ n = 0) ∨ ∃ el sp, d = .slice el sp ∧ el.length = n) := by
  obtain ⟨a0, len0, cap0, rfl⟩ := okWide_slice hts hval
  obtain ⟨fuel, hf⟩ := h
  rcases open_slice hts hf with ⟨hcs, hx⟩ | ⟨a, len, cap, m, k, D, Pl, hcs, hb, hl, hm, hmm, hx, hel⟩
  · simp only [Value.cells, List.cons.injEq, Value.slice.injEq, and_true] at hcs
    obtain ⟨rfl, rfl, rfl⟩ := hcs
    simp only [Prod.mk.injEq] at hx
    exact ⟨none, 0, 0, [], rfl, SlR.nil_ W 33, (fun q hq => by cases hq), .inl ⟨hx.1, rfl⟩⟩
  · simp only [Value.cells, List.cons.injEq, Value.slice.injEq, and_true] at hcs
    obtain ⟨rfl, rfl, rfl⟩ := hcs
    simp only [Prod.mk.injEq] at hx
    rw [ct] at hel
    have hlm : len0 ≤ m := by rw [hmm]; split <;> omega
    have hin : Inhabited (Int × Dig) := ⟨(0, zeroD)⟩
    obtain ⟨bs, hbs⟩ := choose_below (α := Int × Dig) (n := len0) (p := fun i b => W.cells? base (a.add (i * 33)) 33 = some (.int .i64 b.1 :: b.2.arr.toList) ∧ (Lit.int .i64 b.1).wf = true) (fun i hi => by
      obtain ⟨cs', k1, k2⟩ := hel i (by omega)
      obtain ⟨n, q, rfl, hw⟩ := pair_of_trod ht h0 h1 hte he hce hct o0 o1 c0 ct k2
      exact ⟨(n, q), k1, hw⟩)
    have hs := slr_of (W := W) (base := base) (A := some a) (n := len0) (c := cap0) (s := 33) (by decide) (fun i => .int .i64 (bs i).1 :: (bs i).2.arr.toList) hl hm (fun _ => ⟨a, rfl, fun i hi => (hbs i hi).1⟩)
    refine ⟨some a, len0, cap0, (List.range len0).map bs, rfl, ?_, ?_, .inr ⟨_, _, hx.1, by simp⟩⟩
    · have hfl : ∀ l : List Nat, l.flatMap (fun i => (.int .i64 (bs i).1 :: (bs i).2.arr.toList : List Value)) = pairsL (l.map bs) := by
        intro l
        induction l with
        | nil => rfl
        | cons x l ih => simp only [List.flatMap_cons, ih, List.map_cons, pairsL]
      rw [hfl] at hs
      exact hs
    · intro q hq
      obtain ⟨i, hi, rfl⟩ := List.mem_map.1 hq
      exact (hbs i (List.mem_range.1 hi)).2
end
end Go.Proofs.YtkkmfkpanpjgbaaDoor
