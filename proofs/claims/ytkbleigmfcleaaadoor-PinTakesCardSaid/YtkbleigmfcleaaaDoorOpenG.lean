/-
  Proved here: how slices of heads, and slices of slices of digests, are opened. No condition on any program.
-/
import Derived.Test.YtkbleigmfcleaaaDoorOpenH
set_option maxRecDepth 20000
set_option linter.unusedSimpArgs false
set_option linter.unusedVariables false
namespace Go.Proofs.YtkbleigmfcleaaaDoor
open Go.ChangeShapes Go.WideShapes Go.ChangeAt Go.RowKit Go.Deep

/-- a head as a row has it -/
abbrev Hd := Int × Dig × Dig × Dig
def Hd.cells (h : Hd) : List Value := hdCells h.1 h.2.1 h.2.2.1 h.2.2.2
def headsL (l : List Hd) : List Value := l.flatMap Hd.cells
theorem length_headsL (l : List Hd) : (headsL l).length = l.length * 97 := by
  induction l with
  | nil => rfl
  | cons p l ih =>
    have : headsL (p :: l) = Hd.cells p ++ headsL l := by simp [headsL]
    rw [this, List.length_append, ih, Hd.cells, length_hdCells, List.length_cons]
    omega
/-- a slice of digests, with what it reads as -/
abbrev DPiece := Option Addr × Nat × Nat × List Dig
def DPiece.v (p : DPiece) : Value := .slice p.1 p.2.1 p.2.2.1

section
variable {P : Program} {H : Type} {enc : TypeId × Value → H} {W : World} {base : Nat} {spare : Nat → Bool} {held : Bool}
theorem head_of_trod {t te e8 : TypeId} {f0 f1 f2 f3 : Field} {fuel : Nat} {cs : List Value} {x : DataW H × List MemPlace} (ht : P.underlying t = some (.struct #[f0, f1, f2, f3])) (h0 : P.underlying f0.type = some (.int .i64)) (h1 : f1.type = te) (h2 : f2.type = te) (h3 : f3.type = te) (hte : P.underlying te = some (.array 32 e8)) (he : P.underlying e8 = some (.int .u8)) (hce : P.cellsOf e8 = 1) (hct : P.cellsOf te = 32)
    (o0 : f0.offset = 0) (o1 : f1.offset = 1) (o2 : f2.offset = 33) (o3 : f3.offset = 65) (c0 : P.cellsOf f0.type = 1) (ct : P.cellsOf t = 97) (hf : DataW.trod enc P W base spare held fuel t cs = some x) :
    ∃ q : Hd, cs = q.cells ∧ (Lit.int .i64 q.1).wf = true := by
  obtain ⟨y0, y1, y2, y3, m, _, hl, k0, k1, k2, k3⟩ := trod_struct4 ht hf
  rw [o0, c0, List.drop_zero] at k0
  rw [h1, o1, hct] at k1
  rw [h2, o2, hct] at k2
  rw [h3, o3, hct] at k3
  rw [ct] at hl
  obtain ⟨n, hc, _, hw⟩ := DataW.trod_int h0 k0
  obtain ⟨x, hx⟩ := dig_of_trod hte he hce hct k1
  obtain ⟨y, hy⟩ := dig_of_trod hte he hce hct k2
  obtain ⟨z, hz⟩ := dig_of_trod hte he hce hct k3
  refine ⟨(n, x, y, z), ?_, hw⟩
  have q : cs = cs.take 1 ++ ((cs.drop 1).take 32 ++ ((cs.drop 33).take 32 ++ (cs.drop 65).take 32)) := by
    have a1 : (cs.drop 65).take 32 = cs.drop 65 := List.take_of_length_le (by rw [List.length_drop]; omega)
    have a2 : (cs.drop 33).take 32 ++ cs.drop 65 = cs.drop 33 := by
      have := List.take_append_drop 32 (cs.drop 33)
      rwa [List.drop_drop] at this
    have a3 : (cs.drop 1).take 32 ++ cs.drop 33 = cs.drop 1 := by
      have := List.take_append_drop 32 (cs.drop 1)
      rwa [List.drop_drop] at this
    rw [a1, a2, a3, List.take_append_drop]
  rw [q, hc, hx, hy, hz]
  simp [Hd.cells, hdCells, Dig.toList]

/-- a slice of heads -/
theorem open_headsS {r : Reach} {b0 : Nat} {t t1 te e8 : TypeId} {f0 f1 f2 f3 : Field} {v : Value} {d : DataW H} {p : List MemPlace} (hts : P.underlying t = some (.slice t1)) (ht : P.underlying t1 = some (.struct #[f0, f1, f2, f3])) (h0 : P.underlying f0.type = some (.int .i64)) (h1 : f1.type = te) (h2 : f2.type = te) (h3 : f3.type = te) (hte : P.underlying te = some (.array 32 e8)) (he : P.underlying e8 = some (.int .u8)) (hce : P.cellsOf e8 = 1) (hct : P.cellsOf te = 32)
    (o0 : f0.offset = 0) (o1 : f1.offset = 1) (o2 : f2.offset = 33) (o3 : f3.offset = 65) (c0 : P.cellsOf f0.type = 1) (ct : P.cellsOf t1 = 97)
    (hval : Value.okWide P W r b0 t v) (h : DataW.Trod enc P W base spare held t v d p) :
    ∃ A n c hs, v = .slice A n c ∧ SlR W A n c 97 (headsL hs) ∧ (∀ q ∈ hs, (Lit.int .i64 q.1).wf = true) ∧ ((d = .nil ∧ n = 0) ∨ ∃ el sp, d = .slice el sp ∧ el.length = n) := by
  obtain ⟨a0, len0, cap0, rfl⟩ := okWide_slice hts hval
  obtain ⟨fuel, hf⟩ := h
  rcases open_slice hts hf with ⟨hcs, hx⟩ | ⟨a, len, cap, m, k, D, Pl, hcs, hb, hl, hm, hmm, hx, hel⟩
  · simp only [Value.cells, List.cons.injEq, Value.slice.injEq, and_true] at hcs
    obtain ⟨rfl, rfl, rfl⟩ := hcs
    simp only [Prod.mk.injEq] at hx
    exact ⟨none, 0, 0, [], rfl, SlR.nil_ W 97, (fun q hq => by cases hq), .inl ⟨hx.1, rfl⟩⟩
  · simp only [Value.cells, List.cons.injEq, Value.slice.injEq, and_true] at hcs
    obtain ⟨rfl, rfl, rfl⟩ := hcs
    simp only [Prod.mk.injEq] at hx
    rw [ct] at hel
    have hlm : len0 ≤ m := by rw [hmm]; split <;> omega
    have hin : Inhabited Hd := ⟨(0, zeroD, zeroD, zeroD)⟩
    obtain ⟨bs, hbs⟩ := choose_below (α := Hd) (n := len0) (p := fun i b => W.cells? base (a.add (i * 97)) 97 = some b.cells ∧ (Lit.int .i64 b.1).wf = true) (fun i hi => by
      obtain ⟨cs', k1, k2⟩ := hel i (by omega)
      obtain ⟨q, rfl, hw⟩ := head_of_trod ht h0 h1 h2 h3 hte he hce hct o0 o1 o2 o3 c0 ct k2
      exact ⟨q, k1, hw⟩)
    have hs := slr_of (W := W) (base := base) (A := some a) (n := len0) (c := cap0) (s := 97) (by decide) (fun i => (bs i).cells) hl hm (fun _ => ⟨a, rfl, fun i hi => (hbs i hi).1⟩)
    refine ⟨some a, len0, cap0, (List.range len0).map bs, rfl, ?_, ?_, .inr ⟨_, _, hx.1, by simp⟩⟩
    · have hfl : ∀ l : List Nat, l.flatMap (fun i => (bs i).cells) = headsL (l.map bs) := by
        intro l
        induction l with
        | nil => rfl
        | cons x l ih => simp only [List.flatMap_cons, ih, List.map_cons, headsL]
      rw [hfl] at hs
      exact hs
    · intro q hq
      obtain ⟨i, hi, rfl⟩ := List.mem_map.1 hq
      exact (hbs i (List.mem_range.1 hi)).2

theorem dpiece_of_trod {t e e8 : TypeId} {fuel : Nat} {cs : List Value} {x : DataW H × List MemPlace} (ht : P.underlying t = some (.slice e)) (hte : P.underlying e = some (.array 32 e8)) (he : P.underlying e8 = some (.int .u8)) (hce : P.cellsOf e8 = 1) (hct : P.cellsOf e = 32) (hf : DataW.trod enc P W base spare held fuel t cs = some x) :
    ∃ p : DPiece, cs = [p.v] ∧ SlR W p.1 p.2.1 p.2.2.1 32 (digsL p.2.2.2) := by
  rcases open_slice ht hf with ⟨hcs, hx⟩ | ⟨a, len0, cap0, m, k, D, Pl, hcs, hb, hl, hm, hmm, hx, hel⟩
  · exact ⟨(none, 0, 0, []), hcs, SlR.nil_ W 32⟩
  · rw [hct] at hel
    have hlm : len0 ≤ m := by rw [hmm]; split <;> omega
    have hin : Inhabited Dig := ⟨zeroD⟩
    obtain ⟨bs, hbs⟩ := choose_below (α := Dig) (n := len0) (p := fun i b => W.cells? base (a.add (i * 32)) 32 = some (bytesL b.l)) (fun i hi => by
      obtain ⟨cs', h1, h2⟩ := hel i (by omega)
      obtain ⟨q, rfl⟩ := dig_of_trod hte he hce hct h2
      exact ⟨q, h1⟩)
    have hs := slr_of (W := W) (base := base) (A := some a) (n := len0) (c := cap0) (s := 32) (by decide) (fun i => bytesL (bs i).l) hl hm (fun _ => ⟨a, rfl, hbs⟩)
    have hfl : ∀ l : List Nat, l.flatMap (fun i => bytesL (bs i).l) = digsL (l.map bs) := by
      intro l
      induction l with
      | nil => rfl
      | cons x l ih => simp only [List.flatMap_cons, ih, List.map_cons, digsL]
    rw [hfl] at hs
    exact ⟨(some a, len0, cap0, (List.range len0).map bs), hcs, hs⟩

/-- a slice of slices of digests -/
theorem open_digss {r : Reach} {b0 : Nat} {t u e e8 : TypeId} {v : Value} {d : DataW H} {p : List MemPlace} (ht : P.underlying t = some (.slice u)) (hu : P.underlying u = some (.slice e)) (hte : P.underlying e = some (.array 32 e8)) (he : P.underlying e8 = some (.int .u8)) (hce : P.cellsOf e8 = 1) (hct : P.cellsOf e = 32) (hcu : P.cellsOf u = 1)
    (hval : Value.okWide P W r b0 t v) (h : DataW.Trod enc P W base spare held t v d p) :
    ∃ (A : Option Addr) (n c : Nat) (f : Nat → DPiece), v = .slice A n c ∧ SlR W A n c 1 ((List.range n).map fun i => (f i).v) ∧ (∀ i, i < n → SlR W (f i).1 (f i).2.1 (f i).2.2.1 32 (digsL (f i).2.2.2)) ∧ ((d = .nil ∧ n = 0) ∨ ∃ el sp, d = .slice el sp ∧ el.length = n) := by
  obtain ⟨a0, len0, cap0, rfl⟩ := okWide_slice ht hval
  obtain ⟨fuel, hf⟩ := h
  rcases open_slice ht hf with ⟨hcs, hx⟩ | ⟨a, len, cap, m, k, D, Pl, hcs, hb, hl, hm, hmm, hx, hel⟩
  · simp only [Value.cells, List.cons.injEq, Value.slice.injEq, and_true] at hcs
    obtain ⟨rfl, rfl, rfl⟩ := hcs
    simp only [Prod.mk.injEq] at hx
    exact ⟨none, 0, 0, fun _ => (none, 0, 0, []), rfl, SlR.nil_ W 1, fun i hi => absurd hi (by omega), .inl ⟨hx.1, rfl⟩⟩
  · simp only [Value.cells, List.cons.injEq, Value.slice.injEq, and_true] at hcs
    obtain ⟨rfl, rfl, rfl⟩ := hcs
    simp only [Prod.mk.injEq] at hx
    rw [hcu] at hel
    have hlm : len0 ≤ m := by rw [hmm]; split <;> omega
    have hin : Inhabited DPiece := ⟨(none, 0, 0, [])⟩
    obtain ⟨f, hf'⟩ := choose_below (α := DPiece) (n := len0) (p := fun i q => W.cells? base (a.add (i * 1)) 1 = some [q.v] ∧ SlR W q.1 q.2.1 q.2.2.1 32 (digsL q.2.2.2)) (fun i hi => by
      obtain ⟨cs', h1, h2⟩ := hel i (by omega)
      obtain ⟨q, rfl, h3⟩ := dpiece_of_trod hu hte he hce hct h2
      exact ⟨q, h1, h3⟩)
    have hs := slr_of (W := W) (base := base) (A := some a) (n := len0) (c := cap0) (s := 1) (by decide) (fun i => [(f i).v]) hl hm (fun _ => ⟨a, rfl, fun i hi => (hf' i hi).1⟩)
    have hfl : ∀ l : List Nat, l.flatMap (fun i => [(f i).v]) = l.map fun i => (f i).v := by
      intro l
      induction l with
      | nil => rfl
      | cons x l ih => simp [ih]
    rw [hfl] at hs
    exact ⟨some a, len0, cap0, f, rfl, hs, fun i hi => (hf' i hi).2, .inr ⟨_, _, hx.1, by simp⟩⟩
end
end Go.Proofs.YtkbleigmfcleaaaDoor
