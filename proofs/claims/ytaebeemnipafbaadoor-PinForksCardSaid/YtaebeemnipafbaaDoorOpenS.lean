/-
  Proved here: how a slice of slices of bytes is opened. No condition on any program.
-/
import Derived.Test.YtaebeemnipafbaaDoorOpenB
set_option maxRecDepth 20000
set_option linter.unusedSimpArgs false
set_option linter.unusedVariables false
namespace Go.Proofs.YtaebeemnipafbaaDoor
open Go.ChangeShapes Go.WideShapes Go.ChangeAt Go.RowKit Go.Deep

/-- a slice of bytes, with what it reads as -/
abbrev Piece := Option Addr × Nat × Nat × List UInt8
def Piece.v (p : Piece) : Value := .slice p.1 p.2.1 p.2.2.1
section
variable {P : Program} {H : Type} {enc : TypeId × Value → H} {W : World} {base : Nat} {spare : Nat → Bool} {held : Bool}

theorem piece_of_trod {t e : TypeId} {fuel : Nat} {cs : List Value} {x : DataW H × List MemPlace} (ht : P.underlying t = some (.slice e)) (he : P.underlying e = some (.int .u8)) (hce : P.cellsOf e = 1) (hf : DataW.trod enc P W base spare held fuel t cs = some x) :
    ∃ p : Piece, cs = [p.v] ∧ SlR W p.1 p.2.1 p.2.2.1 1 (bytesL p.2.2.2) ∧ ((x.1 = .nil ∧ p.2.1 = 0) ∨ ∃ el sp, x.1 = .slice el sp ∧ el.length = p.2.1) := by
  rcases open_slice ht hf with ⟨hcs, hx⟩ | ⟨a, len0, cap0, m, k, D, Pl, hcs, hb, hl, hm, hmm, hx, hel⟩
  · exact ⟨(none, 0, 0, []), hcs, SlR.nil_ W 1, .inl ⟨by rw [hx], rfl⟩⟩
  · rw [hce] at hel
    have hlm : len0 ≤ m := by rw [hmm]; split <;> omega
    obtain ⟨bs, hbs⟩ := choose_below (α := UInt8) (n := len0) (p := fun i b => W.cells? base (a.add (i * 1)) 1 = some [byteV b]) (fun i hi => by
      obtain ⟨cs', h1, h2⟩ := hel i (by omega)
      match cs', (World.cells?_some h1).2.1 with
      | [x], _ =>
        obtain ⟨b, rfl⟩ := byte_of_trod he h2
        exact ⟨b, h1⟩)
    have hs := slr_of (W := W) (base := base) (A := some a) (n := len0) (c := cap0) (s := 1) (by decide) (fun i => [byteV (bs i)]) hl hm (fun _ => ⟨a, rfl, hbs⟩)
    have hfl : ∀ l : List Nat, l.flatMap (fun i => [byteV (bs i)]) = (l.map bs).map byteV := by
      intro l
      induction l with
      | nil => rfl
      | cons x l ih => simp [ih]
    rw [hfl] at hs
    exact ⟨(some a, len0, cap0, (List.range len0).map bs), hcs, hs, .inr ⟨_, _, by rw [hx], by simp⟩⟩

instance : Inhabited Piece := ⟨(none, 0, 0, [])⟩
/-- a slice of slices of bytes -/
theorem open_bytess {r : Reach} {b0 : Nat} {t u e : TypeId} {v : Value} {d : DataW H} {p : List MemPlace} (ht : P.underlying t = some (.slice u)) (hu : P.underlying u = some (.slice e)) (he : P.underlying e = some (.int .u8)) (hce : P.cellsOf e = 1) (hcu : P.cellsOf u = 1)
    (hval : Value.okWide P W r b0 t v) (h : DataW.Trod enc P W base spare held t v d p) :
    ∃ (A : Option Addr) (n c : Nat) (f : Nat → Piece), v = .slice A n c ∧ SlR W A n c 1 ((List.range n).map fun i => (f i).v) ∧ (∀ i, i < n → SlR W (f i).1 (f i).2.1 (f i).2.2.1 1 (bytesL (f i).2.2.2)) ∧
      ((d = .nil ∧ n = 0) ∨ ∃ (D : Nat → DataW H) (sp : List (DataW H)), d = .slice ((List.range n).map D) sp ∧ ∀ i, i < n → (D i = .nil ∧ (f i).2.1 = 0) ∨ ∃ el sp, D i = .slice el sp ∧ el.length = (f i).2.1) := by
  obtain ⟨a0, len0, cap0, rfl⟩ := okWide_slice ht hval
  obtain ⟨fuel, hf⟩ := h
  rcases open_slice ht hf with ⟨hcs, hx⟩ | ⟨a, len, cap, m, k, D, Pl, hcs, hb, hl, hm, hmm, hx, hel⟩
  · simp only [Value.cells, List.cons.injEq, Value.slice.injEq, and_true] at hcs
    obtain ⟨rfl, rfl, rfl⟩ := hcs
    simp only [Prod.mk.injEq] at hx
    exact ⟨none, 0, 0, fun _ => default, rfl, SlR.nil_ W 1, fun i hi => absurd hi (by omega), .inl ⟨hx.1, rfl⟩⟩
  · simp only [Value.cells, List.cons.injEq, Value.slice.injEq, and_true] at hcs
    obtain ⟨rfl, rfl, rfl⟩ := hcs
    simp only [Prod.mk.injEq] at hx
    rw [hcu] at hel
    have hlm : len0 ≤ m := by rw [hmm]; split <;> omega
    obtain ⟨f, hf'⟩ := choose_below (α := Piece) (n := len0) (p := fun i q => W.cells? base (a.add (i * 1)) 1 = some [q.v] ∧ SlR W q.1 q.2.1 q.2.2.1 1 (bytesL q.2.2.2) ∧ ((D i = .nil ∧ q.2.1 = 0) ∨ ∃ el sp, D i = .slice el sp ∧ el.length = q.2.1)) (fun i hi => by
      obtain ⟨cs', h1, h2⟩ := hel i (by omega)
      obtain ⟨q, rfl, h3, h4⟩ := piece_of_trod hu he hce h2
      exact ⟨q, h1, h3, h4⟩)
    have hs := slr_of (W := W) (base := base) (A := some a) (n := len0) (c := cap0) (s := 1) (by decide) (fun i => [(f i).v]) hl hm (fun _ => ⟨a, rfl, fun i hi => (hf' i hi).1⟩)
    have hfl : ∀ l : List Nat, l.flatMap (fun i => [(f i).v]) = l.map fun i => (f i).v := by
      intro l
      induction l with
      | nil => rfl
      | cons x l ih => simp [ih]
    rw [hfl] at hs
    exact ⟨some a, len0, cap0, f, rfl, hs, fun i hi => (hf' i hi).2.1, .inr ⟨D, _, hx.1, fun i hi => (hf' i hi).2.2⟩⟩
end
end Go.Proofs.YtaebeemnipafbaaDoor
