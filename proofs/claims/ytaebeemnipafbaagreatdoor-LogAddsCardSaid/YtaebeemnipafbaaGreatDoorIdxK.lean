/-
  Proved here: an element's place in a slice whose own place is known. No condition on any program.
-/
import Derived.Test.YtaebeemnipafbaaGreatDoorLawC
set_option maxRecDepth 20000
set_option linter.unusedSimpArgs false
set_option linter.unusedVariables false
namespace Go.Proofs.YtaebeemnipafbaaGreatDoor
open Go.RowKit

theorem L_idxK {P : Program} {ops : Array Oper} {rest : List Oper} {o : Oper} {a : Act} {W : World} {Q : Exit → Act → World → Prop} {d : Option Tmp} (hd : o.dst = d) (hw : Region.wanted o (yielded ops a.tmps) = true) {T : TypeId} {x y : Operand} (ho : o.op = .indexAddr T x y) {g off n c : Nat} (hx : a.eval x = .slice (some ⟨g, off, none⟩) n c) {k : IntKind} {i : Int} (hy : a.eval y = .int k i)
    {e : TypeId} (hu : P.underlying T = some (.slice e)) {z : Value} {s b : Nat} (he : ElemIs P e z s b) {xs : List Value} (hs : SlR W (some ⟨g, off, none⟩) n c s xs) (h0 : 0 ≤ i) (h1 : i < (n : Int))
    (h : W.rangeAt g (off + i.toNat * s) ((xs.drop (i.toNat * s)).take s) → wpList P ops Q rest (a.put d (.pointer (some ⟨g, off + i.toNat * s, none⟩))) W) : wpList P ops Q (o :: rest) a W := by
  refine L_idxS hd hw ho hx hy hu he hs h0 h1 fun g' off' e hr => ?_
  cases e
  exact h hr
end Go.Proofs.YtaebeemnipafbaaGreatDoor
