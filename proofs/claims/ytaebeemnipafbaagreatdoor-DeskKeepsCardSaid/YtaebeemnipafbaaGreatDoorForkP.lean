/-
  Proved here: as ForkM, where sums of numbers and cuts of slices hang on no world at all. No condition on any program.
-/
import Derived.Test.YtaebeemnipafbaaGreatDoorForkM
import Derived.Test.YtaebeemnipafbaaGreatDoorLaw
import Derived.Test.YtaebeemnipafbaaGreatDoorLawF
set_option maxRecDepth 20000
set_option linter.unusedSimpArgs false
set_option linter.unusedVariables false
namespace Go.Proofs.YtaebeemnipafbaaGreatDoor
open Go.RowKit
section
variable {P : Program} {ops : Array Oper} {Q : Act → World → Prop}
theorem PureV.of_run {s : Sem Next} {v : Value} (h : ∀ W, s.run P W = .ok (.value v) W) : PureV P s := fun w n w' hr => by
  rw [h w] at hr
  simp only [Result.ok.injEq] at hr
  obtain ⟨rfl, rfl⟩ := hr
  exact ⟨⟨v, rfl⟩, rfl, h⟩
theorem pm_pv {i : Nat} {r : Pm} {o : Oper} {a : Act} {w : World} (ho : ops[i]? = some o) (hc : PureV P (execOp a.eval o))
    (h : wpList P ops (Exit.then (wpPm P ops Q r) fun _ _ _ => False) [o] a w) : wpPm P ops Q (.one i 3 r) a w :=
  ⟨o, ho, fun e => absurd e (by decide), fun _ => hc, by
    have : (fun (a' : Act) (w' : World) => ((3 : Nat) = 2 → Below w.heap.size w w') ∧ wpPm P ops Q r a' w') = wpPm P ops Q r := by
      funext a' w'; simp
    rw [this]; exact h⟩
variable {ρ : Operand → Value} {o : Oper}
theorem pureV_convert {s t : TypeId} {x : Operand} (ho : o.op = .convert s t x) {k : IntKind} {n : Int} (hx : ρ x = .int k n) {ds : TypeDesc} (hs : P.underlying s = some ds) {k' : IntKind} (ht : P.underlying t = some (.int k')) : PureV P (execOp ρ o) := by
  refine PureV.of_run (v := .int k' (k'.wrap n)) fun W => ?_
  unfold execOp
  simp only [ho, hx]
  cases ds <;> simp [convert, run_underlying hs, run_underlying ht, Conv.intToInt]
theorem pureV_fieldAddr {s : TypeId} {x : Operand} {f : Nat} (ho : o.op = .fieldAddr s x f) {g off : Nat} (hx : ρ x = .pointer (some ⟨g, off, none⟩)) {fs : Array Field} (hu : P.underlying s = some (.struct fs)) {fl : Field} (hf : fs[f]? = some fl) (hn : (P.info? fl.type).any (fun i => i.size != 0) = true) : PureV P (execOp ρ o) := by
  refine PureV.of_run (v := .pointer (some ((⟨g, off, none⟩ : Addr).add fl.offset))) fun W => ?_
  obtain ⟨i, hi, hs⟩ : ∃ i, P.info? fl.type = some i ∧ i.size ≠ 0 := by
    cases h : P.info? fl.type with
    | none => rw [h] at hn; cases hn
    | some i => rw [h] at hn; exact ⟨i, rfl, by simpa using hn⟩
  unfold execOp
  simp only [ho, hx]
  simp [Instr.fieldAt, run_underlying hu, hf, Instr.sureAddr, fieldPlace, sizeOf, typeInfo, hi, hs]
end
end Go.Proofs.YtaebeemnipafbaaGreatDoor
