/-
  Proved here: an operation whose guard did not yield what it asks for is passed over. No condition on any program.
-/
import Derived.Test.YtkkmfkpanpjgbaaDoorLawB
set_option linter.unusedSimpArgs false
set_option linter.unusedVariables false
namespace Go.Proofs.YtkkmfkpanpjgbaaDoor
open Go.RowKit

theorem put_same {a : Act} {t : Tmp} (h : a.tmps.toList[t]? = some undef) : a.put (some t) undef = a := by
  have h' : a.tmps[t]? = some undef := by simpa using h
  have e : a.tmps.setIfInBounds t undef = a.tmps := by
    apply Array.ext_getElem?
    intro i
    rw [Array.getElem?_setIfInBounds]
    by_cases hi : t = i
    · subst hi
      rw [if_pos rfl, h']
      obtain ⟨hl, _⟩ := Array.getElem?_eq_some_iff.1 h'
      rw [if_pos hl]
    · rw [if_neg hi]
  unfold Act.put
  simp only [e]
/-- an operation that is not wanted is passed over: its slot, never filled, stays so -/
theorem L_un {P : Program} {ops : Array Oper} {rest : List Oper} {o : Oper} {a : Act} {W : World} {Q : Exit → Act → World → Prop} {t : Tmp} (hd : o.dst = some t) (hw : Region.wanted o (yielded ops a.tmps) = false) (hu : a.tmps.toList[t]? = some undef) (h : wpList P ops Q rest a W) : wpList P ops Q (o :: rest) a W := by
  unfold wpList
  rw [if_neg (by simp [hw]), hd, put_same hu]
  exact h
/-- arithmetic on slots that were never filled (it is not wanted) reads nothing -/
theorem calmV_un {P : Program} {ρ : Operand → Value} {o : Oper} {b : BinOp} {t t' : TypeId} {x y : Operand} (ho : o.op = .binOp b t x y t') (hx : ρ x = undef) (hy : ρ y = undef) (hb : (b == .eql || b == .neq) = false) : CalmV P (execOp ρ o) := by
  intro w n w' hr
  exfalso
  unfold execOp at hr
  simp only [ho, hx, hy] at hr
  cases b <;> first | (exact absurd hb (by decide)) | (revert hr; simp [eqGuard, undef, Go.binOp, stuck, Sem.run])
theorem idx_un {P : Program} {ops : Array Oper} {Q : Act → World → Prop} {i : Nat} {rest : List (Nat × Nat)} {o : Oper} {a : Act} {w : World} (hi : ops[i]? = some o) {b : BinOp} {t t' : TypeId} {x y : Operand} (ho : o.op = .binOp b t x y t') (hx : a.eval x = undef) (hy : a.eval y = undef) (hb : (b == .eql || b == .neq) = false)
    (h : wpList P ops (Exit.then (wpIdx P ops Q rest) fun _ _ _ => False) [o] a w) : wpIdx P ops Q ((i, 0) :: rest) a w :=
  idx_qv hi (calmV_un ho hx hy hb) h
end Go.Proofs.YtkkmfkpanpjgbaaDoor
