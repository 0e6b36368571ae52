/-
  Proved here: an operation whose guard did not yield what it asks for is passed over. No condition on any program.
-/
import Derived.Test.YtaebeemnipafbaaGreatDoorLawB
import Derived.Test.YtaebeemnipafbaaGreatDoorSq
set_option linter.unusedSimpArgs false
set_option linter.unusedVariables false
set_option maxRecDepth 100000
set_option maxHeartbeats 200000000
namespace Go.Proofs.YtaebeemnipafbaaGreatDoor
open Go.RowKit
theorem put_same {a : Act} {t : Tmp} (h : a.tmps.toList[t]? = some undef) : a.put (some t) undef = a := by
 have h' : a.tmps[t]? = some undef := by simpa using h
 have e : a.tmps.setIfInBounds t undef = a.tmps := by
  apply Array.ext_getElem?
  intro i
  rw [Array.getElem?_setIfInBounds]
  by_cases hi : t = i
  ·subst hi
   rw [if_pos rfl, h']
   obtain ⟨hl, _⟩ := Array.getElem?_eq_some_iff.1 h'
   rw [if_pos hl]
  ·rw [if_neg hi]
 unfold Act.put
 simp only [e]
theorem K0 {P : Program} {ops : Array Oper} {rest : List Oper} {o : Oper} {a : Act} {W : World} {Q : Exit → Act → World → Prop} {t : Tmp} (hd : o.dst = some t) (hw : Region.wanted o (yielded ops a.tmps) = false) (hu : a.tmps.toList[t]? = some undef) (h : wpList P ops Q rest a W) : wpList P ops Q (o :: rest) a W := by
 unfold wpList
 rw [if_neg (by simp [hw]), hd, put_same hu]
 exact h
end Go.Proofs.YtaebeemnipafbaaGreatDoor
