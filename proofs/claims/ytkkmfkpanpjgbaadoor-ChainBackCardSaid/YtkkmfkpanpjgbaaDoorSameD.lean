/-
  Proved here: the contract of the verifier's look whether two lists of digests are the same. No condition.
-/
import Derived.Test.YtkkmfkpanpjgbaaDoorChain
import Derived.Test.YtkkmfkpanpjgbaaDoorLawD
import Derived.Test.YtkkmfkpanpjgbaaDoorDrawT
import Derived.Deep.DeepCutAuto
import Derived.Deep.RegionWith
set_option maxRecDepth 20000
set_option linter.unusedSimpArgs false
set_option linter.unusedVariables false
namespace Go.Proofs.YtkkmfkpanpjgbaaDoor
open Go.RowKit

theorem eq_of_takeD {α : Type} {x y : List α} {i : Nat} (hx : x.length ≤ i) (hl : x.length = y.length) (h : x.take i = y.take i) : x = y := by
  rwa [List.take_of_length_le hx, List.take_of_length_le (by omega)] at h
theorem digs_take_succ {x y : List Dig} {i : Nat} (hx : i < x.length) (hy : i < y.length) (h : x.take i = y.take i) (he : x[i] = y[i]) : x.take (i + 1) = y.take (i + 1) := by
  rw [List.take_succ_eq_append_getElem hx, List.take_succ_eq_append_getElem hy, h, he]


end Go.Proofs.YtkkmfkpanpjgbaaDoor
