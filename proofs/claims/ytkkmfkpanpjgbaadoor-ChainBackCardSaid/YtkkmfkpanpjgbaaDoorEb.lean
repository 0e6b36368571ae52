/-
  Proved here: from a row's condition on what it lists to the variable errors.errorType as it stands. No condition.
-/
import Derived.Test.YtkkmfkpanpjgbaaDoorErrs
import Derived.Test.YtkkmfkpanpjgbaaDoorRows
import Derived.LaidHandle
import Derived.LaidLaws
import Derived.ChangeSame
import Derived.ChangeVars
import Derived.JoinedOf
import Derived.RowKit
import Derived.RowKitTokens
import Derived.Stop.Joined
set_option maxRecDepth 20000
set_option linter.unusedSimpArgs false
set_option linter.unusedVariables false
namespace Go.Proofs.YtkkmfkpanpjgbaaDoor
open Go.ChangeShapes Go.WideShapes Go.RowKit
def ebCell : Value := .iface 68 (.agg #[.pointer (some ⟨2, 26, none⟩)])
theorem etG : Tryd.prog.globalNamed "errors.errorType" = some 0 := by kernel_rfl
theorem rtT : (Tryd.prog.cutTypes.find? (·.1 == "internal/reflectlite.rtype")).map (·.2) = some 68 := by kernel_rfl
theorem oneRow : ((List.range 121).filter fun t => Tryd.prog.rowNamed t [101, 114, 114, 111, 114]) = [26] := by kernel_rfl
theorem nTypes : Tryd.prog.types.size = 121 := by kernel_rfl
theorem eb_of {W : World} (h : handlesMet Tryd.prog [("errors.errorType", Rows.laid_errors_errorType)] W) : Eb W := by
  obtain ⟨name, u, ty, e1, e2, e3, e4, e5⟩ := h _ (List.mem_singleton.2 rfl)
  have en : name = [101, 114, 114, 111, 114] := (Option.some.inj e1).symm
  subst en
  obtain rfl := Option.some.inj (rtT.symm.trans e2)
  have hm : ty ∈ (List.range 121).filter fun t => Tryd.prog.rowNamed t [101, 114, 114, 111, 114] := List.mem_filter.2 ⟨List.mem_range.2 (by rw [← nTypes]; exact e3), e4⟩
  rw [oneRow] at hm
  obtain rfl := List.mem_singleton.1 hm
  have hh : typeHandle Tryd.prog 26 = .pointer (some ⟨2, 26, none⟩) := by kernel_rfl
  rw [hh] at e5
  simpa [Eb] using World.var?_cell etG e5 0
end Go.Proofs.YtkkmfkpanpjgbaaDoor
