/-
  Proved here: the contracts of plain.Told and of the verifier's Error. Condition: the variable errors.errorType stands as its text lays it.
-/
import Derived.Test.YtkkmfkpanpjgbaaDoorTold
import Derived.Test.YtkkmfkpanpjgbaaDoorSameD
set_option maxRecDepth 20000
set_option linter.unusedSimpArgs false
set_option linter.unusedVariables false
namespace Go.Proofs.YtkkmfkpanpjgbaaDoor
open Go.RowKit
theorem el_api_Errno : ElemIs Tryd.prog 30 (.int .i64 0) 1 8 := by unfold ElemIs; kernel_rfl

theorem as_any (k : Int) (g : Nat) (old : Value) (w0 w : World) (L : List Res) (hE : Eb w0) (hst : St w0 w (.blk g 30 #[old] :: L)) :
    Calls Tryd.prog 14 #[.iface 30 (.int .i64 k), .iface 46 (.pointer (some ⟨g, 0, none⟩))] w fun e w' => e = .returned (.bool true) ∧ St w0 w' (.blk g 30 #[.int .i64 k] :: L) := by
  have hc := hst.get 0 rfl
  refine (as_hit k ⟨g, 0, none⟩ old w (hE.of hst) (cell_of hc rfl) (by simp [World.frozen?, hc])).mono ?_
  rintro e w' ⟨rfl, rfl⟩
  refine ⟨rfl, ?_⟩
  exact (((((hst.alloc _ _).alloc _ _).alloc _ _).alloc _ _).setCell 4 rfl 0 (.int .i64 k)).tailN 4

set_option maxHeartbeats 1000000 in
theorem told_any (k : Nat) (w : World) (hE : Eb w) : Calls Tryd.prog 11 #[errV k] w fun e w' => e = .returned (.int .i64 (k : Int)) ∧ St w w' [] := by
  have hst := St.refl w
  have HE := Lib.hid hE
  clear hE
  unfold errV
  go_enter Tryd.func11, Tryd.ntmps11
  go_upto_region 1 with (fail)
  go_upto_region 3 with (fail)
  go_upto_region 4 with ((refine L_alloc1 (d := some 3) rfl rfl rfl el_api_Errno rfl ?_; (try clear hnew); intro g3 W3 hnew; replace hst := hst.trans hnew; simp only [List.cons_append, List.nil_append] at hst))
  go_upto_region 5 with ((go_at_call 14; (try clear hnew); refine (as_any (k : Int) g3 (.int .i64 0) w _ [] HE.out hst).mono ?_; rintro e Wa ⟨rfl, hst'⟩; clear hst; have hst := hst'; clear hst'))
  go_wp2_with ((refine L_load1 (d := some 9) rfl rfl rfl (by rfl) Tryd.underlying30 rfl (by (exact cell_of (hst.get 0 rfl) rfl)) ?_))
  go_ret
  exact ⟨rfl, hst.forget⟩
theorem told_nil (w : World) : Calls Tryd.prog 11 #[.nilIface] w fun e w' => e = .returned (.int .i64 0) ∧ St w w' [] := by
  have hst := St.refl w
  go_enter Tryd.func11, Tryd.ntmps11
  go_wp2_with (fail)
  go_ret
  exact ⟨rfl, hst.forget⟩
theorem sError_any (k : Nat) (w : World) (hE : Eb w) : Calls Tryd.prog 5 #[errV k, .int .i64 (k : Int)] w fun e w' => e = .returned (.bool true) ∧ St w w' [] := by
  have hst := St.refl w
  have HE := Lib.hid hE
  clear hE
  go_enter Tryd.func5, Tryd.ntmps5
  go_wp2_with ((go_at_call 11; (try clear hnew); refine (told_any k _ (HE.out.of hst)).mono ?_; rintro e Wk1 ⟨rfl, hnew⟩; replace hst := hst.keep hnew))
  go_ret
  exact ⟨rfl, hst⟩
theorem sError_nil (w : World) : Calls Tryd.prog 5 #[.nilIface, .int .i64 0] w fun e w' => e = .returned (.bool true) ∧ St w w' [] := by
  have hst := St.refl w
  go_enter Tryd.func5, Tryd.ntmps5
  go_wp2_with ((go_at_call 11; (try clear hnew); refine (told_nil _).mono ?_; rintro e Wk2 ⟨rfl, hnew⟩; replace hst := hst.keep hnew))
  go_ret
  exact ⟨rfl, hst⟩
end Go.Proofs.YtkkmfkpanpjgbaaDoor
