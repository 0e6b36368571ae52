/-
  Proved here: the contract of the verifier's look whether two lists of numbers are the same (of one list with itself). No condition.
-/
import Derived.Test.YtkbleigmfcleaaaDoorSame
import Derived.Test.YtkbleigmfcleaaaDoorRefBlock
import Derived.Test.YtkbleigmfcleaaaDoorLawD
import Derived.Test.YtkbleigmfcleaaaDoorDrawT
import Derived.Deep.DeepCutAuto
import Derived.Deep.RegionWith
set_option maxRecDepth 20000
set_option linter.unusedSimpArgs false
set_option linter.unusedVariables false
namespace Go.Proofs.YtkbleigmfcleaaaDoor
open Go.RowKit

set_option maxHeartbeats 1000000 in
theorem sameI_any (x : List Nat) (A B : Option Addr) (n c d : Nat) (w : World) (hx : SlR w A n c 1 (natsL x)) (hy : SlR w B n d 1 (natsL x)) :
    Calls Tryd.prog 25 #[.slice A n c, .slice B n d] w fun e w' => e = .returned (.bool true) ∧ St w w' [] := by
  have hst := St.refl w
  have hxl : x.length = n := by have := hx.1; simp only [natsL, List.length_map, Nat.mul_one] at this; omega
  have hxm := hx.2.2.1
  have hxc := hx.2.1
  simp only [maxLen] at hxm
  have HC := Lib.hid (fun i (hi : i < n) => show (natsL x)[i]? = some (.int .i64 ((x.getD i 0 : Nat) : Int)) by simp [natsL, natV, show i < x.length by omega])
  clear hxl
  generalize natsL x = l at *
  go_enter Tryd.func25, Tryd.ntmps25
  go_wp2_with (first
    | fail)
  go_loopg [5] n (fun gk s5 wr => ∃ i : Nat, Hid (i + gk = n) ∧ s5 = .int .i64 (i : Int) ∧ St w wr [])
  case atStart => exact ⟨0, Lib.hid (by omega), rfl, hst⟩
  case round =>
    clear hst
    obtain ⟨i, HI, rfl, hst⟩ := hrel
    have hi := HI.out
    by_cases hin : i < n
    · clear hi
      have HX := Lib.hid (HC.out i hin)
      generalize x.getD i 0 = v at HX
      go_wp2_with (first
        | fail)
      refine wp_region_idx [(0, 0), (1, 0), (2, 0), (3, 0), (4, 0), (5, 2), (6, 2), (7, 2), (8, 2)] (by kernel_rfl) (by kernel_rfl) ?_
      replace hst := hst.drew
      refine idx_q rfl rfl ?_; go_wp2_with fail
      refine idx_q rfl rfl ?_; go_wp2_with fail
      refine idx_q rfl rfl ?_; go_wp2_with (first | (refine L_idxS (d := some 19) rfl rfl rfl (by rfl) (by rfl) Tryd.underlying44 el_int (by first | exact hst.old (by decide) hx | exact hst.old (by decide) hy | assumption | exact hst.sl 0 rfl | exact hst.sl 1 rfl | exact hst.sl 2 rfl | exact hst.sl 3 rfl | exact hst.sl 4 rfl | exact hst.sl 5 rfl | exact hst.old (by decide) (by assumption)) (by omega) (by omega) ?_; intro o19 p19 ha19 hr19; (first | subst ha19 | (obtain ⟨h1, h2⟩ := some_addr ha19; subst h1; subst h2; clear ha19) | skip)) | fail)
      refine idx_q rfl rfl ?_; go_wp2_with (first | (refine L_load1 (d := some 20) rfl rfl rfl (by rfl) Tryd.underlying3 rfl (cell_of_range1 hr19 (k := i) (by omega) HX.out) ?_) | (refine L_load1 (d := some 20) rfl rfl rfl (by rfl) Tryd.underlying3 rfl (by first | assumption | exact cell_of (hst.get 0 rfl) rfl | exact cell_of (hst.get 1 rfl) rfl | exact cell_of (hst.get 2 rfl) rfl | exact cell_of (hst.get 3 rfl) rfl | exact cell_of (hst.get 4 rfl) rfl | exact cell_of (hst.get 5 rfl) rfl) ?_) | fail)
      refine idx_q rfl rfl ?_; go_wp2_with fail
      refine idx_g rfl ?_; go_wp2_with fail; refine ⟨by first | exact Below.refl _ _ | exact hnew.below, ?_⟩
      refine idx_g rfl ?_; go_wp2_with (first | (refine L_idxS (d := some 23) rfl rfl rfl (by rfl) (by rfl) Tryd.underlying44 el_int (by first | exact hst.old (by decide) hx | exact hst.old (by decide) hy | assumption | exact hst.sl 0 rfl | exact hst.sl 1 rfl | exact hst.sl 2 rfl | exact hst.sl 3 rfl | exact hst.sl 4 rfl | exact hst.sl 5 rfl | exact hst.old (by decide) (by assumption)) (by omega) (by omega) ?_; intro o23 p23 ha23 hr23; (first | subst ha23 | (obtain ⟨h1, h2⟩ := some_addr ha23; subst h1; subst h2; clear ha23) | skip)) | fail); refine ⟨by first | exact Below.refl _ _ | exact hnew.below, ?_⟩
      refine idx_g rfl ?_; go_wp2_with (first | (refine L_load1 (d := some 24) rfl rfl rfl (by rfl) Tryd.underlying3 rfl (cell_of_range1 hr23 (k := i) (by omega) HX.out) ?_) | (refine L_load1 (d := some 24) rfl rfl rfl (by rfl) Tryd.underlying3 rfl (by first | assumption | exact cell_of (hst.get 0 rfl) rfl | exact cell_of (hst.get 1 rfl) rfl | exact cell_of (hst.get 2 rfl) rfl | exact cell_of (hst.get 3 rfl) rfl | exact cell_of (hst.get 4 rfl) rfl | exact cell_of (hst.get 5 rfl) rfl) ?_) | fail); refine ⟨by first | exact Below.refl _ _ | exact hnew.below, ?_⟩
      refine idx_g rfl ?_; go_wp2_with (first | (refine L_load1 (d := some 20) rfl rfl rfl (by rfl) Tryd.underlying3 rfl (cell_of_range1 hr19 (k := i) (by omega) HX.out) ?_) | (refine L_load1 (d := some 24) rfl rfl rfl (by rfl) Tryd.underlying3 rfl (cell_of_range1 hr23 (k := i) (by omega) HX.out) ?_) | fail); refine ⟨by first | exact Below.refl _ _ | exact hnew.below, ?_⟩
      refine idx_nil ?_
      go_wp2_with fail
      go_roundg (gk - 1)
      case measure => have hi := HI.out; omega
      case rel =>
        have hi := HI.out
        exact ⟨i + 1, Lib.hid (by omega), by go_num, hst⟩
    · obtain rfl : i = n := by omega
      clear hi HI
      go_wp2_with (first
        | fail)
      go_ret
      exact ⟨rfl, hst⟩

end Go.Proofs.YtkbleigmfcleaaaDoor
