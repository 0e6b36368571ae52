/-
  Proved here: the contracts of the verifier's look whether two lists of numbers are the same (of one list with itself), and of wots.Digits. No condition.
-/
import Derived.Test.YtfpppmamkmaneaaDoorWotsB
import Derived.Test.YtfpppmamkmaneaaDoorRefBlock
import Derived.Test.YtfpppmamkmaneaaDoorLawD
import Derived.Test.YtfpppmamkmaneaaDoorDrawT
import Derived.Deep.DeepCutAuto
import Derived.Deep.RegionWith
set_option maxRecDepth 20000
namespace Go.Proofs.YtfpppmamkmaneaaDoor
open Go.RowKit

set_option maxHeartbeats 1000000 in
theorem sameI_any (x : List Nat) (A B : Option Addr) (n c d : Nat) (w : World) (hx : SlR w A n c 1 (natsL x)) (hy : SlR w B n d 1 (natsL x)) :
    Calls Tryd.prog 43 #[.slice A n c, .slice B n d] w fun e w' => e = .returned (.bool true) ∧ St w w' [] := by
  have hst := St.refl w
  have hxl : x.length = n := by have := hx.1; simp only [natsL, List.length_map, Nat.mul_one] at this; omega
  have hxm := hx.2.2.1
  have hxc := hx.2.1
  simp only [maxLen] at hxm
  have HC := Lib.hid (fun i (hi : i < n) => show (natsL x)[i]? = some (.int .i64 ((x.getD i 0 : Nat) : Int)) by simp [natsL, natV, show i < x.length by omega])
  clear hxl
  generalize natsL x = l at *
  go_enter Tryd.func43, Tryd.ntmps43
  go_wp2_with (first
    | fail)
  go_loopg [5] n (fun gk s5 wr => ∃ i : Nat, Hid (i + gk = n) ∧ s5 = .int .i64 (i : Int) ∧ St w wr [])
  case atStart => exact ⟨0, Lib.hid (by omega), rfl, hst⟩
  case round =>
    clear hst
    obtain ⟨i, HI, rfl, hst⟩ := hrel
    have hi := HI.out
    by_cases hin : i < n
    · clear hi
      have HX := Lib.hid (HC.out i hin)
      generalize x.getD i 0 = v at HX
      go_wp2_with (first
        | fail)
      refine wp_region_idx [(0, 0), (1, 0), (2, 0), (3, 0), (4, 0), (5, 2), (6, 2), (7, 2), (8, 2)] (by kernel_rfl) (by kernel_rfl) ?_
      replace hst := hst.drew
      refine idx_q rfl rfl ?_; go_wp2_with fail
      refine idx_q rfl rfl ?_; go_wp2_with fail
      refine idx_q rfl rfl ?_; go_wp2_with (first | (refine L_idxS (d := some 19) rfl rfl rfl (by rfl) (by rfl) Tryd.underlying63 el_int (by first | exact hst.old (by decide) hx | exact hst.old (by decide) hy | assumption | exact hst.sl 0 rfl | exact hst.sl 1 rfl | exact hst.sl 2 rfl | exact hst.sl 3 rfl | exact hst.sl 4 rfl | exact hst.sl 5 rfl | exact hst.old (by decide) (by assumption)) (by omega) (by omega) ?_; intro o19 p19 ha19 hr19; (first | subst ha19 | (obtain ⟨h1, h2⟩ := some_addr ha19; subst h1; subst h2; clear ha19) | skip)) | fail)
      refine idx_q rfl rfl ?_; go_wp2_with (first | (refine L_load1 (d := some 20) rfl rfl rfl (by rfl) Tryd.underlying3 rfl (cell_of_range1 hr19 (k := i) (by omega) HX.out) ?_) | (refine L_load1 (d := some 20) rfl rfl rfl (by rfl) Tryd.underlying3 rfl (by first | assumption | exact cell_of (hst.get 0 rfl) rfl | exact cell_of (hst.get 1 rfl) rfl | exact cell_of (hst.get 2 rfl) rfl | exact cell_of (hst.get 3 rfl) rfl | exact cell_of (hst.get 4 rfl) rfl | exact cell_of (hst.get 5 rfl) rfl) ?_) | fail)
      refine idx_q rfl rfl ?_; go_wp2_with fail
      refine idx_g rfl ?_; go_wp2_with fail; refine ⟨by first | exact Below.refl _ _ | exact hnew.below, ?_⟩
      refine idx_g rfl ?_; go_wp2_with (first | (refine L_idxS (d := some 23) rfl rfl rfl (by rfl) (by rfl) Tryd.underlying63 el_int (by first | exact hst.old (by decide) hx | exact hst.old (by decide) hy | assumption | exact hst.sl 0 rfl | exact hst.sl 1 rfl | exact hst.sl 2 rfl | exact hst.sl 3 rfl | exact hst.sl 4 rfl | exact hst.sl 5 rfl | exact hst.old (by decide) (by assumption)) (by omega) (by omega) ?_; intro o23 p23 ha23 hr23; (first | subst ha23 | (obtain ⟨h1, h2⟩ := some_addr ha23; subst h1; subst h2; clear ha23) | skip)) | fail); refine ⟨by first | exact Below.refl _ _ | exact hnew.below, ?_⟩
      refine idx_g rfl ?_; go_wp2_with (first | (refine L_load1 (d := some 24) rfl rfl rfl (by rfl) Tryd.underlying3 rfl (cell_of_range1 hr23 (k := i) (by omega) HX.out) ?_) | (refine L_load1 (d := some 24) rfl rfl rfl (by rfl) Tryd.underlying3 rfl (by first | assumption | exact cell_of (hst.get 0 rfl) rfl | exact cell_of (hst.get 1 rfl) rfl | exact cell_of (hst.get 2 rfl) rfl | exact cell_of (hst.get 3 rfl) rfl | exact cell_of (hst.get 4 rfl) rfl | exact cell_of (hst.get 5 rfl) rfl) ?_) | fail); refine ⟨by first | exact Below.refl _ _ | exact hnew.below, ?_⟩
      refine idx_g rfl ?_; go_wp2_with (first | (refine L_load1 (d := some 20) rfl rfl rfl (by rfl) Tryd.underlying3 rfl (cell_of_range1 hr19 (k := i) (by omega) HX.out) ?_) | (refine L_load1 (d := some 24) rfl rfl rfl (by rfl) Tryd.underlying3 rfl (cell_of_range1 hr23 (k := i) (by omega) HX.out) ?_) | fail); refine ⟨by first | exact Below.refl _ _ | exact hnew.below, ?_⟩
      refine idx_nil ?_
      go_wp2_with fail
      go_roundg (gk - 1)
      case measure => have hi := HI.out; omega
      case rel =>
        have hi := HI.out
        exact ⟨i + 1, Lib.hid (by omega), by go_num, hst⟩
    · obtain rfl : i = n := by omega
      clear hi HI
      go_wp2_with (first
        | fail)
      go_ret
      exact ⟨rfl, hst⟩

set_option maxHeartbeats 1000000 in
theorem wDigits_any (m : Dig) (w : World) :
    Calls Tryd.prog 44 #[m.v] w fun e w' => ∃ g, e = .returned (.slice (some ⟨g, 0, none⟩) 67 67) ∧ St w w' [.blk g 89 (natsL (digitsN m.l)).toArray] := by
  have hst := St.refl w
  go_enter Tryd.func44, Tryd.ntmps44
  go_wp2_with (first
    | (go_at_call 70; (try clear hnew); with_reducible refine (digits_any m _).mono ?_; rintro e W5 ⟨rfl, hnew⟩; replace hst := hst.keep hnew; clear hnew)
    | (refine L_boxA (d := some 1) rfl rfl rfl (ev_tmp rfl) ?_; (try clear hnew); intro g1 W1 hnew; replace hst := hst.trans hnew; simp only [List.cons_append, List.nil_append] at hst)
    | (first | (refine L_loadA (d := some 4) rfl rfl rfl (by rfl) Tryd.underlying25 rfl el_api_Digest (by first | exact hst.get 0 rfl | exact hst.get 1 rfl | exact hst.get 2 rfl) (by first | rfl | exact Dig.size _ | (simp; done)) ?_) | (refine L_loadM (d := some 4) rfl rfl rfl (by rfl) Tryd.underlying25 rfl el_api_Digest (by first | assumption) (by first | rfl | exact Dig.size _ | (simp; done)) ?_))
    | (refine L_allocA (d := some 3) rfl rfl rfl el_A67_int ?_; (try clear hnew); intro g3 W3 hnew; replace hst := hst.trans hnew; simp only [List.cons_append, List.nil_append] at hst)
    | (refine wpl_at (.store 89 (.tmp 3) (.tmp 5)) rfl ?_; first | (refine L_storeA rfl rfl hst rfl (by rfl) (ev_tmp rfl) (by first | rfl | exact Dig.one _ | exact oneCell_nats | (simp; done)) el_A67_int (by first | rfl | exact Dig.size _ | exact size_digits _ | (simp; done)) 0 rfl (by first | rfl | exact Dig.size _ | exact size_digits _ | (simp; done)) ?_; clear hst; intro WS3 hst; simp only [List.set_cons_zero, List.set_cons_succ] at hst) | (refine L_storeA rfl rfl hst rfl (by rfl) (ev_tmp rfl) (by first | rfl | exact Dig.one _ | exact oneCell_nats | (simp; done)) el_A67_int (by first | rfl | exact Dig.size _ | exact size_digits _ | (simp; done)) 1 rfl (by first | rfl | exact Dig.size _ | exact size_digits _ | (simp; done)) ?_; clear hst; intro WS3 hst; simp only [List.set_cons_zero, List.set_cons_succ] at hst) | (refine L_storeA rfl rfl hst rfl (by rfl) (ev_tmp rfl) (by first | rfl | exact Dig.one _ | exact oneCell_nats | (simp; done)) el_A67_int (by first | rfl | exact Dig.size _ | exact size_digits _ | (simp; done)) 2 rfl (by first | rfl | exact Dig.size _ | exact size_digits _ | (simp; done)) ?_; clear hst; intro WS3 hst; simp only [List.set_cons_zero, List.set_cons_succ] at hst) | (refine L_storeM rfl rfl hst rfl (by rfl) (ev_tmp rfl) (by first | rfl | exact Dig.one _ | exact oneCell_nats | (simp; done)) el_A67_int (by first | rfl | exact Dig.size _ | exact size_digits _ | (simp; done)) 0 rfl (by first | exact of_decide_eq_true rfl | (simp; done)) ?_; clear hst; intro WS3 hst; simp only [List.set_cons_zero, List.set_cons_succ] at hst)  | (refine L_storeM rfl rfl hst rfl (by rfl) (ev_tmp rfl) (by first | rfl | exact Dig.one _ | exact oneCell_nats | (simp; done)) el_A67_int (by first | rfl | exact Dig.size _ | exact size_digits _ | (simp; done)) 1 rfl (by first | exact of_decide_eq_true rfl | (simp; done)) ?_; clear hst; intro WS3 hst; simp only [List.set_cons_zero, List.set_cons_succ] at hst)  | (refine L_storeM rfl rfl hst rfl (by rfl) (ev_tmp rfl) (by first | rfl | exact Dig.one _ | exact oneCell_nats | (simp; done)) el_A67_int (by first | rfl | exact Dig.size _ | exact size_digits _ | (simp; done)) 2 rfl (by first | exact of_decide_eq_true rfl | (simp; done)) ?_; clear hst; intro WS3 hst; simp only [List.set_cons_zero, List.set_cons_succ] at hst))
    | (refine L_sliceAll (d := some 6) rfl rfl rfl (by rfl) Tryd.underlying89 el_int (by first | exact hst.get 0 rfl | exact hst.get 1 rfl | exact hst.get 2 rfl) (by first | rfl | exact Dig.size _ | exact size_digits _ | (simp; done)) (by decide) ?_; intro hs6)
    | fail)
  go_ret
  exact ⟨_, rfl, hst.pick [0] (by decide)⟩
end Go.Proofs.YtfpppmamkmaneaaDoor
