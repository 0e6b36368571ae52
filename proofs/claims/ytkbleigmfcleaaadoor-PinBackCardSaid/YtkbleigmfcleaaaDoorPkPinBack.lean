/-
  Proved here: PinBack: the law returns true for every input, and leaves its arguments as they were.
-/
import Derived.Test.YtkbleigmfcleaaaDoorPkPinBackA
import Derived.Test.YtkbleigmfcleaaaDoorPkPinBackB
import Derived.Test.YtkbleigmfcleaaaDoorMac
import Derived.Test.YtkbleigmfcleaaaDoorForkM
import Derived.Test.YtkbleigmfcleaaaDoorSkip
import Derived.Deep.LoopGhost
import Derived.Test.YtkbleigmfcleaaaDoorOpenB
import Derived.Test.YtkbleigmfcleaaaDoorCards
import Derived.Test.YtkbleigmfcleaaaDoorTie
import Derived.Deep.DeepHandedRow
import Derived.ProofKit
import Derived.OpenShut
import Derived.Test.YtkbleigmfcleaaaDoorOpenG
set_option linter.unusedSimpArgs false
set_option linter.unusedVariables false
namespace Go.Proofs.YtkbleigmfcleaaaDoor
open Go.RowKit
def pinAft (r : Nat) (a b : Array Value) : Array Value := if r = 0 then b else a
attribute [local simp] pinArr_size hdArr_size
set_option maxHeartbeats 40000000 in
set_option maxRecDepth 100000 in
theorem ptake_any (key : List UInt8) (g : Nat) (O : Option Addr) (m oc : Nat) (n0 : Int) (x0 y0 z0 : Dig) (n : Int) (x y z : Dig) (p : List Dig) (P : Option Addr) (k pc : Nat) (w0 w : World) (L : List Res) (hT : Tb w0) (hp : SlR w0 P k pc 32 (digsL p))
  (hst : St w0 w (.blk g 103 (pinArr O m oc n0 x0 y0 z0) :: .row O m oc 5 1 (bytesL key) :: L)) (hm : m ≤ 140737488355000) (hn1 : -9223372036854775808 ≤ n) (hn2 : n ≤ 9223372036854775807) (h0 : 0 ≤ n0) :
  Calls Tryd.prog 40 #[.pointer (some ⟨g, 0, none⟩), .agg (hdArr n x y z), .slice P k pc] w fun e w' => e = .returned (errO (takeN key n0 x0 y0 n x y z p)) ∧
   St w0 w' (.blk g 103 (pinAft (takeN key n0 x0 y0 n x y z p) (pinArr O m oc n0 x0 y0 z0) (pinArr O m oc n x y z)) :: .row O m oc 5 1 (bytesL key) :: L) := by
 have hl : p.length = k := by have := hp.1; rw [length_digsL] at this; omega
 have HT := Lib.hid hT
 have HC := Lib.hid (fun (w' : World) (ht : Tb w') (h1 : SlR w' O m oc 1 (bytesL key)) => told_tag_any key O m oc n x y z w' hn1 hn2 ht h1 hm)
 clear hT hn1 hn2 hm
 have HK := Lib.hid (fun (w' : World) (ht : Tb w') (hs : SlR w' P k pc 32 (digsL p)) => check_all n0 n x0 x p P k pc w' ht hs)
 obtain ⟨r, hr⟩ : ∃ r, r = takeN key n0 x0 y0 n x y z p := ⟨_, rfl⟩
 rw [← hr]
 unfold takeN at hr
 by_cases c1 : z = tagN key n x y
 ·rw [if_pos c1] at hr
  rw [decide_eq_true c1] at HC
  clear c1
  have HR := Lib.hid hr
  clear hr
  have hl0 := Lib.hid hl
  have h00 := Lib.hid h0
  clear hl h0
  go_enter Tryd.func40, Tryd.ntmps40
  go_upto_region 1 with (go_big_may; first
   | (refine L_boxA (d := some 4) rfl rfl rfl (ev_tmp rfl) ?_; (try clear hnew); intro g4 W4 hnew; replace hst := hst.trans hnew; simp only [List.cons_append, List.nil_append] at hst)
   | fail)
  go_upto_region 2 with (go_big_may; first
   | (first | (refine L_loadA (d := some 11) rfl rfl rfl (by rfl) Tryd.underlying39 rfl el_api_Head (by first | exact hst.get 0 rfl | exact hst.get 1 rfl | exact hst.get 2 rfl) (by first | exact Dig.size _ | exact hdArr_size _ _ _ _ | rfl | (simp; done)) ?_) | (refine L_loadM (d := some 11) rfl rfl rfl (by rfl) Tryd.underlying39 rfl el_api_Head (by first | assumption | exact pinArr_head (hst.get 1 rfl)) (by first | exact Dig.size _ | exact hdArr_size _ _ _ _ | rfl | (simp; done)) ?_))
   | (refine L_allocA (d := some 7) rfl rfl rfl el_api_Head ?_; (try clear hnew); intro g7 W7 hnew; replace hst := hst.trans hnew; simp only [List.cons_append, List.nil_append] at hst)
   | (refine wpl_at (.store 39 (.tmp 7) (.tmp 11)) rfl ?_; first | (refine L_storeA rfl rfl hst rfl (by rfl) (ev_tmp rfl) (by first | rfl | exact Dig.one _ | exact hdArr_all _ _ _ _ | (simp; done)) el_api_Head (by first | rfl | exact Dig.size _ | exact hdArr_size _ _ _ _ | (simp; done)) 0 rfl (by first | rfl | exact Dig.size _ | exact hdArr_size _ _ _ _ | (simp; done)) ?_; clear hst; intro WS5 hst; simp only [List.set_cons_zero, List.set_cons_succ] at hst) | (refine L_storeA rfl rfl hst rfl (by rfl) (ev_tmp rfl) (by first | rfl | exact Dig.one _ | exact hdArr_all _ _ _ _ | (simp; done)) el_api_Head (by first | rfl | exact Dig.size _ | exact hdArr_size _ _ _ _ | (simp; done)) 1 rfl (by first | rfl | exact Dig.size _ | exact hdArr_size _ _ _ _ | (simp; done)) ?_; clear hst; intro WS5 hst; simp only [List.set_cons_zero, List.set_cons_succ] at hst) | (refine L_storeA rfl rfl hst rfl (by rfl) (ev_tmp rfl) (by first | rfl | exact Dig.one _ | exact hdArr_all _ _ _ _ | (simp; done)) el_api_Head (by first | rfl | exact Dig.size _ | exact hdArr_size _ _ _ _ | (simp; done)) 2 rfl (by first | rfl | exact Dig.size _ | exact hdArr_size _ _ _ _ | (simp; done)) ?_; clear hst; intro WS5 hst; simp only [List.set_cons_zero, List.set_cons_succ] at hst) | (refine L_storeM rfl rfl hst rfl (by rfl) (ev_tmp rfl) (by first | rfl | exact Dig.one _ | exact hdArr_all _ _ _ _ | (simp; done)) el_api_Head (by first | rfl | exact Dig.size _ | exact hdArr_size _ _ _ _ | (simp; done)) 0 rfl (by first | exact of_decide_eq_true rfl | (simp; done)) ?_; clear hst; intro WS5 hst; simp only [List.set_cons_zero, List.set_cons_succ] at hst)  | (refine L_storeM rfl rfl hst rfl (by rfl) (ev_tmp rfl) (by first | rfl | exact Dig.one _ | exact hdArr_all _ _ _ _ | (simp; done)) el_api_Head (by first | rfl | exact Dig.size _ | exact hdArr_size _ _ _ _ | (simp; done)) 1 rfl (by first | exact of_decide_eq_true rfl | (simp; done)) ?_; clear hst; intro WS5 hst; simp only [List.set_cons_zero, List.set_cons_succ] at hst)  | (refine L_storeM rfl rfl hst rfl (by rfl) (ev_tmp rfl) (by first | rfl | exact Dig.one _ | exact hdArr_all _ _ _ _ | (simp; done)) el_api_Head (by first | rfl | exact Dig.size _ | exact hdArr_size _ _ _ _ | (simp; done)) 2 rfl (by first | exact of_decide_eq_true rfl | (simp; done)) ?_; clear hst; intro WS5 hst; simp only [List.set_cons_zero, List.set_cons_succ] at hst))
   | fail)
  refine wp_region_idx [(0, 0), (1, 0), (2, 0), (3, 0), (4, 2), (5, 2), (6, 2), (7, 2)] (by kernel_rfl) (by kernel_rfl) ?_
  replace hst := hst.drew
  refine idx_q rfl rfl ?_; go_wp2_with fail
  refine idx_q rfl rfl ?_; go_wp2_with fail
  refine idx_qf rfl rfl (by kernel_rfl) ?_; go_wp2_with fail
  refine idx_q rfl rfl ?_; go_wp2_with (first | (refine L_load1 (d := some 16) rfl rfl rfl (by rfl) Tryd.underlying49 rfl (by first | assumption | exact cell_of (hst.get 0 rfl) pinArr_0 | exact cell_of (hst.get 0 rfl) rfl | exact cell_of (hst.get 1 rfl) pinArr_0 | exact cell_of (hst.get 1 rfl) rfl | exact cell_of (hst.get 2 rfl) pinArr_0 | exact cell_of (hst.get 2 rfl) rfl) ?_) | fail)
  refine idx_g rfl ?_; go_wp2_with (first | (first | (refine L_loadA (d := some 17) rfl rfl rfl (by rfl) Tryd.underlying39 rfl el_api_Head (by first | exact hst.get 0 rfl | exact hst.get 1 rfl | exact hst.get 2 rfl) (by first | exact Dig.size _ | exact hdArr_size _ _ _ _ | rfl | (simp; done)) ?_) | (refine L_loadM (d := some 17) rfl rfl rfl (by rfl) Tryd.underlying39 rfl el_api_Head (by first | assumption) (by first | exact Dig.size _ | exact hdArr_size _ _ _ _ | rfl | (simp; done)) ?_)) | fail); refine ⟨by first | exact Below.refl _ _ | exact hnew.below, ?_⟩
  refine idx_g rfl ?_; go_wp2_with (first | (go_at_call 66; refine (HC.out _ (HT.out.of hst) (hst.sl 3 rfl)).mono ?_; rintro e Wt ⟨rfl, hnew⟩; replace hst := hst.keep hnew) | fail); refine ⟨by first | exact Below.refl _ _ | exact hnew.below, ?_⟩
  refine idx_g rfl ?_; go_wp2_with fail; refine ⟨by first | exact Below.refl _ _ | exact hnew.below, ?_⟩
  refine idx_g rfl ?_; go_wp2_with fail; refine ⟨by first | exact Below.refl _ _ | exact hnew.below, ?_⟩
  refine idx_nil ?_
  by_cases c2 : n < 0
  ·have hr := HR.out
   clear HR
   rw [if_pos (Or.inl c2)] at hr
   have HR := Lib.hid hr
   clear hr
   go_upto_region 5 with (go_big_may; first
    | (refine L_load1 (d := some 23) rfl rfl rfl (by rfl) Tryd.underlying3 rfl (by first | assumption | exact cell_of (hst.get 0 rfl) hdArr_0 | exact cell_of (hst.get 0 rfl) rfl | exact cell_of (hst.get 1 rfl) hdArr_0 | exact cell_of (hst.get 1 rfl) rfl) ?_)
    | fail)
   go_wp2_with (first
    | fail)
   go_ret
   obtain rfl : r = 2 := HR.out
   refine ⟨?_, hst.tail.tail⟩
   show _ = Ending.returned (errV 2)
   rfl
  by_cases c3 : 256 < n
  ·have hr := HR.out
   clear HR
   rw [if_pos (Or.inr c3)] at hr
   have HR := Lib.hid hr
   clear hr
   go_upto_region 5 with (go_big_may; first
    | (refine L_load1 (d := some 23) rfl rfl rfl (by rfl) Tryd.underlying3 rfl (by first | assumption | exact cell_of (hst.get 0 rfl) hdArr_0 | exact cell_of (hst.get 0 rfl) rfl | exact cell_of (hst.get 1 rfl) hdArr_0 | exact cell_of (hst.get 1 rfl) rfl) ?_)
    | (refine L_load1 (d := some 27) rfl rfl rfl (by rfl) Tryd.underlying3 rfl (by first | assumption | exact cell_of (hst.get 0 rfl) hdArr_0 | exact cell_of (hst.get 0 rfl) rfl | exact cell_of (hst.get 1 rfl) hdArr_0 | exact cell_of (hst.get 1 rfl) rfl) ?_)
    | fail)
   go_wp2_with (first
    | fail)
   go_ret
   obtain rfl : r = 2 := HR.out
   refine ⟨?_, hst.tail.tail⟩
   show _ = Ending.returned (errV 2)
   rfl
  have hr := HR.out
  clear HR
  rw [if_neg (not_or.2 ⟨c2, c3⟩)] at hr
  have HR := Lib.hid hr
  clear hr
  by_cases c4 : n < n0
  ·have hr := HR.out
   clear HR
   rw [if_pos c4] at hr
   have HR := Lib.hid hr
   clear hr
   go_upto_region 6 with (go_big_may; first
    | (refine L_load1 (d := some 23) rfl rfl rfl (by rfl) Tryd.underlying3 rfl (by first | assumption | exact cell_of (hst.get 0 rfl) hdArr_0 | exact cell_of (hst.get 0 rfl) rfl | exact cell_of (hst.get 1 rfl) hdArr_0 | exact cell_of (hst.get 1 rfl) rfl) ?_)
    | (refine L_load1 (d := some 27) rfl rfl rfl (by rfl) Tryd.underlying3 rfl (by first | assumption | exact cell_of (hst.get 0 rfl) hdArr_0 | exact cell_of (hst.get 0 rfl) rfl | exact cell_of (hst.get 1 rfl) hdArr_0 | exact cell_of (hst.get 1 rfl) rfl) ?_)
    | fail)
   go_upto_region 7 with (go_big_may; first
    | (refine L_load1 (d := some 33) rfl rfl rfl (by rfl) Tryd.underlying3 rfl (by first | assumption | exact cell_of (hst.get 0 rfl) hdArr_0 | exact cell_of (hst.get 0 rfl) rfl | exact cell_of (hst.get 1 rfl) hdArr_0 | exact cell_of (hst.get 1 rfl) rfl) ?_)
    | (refine L_load1 (d := some 35) rfl rfl rfl (by rfl) Tryd.underlying3 rfl (by first | assumption | exact cell_of (hst.get 0 rfl) hdArr_0 | exact cell_of (hst.get 0 rfl) rfl | exact cell_of (hst.get 1 rfl) hdArr_0 | exact cell_of (hst.get 1 rfl) rfl) ?_)
    | fail)
   go_wp2_with (first
    | fail)
   go_ret
   obtain rfl : r = 8 := HR.out
   refine ⟨?_, hst.tail.tail⟩
   show _ = Ending.returned (errV 8)
   rfl
  have hr := HR.out
  clear HR
  rw [if_neg c4] at hr
  have HR := Lib.hid hr
  clear hr
  by_cases c5 : n = n0
  ·subst c5
   have hr := HR.out
   clear HR
   rw [if_pos rfl] at hr
   have HR := Lib.hid hr
   clear hr
   by_cases c6 : x = x0
   ·have hx := dNe x0
    subst c6
    by_cases c7 : y = y0
    ·subst c7
     have hr := HR.out
     clear HR
     rw [if_pos ⟨rfl, rfl⟩] at hr
     have HR := Lib.hid hr
     clear hr
     go_upto_region 6 with (go_big_may; first
      | (refine L_load1 (d := some 23) rfl rfl rfl (by rfl) Tryd.underlying3 rfl (by first | assumption | exact cell_of (hst.get 0 rfl) hdArr_0 | exact cell_of (hst.get 0 rfl) rfl | exact cell_of (hst.get 1 rfl) hdArr_0 | exact cell_of (hst.get 1 rfl) rfl) ?_)
      | (refine L_load1 (d := some 27) rfl rfl rfl (by rfl) Tryd.underlying3 rfl (by first | assumption | exact cell_of (hst.get 0 rfl) hdArr_0 | exact cell_of (hst.get 0 rfl) rfl | exact cell_of (hst.get 1 rfl) hdArr_0 | exact cell_of (hst.get 1 rfl) rfl) ?_)
      | fail)
     go_upto_region 8 with (go_big_may; first
      | (refine L_load1 (d := some 33) rfl rfl rfl (by rfl) Tryd.underlying3 rfl (by first | assumption | exact cell_of (hst.get 0 rfl) hdArr_0 | exact cell_of (hst.get 0 rfl) rfl | exact cell_of (hst.get 1 rfl) hdArr_0 | exact cell_of (hst.get 1 rfl) rfl) ?_)
      | (refine L_load1 (d := some 35) rfl rfl rfl (by rfl) Tryd.underlying3 rfl (by first | assumption | exact cell_of (hst.get 0 rfl) hdArr_0 | exact cell_of (hst.get 0 rfl) rfl | exact cell_of (hst.get 1 rfl) hdArr_0 | exact cell_of (hst.get 1 rfl) rfl) ?_)
      | fail)
     go_upto_region 9 with (go_big_may; first
      | (refine L_load1 (d := some 40) rfl rfl rfl (by rfl) Tryd.underlying3 rfl (by first | assumption | exact cell_of (hst.get 0 rfl) hdArr_0 | exact cell_of (hst.get 0 rfl) rfl | exact cell_of (hst.get 1 rfl) hdArr_0 | exact cell_of (hst.get 1 rfl) rfl) ?_)
      | (refine L_load1 (d := some 42) rfl rfl rfl (by rfl) Tryd.underlying3 rfl (by first | assumption | exact cell_of (hst.get 0 rfl) hdArr_0 | exact cell_of (hst.get 0 rfl) rfl | exact cell_of (hst.get 1 rfl) hdArr_0 | exact cell_of (hst.get 1 rfl) rfl) ?_)
      | fail)
     go_upto_region 16 with (go_big_may; first
      | (first | (refine L_loadA (d := some 45) rfl rfl rfl (by rfl) Tryd.underlying23 rfl el_api_Digest (by first | exact hst.get 0 rfl | exact hst.get 1 rfl) (by first | rfl | exact Dig.size _ | (simp; done)) ?_) | (refine L_loadM (d := some 45) rfl rfl rfl (by rfl) Tryd.underlying23 rfl el_api_Digest (by first | assumption | exact hdArr_root (hst.get 0 rfl) | exact hdArr_root (hst.get 1 rfl) | exact hdArr_map (hst.get 0 rfl) | exact hdArr_map (hst.get 1 rfl)) (by first | rfl | exact Dig.size _ | (simp; done)) ?_))
      | (first | (refine L_loadA (d := some 47) rfl rfl rfl (by rfl) Tryd.underlying23 rfl el_api_Digest (by first | exact hst.get 0 rfl | exact hst.get 1 rfl) (by first | rfl | exact Dig.size _ | (simp; done)) ?_) | (refine L_loadM (d := some 47) rfl rfl rfl (by rfl) Tryd.underlying23 rfl el_api_Digest (by first | assumption | exact hdArr_root (hst.get 0 rfl) | exact hdArr_root (hst.get 1 rfl) | exact hdArr_map (hst.get 0 rfl) | exact hdArr_map (hst.get 1 rfl)) (by first | rfl | exact Dig.size _ | (simp; done)) ?_))
      | (refine L_neD (d := some 48) rfl rfl rfl Tryd.underlying23 Tryd.underlying5 el_uint8 eqG_D (ev_tmp rfl) (ev_tmp rfl) ?_; (try rw [dNe _]))
      | (first | (refine L_loadA (d := some 51) rfl rfl rfl (by rfl) Tryd.underlying23 rfl el_api_Digest (by first | exact hst.get 0 rfl | exact hst.get 1 rfl) (by first | rfl | exact Dig.size _ | (simp; done)) ?_) | (refine L_loadM (d := some 51) rfl rfl rfl (by rfl) Tryd.underlying23 rfl el_api_Digest (by first | assumption | exact hdArr_root (hst.get 0 rfl) | exact hdArr_root (hst.get 1 rfl) | exact hdArr_map (hst.get 0 rfl) | exact hdArr_map (hst.get 1 rfl)) (by first | rfl | exact Dig.size _ | (simp; done)) ?_))
      | (first | (refine L_loadA (d := some 53) rfl rfl rfl (by rfl) Tryd.underlying23 rfl el_api_Digest (by first | exact hst.get 0 rfl | exact hst.get 1 rfl) (by first | rfl | exact Dig.size _ | (simp; done)) ?_) | (refine L_loadM (d := some 53) rfl rfl rfl (by rfl) Tryd.underlying23 rfl el_api_Digest (by first | assumption | exact hdArr_root (hst.get 0 rfl) | exact hdArr_root (hst.get 1 rfl) | exact hdArr_map (hst.get 0 rfl) | exact hdArr_map (hst.get 1 rfl)) (by first | rfl | exact Dig.size _ | (simp; done)) ?_))
      | (refine L_neD (d := some 54) rfl rfl rfl Tryd.underlying23 Tryd.underlying5 el_uint8 eqG_D (ev_tmp rfl) (ev_tmp rfl) ?_; (try rw [dNe _]))
      | fail)
     go_upto_region 17 with (go_big_may; first
      | (first | (refine L_loadA (d := some 79) rfl rfl rfl (by rfl) Tryd.underlying39 rfl el_api_Head (by first | exact hst.get 0 rfl | exact hst.get 1 rfl | exact hst.get 2 rfl) (by first | exact Dig.size _ | exact hdArr_size _ _ _ _ | exact pinArr_size _ _ _ _ _ _ _ | rfl | (simp; done)) ?_) | (refine L_loadM (d := some 79) rfl rfl rfl (by rfl) Tryd.underlying39 rfl el_api_Head (by first | assumption) (by first | exact Dig.size _ | exact hdArr_size _ _ _ _ | exact pinArr_size _ _ _ _ _ _ _ | rfl | (simp; done)) ?_))
      | (refine wpl_at (.store 39 (.tmp 81) (.tmp 79)) rfl ?_; first | (refine L_storeA rfl rfl hst rfl (by rfl) (ev_tmp rfl) (by first | rfl | exact Dig.one _ | exact hdArr_all _ _ _ _ | (simp; done)) el_api_Head (by first | rfl | exact Dig.size _ | exact hdArr_size _ _ _ _ | exact pinArr_size _ _ _ _ _ _ _ | (simp; done)) 0 rfl (by first | rfl | exact Dig.size _ | exact hdArr_size _ _ _ _ | exact pinArr_size _ _ _ _ _ _ _ | (simp; done)) ?_; clear hst; intro WS4 hst; simp only [List.set_cons_zero, List.set_cons_succ, pinArr_put _ _ _ _ _ _ _ _ _ _ _] at hst) | (refine L_storeA rfl rfl hst rfl (by rfl) (ev_tmp rfl) (by first | rfl | exact Dig.one _ | exact hdArr_all _ _ _ _ | (simp; done)) el_api_Head (by first | rfl | exact Dig.size _ | exact hdArr_size _ _ _ _ | exact pinArr_size _ _ _ _ _ _ _ | (simp; done)) 1 rfl (by first | rfl | exact Dig.size _ | exact hdArr_size _ _ _ _ | exact pinArr_size _ _ _ _ _ _ _ | (simp; done)) ?_; clear hst; intro WS4 hst; simp only [List.set_cons_zero, List.set_cons_succ, pinArr_put _ _ _ _ _ _ _ _ _ _ _] at hst) | (refine L_storeA rfl rfl hst rfl (by rfl) (ev_tmp rfl) (by first | rfl | exact Dig.one _ | exact hdArr_all _ _ _ _ | (simp; done)) el_api_Head (by first | rfl | exact Dig.size _ | exact hdArr_size _ _ _ _ | exact pinArr_size _ _ _ _ _ _ _ | (simp; done)) 2 rfl (by first | rfl | exact Dig.size _ | exact hdArr_size _ _ _ _ | exact pinArr_size _ _ _ _ _ _ _ | (simp; done)) ?_; clear hst; intro WS4 hst; simp only [List.set_cons_zero, List.set_cons_succ, pinArr_put _ _ _ _ _ _ _ _ _ _ _] at hst) | (refine L_storeM rfl rfl hst rfl (by rfl) (ev_tmp rfl) (by first | rfl | exact Dig.one _ | exact hdArr_all _ _ _ _ | (simp; done)) el_api_Head (by first | rfl | exact Dig.size _ | exact hdArr_size _ _ _ _ | exact pinArr_size _ _ _ _ _ _ _ | (simp; done)) 0 rfl (by first | exact of_decide_eq_true rfl | (simp; done)) ?_; clear hst; intro WS4 hst; simp only [List.set_cons_zero, List.set_cons_succ, pinArr_put _ _ _ _ _ _ _ _ _ _ _] at hst)  | (refine L_storeM rfl rfl hst rfl (by rfl) (ev_tmp rfl) (by first | rfl | exact Dig.one _ | exact hdArr_all _ _ _ _ | (simp; done)) el_api_Head (by first | rfl | exact Dig.size _ | exact hdArr_size _ _ _ _ | exact pinArr_size _ _ _ _ _ _ _ | (simp; done)) 1 rfl (by first | exact of_decide_eq_true rfl | (simp; done)) ?_; clear hst; intro WS4 hst; simp only [List.set_cons_zero, List.set_cons_succ, pinArr_put _ _ _ _ _ _ _ _ _ _ _] at hst)  | (refine L_storeM rfl rfl hst rfl (by rfl) (ev_tmp rfl) (by first | rfl | exact Dig.one _ | exact hdArr_all _ _ _ _ | (simp; done)) el_api_Head (by first | rfl | exact Dig.size _ | exact hdArr_size _ _ _ _ | exact pinArr_size _ _ _ _ _ _ _ | (simp; done)) 2 rfl (by first | exact of_decide_eq_true rfl | (simp; done)) ?_; clear hst; intro WS4 hst; simp only [List.set_cons_zero, List.set_cons_succ, pinArr_put _ _ _ _ _ _ _ _ _ _ _] at hst))
      | fail)
     go_wp2_with (first
      | fail)
     go_ret
     obtain rfl : r = 0 := HR.out
     refine ⟨?_, hst.tail.tail⟩
     show _ = Ending.returned .nilIface
     rfl
    ·have hr := HR.out
     clear HR
     rw [if_neg (fun h => c7 h.2)] at hr
     have HR := Lib.hid hr
     clear hr
     go_upto_region 6 with (go_big_may; first
      | (refine L_load1 (d := some 23) rfl rfl rfl (by rfl) Tryd.underlying3 rfl (by first | assumption | exact cell_of (hst.get 0 rfl) hdArr_0 | exact cell_of (hst.get 0 rfl) rfl | exact cell_of (hst.get 1 rfl) hdArr_0 | exact cell_of (hst.get 1 rfl) rfl) ?_)
      | (refine L_load1 (d := some 27) rfl rfl rfl (by rfl) Tryd.underlying3 rfl (by first | assumption | exact cell_of (hst.get 0 rfl) hdArr_0 | exact cell_of (hst.get 0 rfl) rfl | exact cell_of (hst.get 1 rfl) hdArr_0 | exact cell_of (hst.get 1 rfl) rfl) ?_)
      | fail)
     go_upto_region 8 with (go_big_may; first
      | (refine L_load1 (d := some 33) rfl rfl rfl (by rfl) Tryd.underlying3 rfl (by first | assumption | exact cell_of (hst.get 0 rfl) hdArr_0 | exact cell_of (hst.get 0 rfl) rfl | exact cell_of (hst.get 1 rfl) hdArr_0 | exact cell_of (hst.get 1 rfl) rfl) ?_)
      | (refine L_load1 (d := some 35) rfl rfl rfl (by rfl) Tryd.underlying3 rfl (by first | assumption | exact cell_of (hst.get 0 rfl) hdArr_0 | exact cell_of (hst.get 0 rfl) rfl | exact cell_of (hst.get 1 rfl) hdArr_0 | exact cell_of (hst.get 1 rfl) rfl) ?_)
      | fail)
     go_upto_region 9 with (go_big_may; first
      | (refine L_load1 (d := some 40) rfl rfl rfl (by rfl) Tryd.underlying3 rfl (by first | assumption | exact cell_of (hst.get 0 rfl) hdArr_0 | exact cell_of (hst.get 0 rfl) rfl | exact cell_of (hst.get 1 rfl) hdArr_0 | exact cell_of (hst.get 1 rfl) rfl) ?_)
      | (refine L_load1 (d := some 42) rfl rfl rfl (by rfl) Tryd.underlying3 rfl (by first | assumption | exact cell_of (hst.get 0 rfl) hdArr_0 | exact cell_of (hst.get 0 rfl) rfl | exact cell_of (hst.get 1 rfl) hdArr_0 | exact cell_of (hst.get 1 rfl) rfl) ?_)
      | fail)
     go_upto_region 10 with (go_big_may; first
      | (first | (refine L_loadA (d := some 45) rfl rfl rfl (by rfl) Tryd.underlying23 rfl el_api_Digest (by first | exact hst.get 0 rfl | exact hst.get 1 rfl) (by first | rfl | exact Dig.size _ | (simp; done)) ?_) | (refine L_loadM (d := some 45) rfl rfl rfl (by rfl) Tryd.underlying23 rfl el_api_Digest (by first | assumption | exact hdArr_root (hst.get 0 rfl) | exact hdArr_root (hst.get 1 rfl) | exact hdArr_map (hst.get 0 rfl) | exact hdArr_map (hst.get 1 rfl)) (by first | rfl | exact Dig.size _ | (simp; done)) ?_))
      | (first | (refine L_loadA (d := some 47) rfl rfl rfl (by rfl) Tryd.underlying23 rfl el_api_Digest (by first | exact hst.get 0 rfl | exact hst.get 1 rfl) (by first | rfl | exact Dig.size _ | (simp; done)) ?_) | (refine L_loadM (d := some 47) rfl rfl rfl (by rfl) Tryd.underlying23 rfl el_api_Digest (by first | assumption | exact hdArr_root (hst.get 0 rfl) | exact hdArr_root (hst.get 1 rfl) | exact hdArr_map (hst.get 0 rfl) | exact hdArr_map (hst.get 1 rfl)) (by first | rfl | exact Dig.size _ | (simp; done)) ?_))
      | (refine L_neD (d := some 48) rfl rfl rfl Tryd.underlying23 Tryd.underlying5 el_uint8 eqG_D (ev_tmp rfl) (ev_tmp rfl) ?_; (try rw [dNe _]))
      | (first | (refine L_loadA (d := some 51) rfl rfl rfl (by rfl) Tryd.underlying23 rfl el_api_Digest (by first | exact hst.get 0 rfl | exact hst.get 1 rfl) (by first | rfl | exact Dig.size _ | (simp; done)) ?_) | (refine L_loadM (d := some 51) rfl rfl rfl (by rfl) Tryd.underlying23 rfl el_api_Digest (by first | assumption | exact hdArr_root (hst.get 0 rfl) | exact hdArr_root (hst.get 1 rfl) | exact hdArr_map (hst.get 0 rfl) | exact hdArr_map (hst.get 1 rfl)) (by first | rfl | exact Dig.size _ | (simp; done)) ?_))
      | (first | (refine L_loadA (d := some 53) rfl rfl rfl (by rfl) Tryd.underlying23 rfl el_api_Digest (by first | exact hst.get 0 rfl | exact hst.get 1 rfl) (by first | rfl | exact Dig.size _ | (simp; done)) ?_) | (refine L_loadM (d := some 53) rfl rfl rfl (by rfl) Tryd.underlying23 rfl el_api_Digest (by first | assumption | exact hdArr_root (hst.get 0 rfl) | exact hdArr_root (hst.get 1 rfl) | exact hdArr_map (hst.get 0 rfl) | exact hdArr_map (hst.get 1 rfl)) (by first | rfl | exact Dig.size _ | (simp; done)) ?_))
      | (refine L_neD (d := some 54) rfl rfl rfl Tryd.underlying23 Tryd.underlying5 el_uint8 eqG_D (ev_tmp rfl) (ev_tmp rfl) ?_; (try rw [dNe _]))
      | fail)
     go_wp2_with (first
      | fail)
     go_ret
     obtain rfl : r = 9 := HR.out
     refine ⟨?_, hst.tail.tail⟩
     show _ = Ending.returned (errV 9)
     rfl
   ·have hr := HR.out
    clear HR
    rw [if_neg (fun h => c6 h.1)] at hr
    have HR := Lib.hid hr
    clear hr
    go_upto_region 6 with (go_big_may; first
     | (refine L_load1 (d := some 23) rfl rfl rfl (by rfl) Tryd.underlying3 rfl (by first | assumption | exact cell_of (hst.get 0 rfl) hdArr_0 | exact cell_of (hst.get 0 rfl) rfl | exact cell_of (hst.get 1 rfl) hdArr_0 | exact cell_of (hst.get 1 rfl) rfl) ?_)
     | (refine L_load1 (d := some 27) rfl rfl rfl (by rfl) Tryd.underlying3 rfl (by first | assumption | exact cell_of (hst.get 0 rfl) hdArr_0 | exact cell_of (hst.get 0 rfl) rfl | exact cell_of (hst.get 1 rfl) hdArr_0 | exact cell_of (hst.get 1 rfl) rfl) ?_)
     | fail)
    go_upto_region 8 with (go_big_may; first
     | (refine L_load1 (d := some 33) rfl rfl rfl (by rfl) Tryd.underlying3 rfl (by first | assumption | exact cell_of (hst.get 0 rfl) hdArr_0 | exact cell_of (hst.get 0 rfl) rfl | exact cell_of (hst.get 1 rfl) hdArr_0 | exact cell_of (hst.get 1 rfl) rfl) ?_)
     | (refine L_load1 (d := some 35) rfl rfl rfl (by rfl) Tryd.underlying3 rfl (by first | assumption | exact cell_of (hst.get 0 rfl) hdArr_0 | exact cell_of (hst.get 0 rfl) rfl | exact cell_of (hst.get 1 rfl) hdArr_0 | exact cell_of (hst.get 1 rfl) rfl) ?_)
     | fail)
    go_upto_region 9 with (go_big_may; first
     | (refine L_load1 (d := some 40) rfl rfl rfl (by rfl) Tryd.underlying3 rfl (by first | assumption | exact cell_of (hst.get 0 rfl) hdArr_0 | exact cell_of (hst.get 0 rfl) rfl | exact cell_of (hst.get 1 rfl) hdArr_0 | exact cell_of (hst.get 1 rfl) rfl) ?_)
     | (refine L_load1 (d := some 42) rfl rfl rfl (by rfl) Tryd.underlying3 rfl (by first | assumption | exact cell_of (hst.get 0 rfl) hdArr_0 | exact cell_of (hst.get 0 rfl) rfl | exact cell_of (hst.get 1 rfl) hdArr_0 | exact cell_of (hst.get 1 rfl) rfl) ?_)
     | fail)
    go_upto_region 10 with (go_big_may; first
     | (first | (refine L_loadA (d := some 45) rfl rfl rfl (by rfl) Tryd.underlying23 rfl el_api_Digest (by first | exact hst.get 0 rfl | exact hst.get 1 rfl) (by first | rfl | exact Dig.size _ | (simp; done)) ?_) | (refine L_loadM (d := some 45) rfl rfl rfl (by rfl) Tryd.underlying23 rfl el_api_Digest (by first | assumption | exact hdArr_root (hst.get 0 rfl) | exact hdArr_root (hst.get 1 rfl) | exact hdArr_map (hst.get 0 rfl) | exact hdArr_map (hst.get 1 rfl)) (by first | rfl | exact Dig.size _ | (simp; done)) ?_))
     | (first | (refine L_loadA (d := some 47) rfl rfl rfl (by rfl) Tryd.underlying23 rfl el_api_Digest (by first | exact hst.get 0 rfl | exact hst.get 1 rfl) (by first | rfl | exact Dig.size _ | (simp; done)) ?_) | (refine L_loadM (d := some 47) rfl rfl rfl (by rfl) Tryd.underlying23 rfl el_api_Digest (by first | assumption | exact hdArr_root (hst.get 0 rfl) | exact hdArr_root (hst.get 1 rfl) | exact hdArr_map (hst.get 0 rfl) | exact hdArr_map (hst.get 1 rfl)) (by first | rfl | exact Dig.size _ | (simp; done)) ?_))
     | (refine L_neD (d := some 48) rfl rfl rfl Tryd.underlying23 Tryd.underlying5 el_uint8 eqG_D (ev_tmp rfl) (ev_tmp rfl) ?_)
     | fail)
    go_wp2_with (first
     | fail)
    go_ret
    obtain rfl : r = 9 := HR.out
    refine ⟨?_, hst.tail.tail⟩
    show _ = Ending.returned (errV 9)
    rfl
  have hr := HR.out
  clear HR
  rw [if_neg c5] at hr
  have HR := Lib.hid hr
  clear hr
  by_cases c6 : n0 = 0
  ·subst c6
   have hr := HR.out
   clear HR
   rw [if_pos rfl] at hr
   have HR := Lib.hid hr
   clear hr
   have hl := hl0.out
   by_cases c7 : p = []
   ·subst c7
    obtain rfl : k = 0 := by simpa using hl.symm
    clear hl hl0
    have hr := HR.out
    clear HR
    rw [if_pos rfl] at hr
    have HR := Lib.hid hr
    clear hr
    go_upto_region 6 with (go_big_may; first
     | (refine L_load1 (d := some 23) rfl rfl rfl (by rfl) Tryd.underlying3 rfl (by first | assumption | exact cell_of (hst.get 0 rfl) hdArr_0 | exact cell_of (hst.get 0 rfl) rfl | exact cell_of (hst.get 1 rfl) hdArr_0 | exact cell_of (hst.get 1 rfl) rfl) ?_)
     | (refine L_load1 (d := some 27) rfl rfl rfl (by rfl) Tryd.underlying3 rfl (by first | assumption | exact cell_of (hst.get 0 rfl) hdArr_0 | exact cell_of (hst.get 0 rfl) rfl | exact cell_of (hst.get 1 rfl) hdArr_0 | exact cell_of (hst.get 1 rfl) rfl) ?_)
     | fail)
    go_upto_region 8 with (go_big_may; first
     | (refine L_load1 (d := some 33) rfl rfl rfl (by rfl) Tryd.underlying3 rfl (by first | assumption | exact cell_of (hst.get 0 rfl) hdArr_0 | exact cell_of (hst.get 0 rfl) rfl | exact cell_of (hst.get 1 rfl) hdArr_0 | exact cell_of (hst.get 1 rfl) rfl) ?_)
     | (refine L_load1 (d := some 35) rfl rfl rfl (by rfl) Tryd.underlying3 rfl (by first | assumption | exact cell_of (hst.get 0 rfl) hdArr_0 | exact cell_of (hst.get 0 rfl) rfl | exact cell_of (hst.get 1 rfl) hdArr_0 | exact cell_of (hst.get 1 rfl) rfl) ?_)
     | fail)
    go_upto_region 11 with (go_big_may; first
     | (refine L_load1 (d := some 40) rfl rfl rfl (by rfl) Tryd.underlying3 rfl (by first | assumption | exact cell_of (hst.get 0 rfl) hdArr_0 | exact cell_of (hst.get 0 rfl) rfl | exact cell_of (hst.get 1 rfl) hdArr_0 | exact cell_of (hst.get 1 rfl) rfl) ?_)
     | (refine L_load1 (d := some 42) rfl rfl rfl (by rfl) Tryd.underlying3 rfl (by first | assumption | exact cell_of (hst.get 0 rfl) hdArr_0 | exact cell_of (hst.get 0 rfl) rfl | exact cell_of (hst.get 1 rfl) hdArr_0 | exact cell_of (hst.get 1 rfl) rfl) ?_)
     | fail)
    go_upto_region 12 with (go_big_may; first
     | (refine L_load1 (d := some 59) rfl rfl rfl (by rfl) Tryd.underlying3 rfl (by first | assumption | exact cell_of (hst.get 0 rfl) hdArr_0 | exact cell_of (hst.get 0 rfl) rfl | exact cell_of (hst.get 1 rfl) hdArr_0 | exact cell_of (hst.get 1 rfl) rfl) ?_)
     | fail)
    go_upto_region 16 with (go_big_may; first
     | fail)
    go_upto_region 17 with (go_big_may; first
     | (first | (refine L_loadA (d := some 79) rfl rfl rfl (by rfl) Tryd.underlying39 rfl el_api_Head (by first | exact hst.get 0 rfl | exact hst.get 1 rfl | exact hst.get 2 rfl) (by first | exact Dig.size _ | exact hdArr_size _ _ _ _ | exact pinArr_size _ _ _ _ _ _ _ | rfl | (simp; done)) ?_) | (refine L_loadM (d := some 79) rfl rfl rfl (by rfl) Tryd.underlying39 rfl el_api_Head (by first | assumption) (by first | exact Dig.size _ | exact hdArr_size _ _ _ _ | exact pinArr_size _ _ _ _ _ _ _ | rfl | (simp; done)) ?_))
     | (refine wpl_at (.store 39 (.tmp 81) (.tmp 79)) rfl ?_; first | (refine L_storeA rfl rfl hst rfl (by rfl) (ev_tmp rfl) (by first | rfl | exact Dig.one _ | exact hdArr_all _ _ _ _ | (simp; done)) el_api_Head (by first | rfl | exact Dig.size _ | exact hdArr_size _ _ _ _ | exact pinArr_size _ _ _ _ _ _ _ | (simp; done)) 0 rfl (by first | rfl | exact Dig.size _ | exact hdArr_size _ _ _ _ | exact pinArr_size _ _ _ _ _ _ _ | (simp; done)) ?_; clear hst; intro WS4 hst; simp only [List.set_cons_zero, List.set_cons_succ, pinArr_put _ _ _ _ _ _ _ _ _ _ _] at hst) | (refine L_storeA rfl rfl hst rfl (by rfl) (ev_tmp rfl) (by first | rfl | exact Dig.one _ | exact hdArr_all _ _ _ _ | (simp; done)) el_api_Head (by first | rfl | exact Dig.size _ | exact hdArr_size _ _ _ _ | exact pinArr_size _ _ _ _ _ _ _ | (simp; done)) 1 rfl (by first | rfl | exact Dig.size _ | exact hdArr_size _ _ _ _ | exact pinArr_size _ _ _ _ _ _ _ | (simp; done)) ?_; clear hst; intro WS4 hst; simp only [List.set_cons_zero, List.set_cons_succ, pinArr_put _ _ _ _ _ _ _ _ _ _ _] at hst) | (refine L_storeA rfl rfl hst rfl (by rfl) (ev_tmp rfl) (by first | rfl | exact Dig.one _ | exact hdArr_all _ _ _ _ | (simp; done)) el_api_Head (by first | rfl | exact Dig.size _ | exact hdArr_size _ _ _ _ | exact pinArr_size _ _ _ _ _ _ _ | (simp; done)) 2 rfl (by first | rfl | exact Dig.size _ | exact hdArr_size _ _ _ _ | exact pinArr_size _ _ _ _ _ _ _ | (simp; done)) ?_; clear hst; intro WS4 hst; simp only [List.set_cons_zero, List.set_cons_succ, pinArr_put _ _ _ _ _ _ _ _ _ _ _] at hst) | (refine L_storeM rfl rfl hst rfl (by rfl) (ev_tmp rfl) (by first | rfl | exact Dig.one _ | exact hdArr_all _ _ _ _ | (simp; done)) el_api_Head (by first | rfl | exact Dig.size _ | exact hdArr_size _ _ _ _ | exact pinArr_size _ _ _ _ _ _ _ | (simp; done)) 0 rfl (by first | exact of_decide_eq_true rfl | (simp; done)) ?_; clear hst; intro WS4 hst; simp only [List.set_cons_zero, List.set_cons_succ, pinArr_put _ _ _ _ _ _ _ _ _ _ _] at hst)  | (refine L_storeM rfl rfl hst rfl (by rfl) (ev_tmp rfl) (by first | rfl | exact Dig.one _ | exact hdArr_all _ _ _ _ | (simp; done)) el_api_Head (by first | rfl | exact Dig.size _ | exact hdArr_size _ _ _ _ | exact pinArr_size _ _ _ _ _ _ _ | (simp; done)) 1 rfl (by first | exact of_decide_eq_true rfl | (simp; done)) ?_; clear hst; intro WS4 hst; simp only [List.set_cons_zero, List.set_cons_succ, pinArr_put _ _ _ _ _ _ _ _ _ _ _] at hst)  | (refine L_storeM rfl rfl hst rfl (by rfl) (ev_tmp rfl) (by first | rfl | exact Dig.one _ | exact hdArr_all _ _ _ _ | (simp; done)) el_api_Head (by first | rfl | exact Dig.size _ | exact hdArr_size _ _ _ _ | exact pinArr_size _ _ _ _ _ _ _ | (simp; done)) 2 rfl (by first | exact of_decide_eq_true rfl | (simp; done)) ?_; clear hst; intro WS4 hst; simp only [List.set_cons_zero, List.set_cons_succ, pinArr_put _ _ _ _ _ _ _ _ _ _ _] at hst))
     | fail)
    go_wp2_with (first
     | fail)
    go_ret
    obtain rfl : r = 0 := HR.out
    refine ⟨?_, hst.tail.tail⟩
    show _ = Ending.returned .nilIface
    rfl
   ·have hk0 : (0 : Int) < (k : Int) := by
     have := List.length_pos_iff.2 c7
     omega
    clear hl hl0
    have hr := HR.out
    clear HR
    rw [if_neg c7] at hr
    have HR := Lib.hid hr
    clear hr
    go_upto_region 6 with (go_big_may; first
     | (refine L_load1 (d := some 23) rfl rfl rfl (by rfl) Tryd.underlying3 rfl (by first | assumption | exact cell_of (hst.get 0 rfl) hdArr_0 | exact cell_of (hst.get 0 rfl) rfl | exact cell_of (hst.get 1 rfl) hdArr_0 | exact cell_of (hst.get 1 rfl) rfl) ?_)
     | (refine L_load1 (d := some 27) rfl rfl rfl (by rfl) Tryd.underlying3 rfl (by first | assumption | exact cell_of (hst.get 0 rfl) hdArr_0 | exact cell_of (hst.get 0 rfl) rfl | exact cell_of (hst.get 1 rfl) hdArr_0 | exact cell_of (hst.get 1 rfl) rfl) ?_)
     | fail)
    go_upto_region 8 with (go_big_may; first
     | (refine L_load1 (d := some 33) rfl rfl rfl (by rfl) Tryd.underlying3 rfl (by first | assumption | exact cell_of (hst.get 0 rfl) hdArr_0 | exact cell_of (hst.get 0 rfl) rfl | exact cell_of (hst.get 1 rfl) hdArr_0 | exact cell_of (hst.get 1 rfl) rfl) ?_)
     | (refine L_load1 (d := some 35) rfl rfl rfl (by rfl) Tryd.underlying3 rfl (by first | assumption | exact cell_of (hst.get 0 rfl) hdArr_0 | exact cell_of (hst.get 0 rfl) rfl | exact cell_of (hst.get 1 rfl) hdArr_0 | exact cell_of (hst.get 1 rfl) rfl) ?_)
     | fail)
    go_upto_region 11 with (go_big_may; first
     | (refine L_load1 (d := some 40) rfl rfl rfl (by rfl) Tryd.underlying3 rfl (by first | assumption | exact cell_of (hst.get 0 rfl) hdArr_0 | exact cell_of (hst.get 0 rfl) rfl | exact cell_of (hst.get 1 rfl) hdArr_0 | exact cell_of (hst.get 1 rfl) rfl) ?_)
     | (refine L_load1 (d := some 42) rfl rfl rfl (by rfl) Tryd.underlying3 rfl (by first | assumption | exact cell_of (hst.get 0 rfl) hdArr_0 | exact cell_of (hst.get 0 rfl) rfl | exact cell_of (hst.get 1 rfl) hdArr_0 | exact cell_of (hst.get 1 rfl) rfl) ?_)
     | fail)
    go_upto_region 12 with (go_big_may; first
     | (refine L_load1 (d := some 59) rfl rfl rfl (by rfl) Tryd.underlying3 rfl (by first | assumption | exact cell_of (hst.get 0 rfl) hdArr_0 | exact cell_of (hst.get 0 rfl) rfl | exact cell_of (hst.get 1 rfl) hdArr_0 | exact cell_of (hst.get 1 rfl) rfl) ?_)
     | fail)
    go_upto_region 13 with (go_big_may; first
     | fail)
    go_wp2_with (first
     | fail)
    go_ret
    obtain rfl : r = 9 := HR.out
    refine ⟨?_, hst.tail.tail⟩
    show _ = Ending.returned (errV 9)
    rfl
  have hr := HR.out
  clear HR
  rw [if_neg c6] at hr
  have HR := Lib.hid hr
  clear hr
  by_cases c7 : growsB n0 n x0 x p = true
  ·have hr := HR.out
   clear HR
   rw [if_pos c7] at hr
   have HR := Lib.hid hr
   clear hr
   rw [c7] at HK
   go_upto_region 6 with (go_big_may; first
    | (refine L_load1 (d := some 23) rfl rfl rfl (by rfl) Tryd.underlying3 rfl (by first | assumption | exact cell_of (hst.get 0 rfl) hdArr_0 | exact cell_of (hst.get 0 rfl) rfl | exact cell_of (hst.get 1 rfl) hdArr_0 | exact cell_of (hst.get 1 rfl) rfl) ?_)
    | (refine L_load1 (d := some 27) rfl rfl rfl (by rfl) Tryd.underlying3 rfl (by first | assumption | exact cell_of (hst.get 0 rfl) hdArr_0 | exact cell_of (hst.get 0 rfl) rfl | exact cell_of (hst.get 1 rfl) hdArr_0 | exact cell_of (hst.get 1 rfl) rfl) ?_)
    | fail)
   go_upto_region 8 with (go_big_may; first
    | (refine L_load1 (d := some 33) rfl rfl rfl (by rfl) Tryd.underlying3 rfl (by first | assumption | exact cell_of (hst.get 0 rfl) hdArr_0 | exact cell_of (hst.get 0 rfl) rfl | exact cell_of (hst.get 1 rfl) hdArr_0 | exact cell_of (hst.get 1 rfl) rfl) ?_)
    | (refine L_load1 (d := some 35) rfl rfl rfl (by rfl) Tryd.underlying3 rfl (by first | assumption | exact cell_of (hst.get 0 rfl) hdArr_0 | exact cell_of (hst.get 0 rfl) rfl | exact cell_of (hst.get 1 rfl) hdArr_0 | exact cell_of (hst.get 1 rfl) rfl) ?_)
    | fail)
   go_upto_region 11 with (go_big_may; first
    | (refine L_load1 (d := some 40) rfl rfl rfl (by rfl) Tryd.underlying3 rfl (by first | assumption | exact cell_of (hst.get 0 rfl) hdArr_0 | exact cell_of (hst.get 0 rfl) rfl | exact cell_of (hst.get 1 rfl) hdArr_0 | exact cell_of (hst.get 1 rfl) rfl) ?_)
    | (refine L_load1 (d := some 42) rfl rfl rfl (by rfl) Tryd.underlying3 rfl (by first | assumption | exact cell_of (hst.get 0 rfl) hdArr_0 | exact cell_of (hst.get 0 rfl) rfl | exact cell_of (hst.get 1 rfl) hdArr_0 | exact cell_of (hst.get 1 rfl) rfl) ?_)
    | fail)
   go_upto_region 14 with (go_big_may; first
    | (refine L_load1 (d := some 59) rfl rfl rfl (by rfl) Tryd.underlying3 rfl (by first | assumption | exact cell_of (hst.get 0 rfl) hdArr_0 | exact cell_of (hst.get 0 rfl) rfl | exact cell_of (hst.get 1 rfl) hdArr_0 | exact cell_of (hst.get 1 rfl) rfl) ?_)
    | fail)
   go_upto_region 16 with (go_big_may; first
    | (go_at_call 67; refine (HK.out _ (HT.out.of hst) (hst.old (by decide) hp)).mono ?_; rintro e Wk ⟨rfl, hnew⟩; replace hst := hst.keep hnew)
    | (refine L_load1 (d := some 67) rfl rfl rfl (by rfl) Tryd.underlying3 rfl (by first | assumption | exact cell_of (hst.get 0 rfl) hdArr_0 | exact cell_of (hst.get 0 rfl) rfl | exact cell_of (hst.get 1 rfl) hdArr_0 | exact cell_of (hst.get 1 rfl) rfl) ?_)
    | (refine L_load1 (d := some 69) rfl rfl rfl (by rfl) Tryd.underlying3 rfl (by first | assumption | exact cell_of (hst.get 0 rfl) hdArr_0 | exact cell_of (hst.get 0 rfl) rfl | exact cell_of (hst.get 1 rfl) hdArr_0 | exact cell_of (hst.get 1 rfl) rfl) ?_)
    | (first | (refine L_loadA (d := some 71) rfl rfl rfl (by rfl) Tryd.underlying23 rfl el_api_Digest (by first | exact hst.get 0 rfl | exact hst.get 1 rfl) (by first | rfl | exact Dig.size _ | (simp; done)) ?_) | (refine L_loadM (d := some 71) rfl rfl rfl (by rfl) Tryd.underlying23 rfl el_api_Digest (by first | assumption | exact hdArr_root (hst.get 0 rfl) | exact hdArr_root (hst.get 1 rfl) | exact hdArr_map (hst.get 0 rfl) | exact hdArr_map (hst.get 1 rfl)) (by first | rfl | exact Dig.size _ | (simp; done)) ?_))
    | (first | (refine L_loadA (d := some 73) rfl rfl rfl (by rfl) Tryd.underlying23 rfl el_api_Digest (by first | exact hst.get 0 rfl | exact hst.get 1 rfl) (by first | rfl | exact Dig.size _ | (simp; done)) ?_) | (refine L_loadM (d := some 73) rfl rfl rfl (by rfl) Tryd.underlying23 rfl el_api_Digest (by first | assumption | exact hdArr_root (hst.get 0 rfl) | exact hdArr_root (hst.get 1 rfl) | exact hdArr_map (hst.get 0 rfl) | exact hdArr_map (hst.get 1 rfl)) (by first | rfl | exact Dig.size _ | (simp; done)) ?_))
    | fail)
   go_upto_region 17 with (go_big_may; first
    | (first | (refine L_loadA (d := some 79) rfl rfl rfl (by rfl) Tryd.underlying39 rfl el_api_Head (by first | exact hst.get 0 rfl | exact hst.get 1 rfl | exact hst.get 2 rfl) (by first | exact Dig.size _ | exact hdArr_size _ _ _ _ | exact pinArr_size _ _ _ _ _ _ _ | rfl | (simp; done)) ?_) | (refine L_loadM (d := some 79) rfl rfl rfl (by rfl) Tryd.underlying39 rfl el_api_Head (by first | assumption) (by first | exact Dig.size _ | exact hdArr_size _ _ _ _ | exact pinArr_size _ _ _ _ _ _ _ | rfl | (simp; done)) ?_))
    | (refine wpl_at (.store 39 (.tmp 81) (.tmp 79)) rfl ?_; first | (refine L_storeA rfl rfl hst rfl (by rfl) (ev_tmp rfl) (by first | rfl | exact Dig.one _ | exact hdArr_all _ _ _ _ | (simp; done)) el_api_Head (by first | rfl | exact Dig.size _ | exact hdArr_size _ _ _ _ | exact pinArr_size _ _ _ _ _ _ _ | (simp; done)) 0 rfl (by first | rfl | exact Dig.size _ | exact hdArr_size _ _ _ _ | exact pinArr_size _ _ _ _ _ _ _ | (simp; done)) ?_; clear hst; intro WS4 hst; simp only [List.set_cons_zero, List.set_cons_succ, pinArr_put _ _ _ _ _ _ _ _ _ _ _] at hst) | (refine L_storeA rfl rfl hst rfl (by rfl) (ev_tmp rfl) (by first | rfl | exact Dig.one _ | exact hdArr_all _ _ _ _ | (simp; done)) el_api_Head (by first | rfl | exact Dig.size _ | exact hdArr_size _ _ _ _ | exact pinArr_size _ _ _ _ _ _ _ | (simp; done)) 1 rfl (by first | rfl | exact Dig.size _ | exact hdArr_size _ _ _ _ | exact pinArr_size _ _ _ _ _ _ _ | (simp; done)) ?_; clear hst; intro WS4 hst; simp only [List.set_cons_zero, List.set_cons_succ, pinArr_put _ _ _ _ _ _ _ _ _ _ _] at hst) | (refine L_storeA rfl rfl hst rfl (by rfl) (ev_tmp rfl) (by first | rfl | exact Dig.one _ | exact hdArr_all _ _ _ _ | (simp; done)) el_api_Head (by first | rfl | exact Dig.size _ | exact hdArr_size _ _ _ _ | exact pinArr_size _ _ _ _ _ _ _ | (simp; done)) 2 rfl (by first | rfl | exact Dig.size _ | exact hdArr_size _ _ _ _ | exact pinArr_size _ _ _ _ _ _ _ | (simp; done)) ?_; clear hst; intro WS4 hst; simp only [List.set_cons_zero, List.set_cons_succ, pinArr_put _ _ _ _ _ _ _ _ _ _ _] at hst) | (refine L_storeM rfl rfl hst rfl (by rfl) (ev_tmp rfl) (by first | rfl | exact Dig.one _ | exact hdArr_all _ _ _ _ | (simp; done)) el_api_Head (by first | rfl | exact Dig.size _ | exact hdArr_size _ _ _ _ | exact pinArr_size _ _ _ _ _ _ _ | (simp; done)) 0 rfl (by first | exact of_decide_eq_true rfl | (simp; done)) ?_; clear hst; intro WS4 hst; simp only [List.set_cons_zero, List.set_cons_succ, pinArr_put _ _ _ _ _ _ _ _ _ _ _] at hst)  | (refine L_storeM rfl rfl hst rfl (by rfl) (ev_tmp rfl) (by first | rfl | exact Dig.one _ | exact hdArr_all _ _ _ _ | (simp; done)) el_api_Head (by first | rfl | exact Dig.size _ | exact hdArr_size _ _ _ _ | exact pinArr_size _ _ _ _ _ _ _ | (simp; done)) 1 rfl (by first | exact of_decide_eq_true rfl | (simp; done)) ?_; clear hst; intro WS4 hst; simp only [List.set_cons_zero, List.set_cons_succ, pinArr_put _ _ _ _ _ _ _ _ _ _ _] at hst)  | (refine L_storeM rfl rfl hst rfl (by rfl) (ev_tmp rfl) (by first | rfl | exact Dig.one _ | exact hdArr_all _ _ _ _ | (simp; done)) el_api_Head (by first | rfl | exact Dig.size _ | exact hdArr_size _ _ _ _ | exact pinArr_size _ _ _ _ _ _ _ | (simp; done)) 2 rfl (by first | exact of_decide_eq_true rfl | (simp; done)) ?_; clear hst; intro WS4 hst; simp only [List.set_cons_zero, List.set_cons_succ, pinArr_put _ _ _ _ _ _ _ _ _ _ _] at hst))
    | fail)
   go_wp2_with (first
    | fail)
   go_ret
   obtain rfl : r = 0 := HR.out
   refine ⟨?_, hst.tail.tail⟩
   show _ = Ending.returned .nilIface
   rfl
  ·have hr := HR.out
   clear HR
   rw [if_neg c7] at hr
   have HR := Lib.hid hr
   clear hr
   rw [Bool.eq_false_iff.2 c7] at HK
   go_upto_region 6 with (go_big_may; first
    | (refine L_load1 (d := some 23) rfl rfl rfl (by rfl) Tryd.underlying3 rfl (by first | assumption | exact cell_of (hst.get 0 rfl) hdArr_0 | exact cell_of (hst.get 0 rfl) rfl | exact cell_of (hst.get 1 rfl) hdArr_0 | exact cell_of (hst.get 1 rfl) rfl) ?_)
    | (refine L_load1 (d := some 27) rfl rfl rfl (by rfl) Tryd.underlying3 rfl (by first | assumption | exact cell_of (hst.get 0 rfl) hdArr_0 | exact cell_of (hst.get 0 rfl) rfl | exact cell_of (hst.get 1 rfl) hdArr_0 | exact cell_of (hst.get 1 rfl) rfl) ?_)
    | fail)
   go_upto_region 8 with (go_big_may; first
    | (refine L_load1 (d := some 33) rfl rfl rfl (by rfl) Tryd.underlying3 rfl (by first | assumption | exact cell_of (hst.get 0 rfl) hdArr_0 | exact cell_of (hst.get 0 rfl) rfl | exact cell_of (hst.get 1 rfl) hdArr_0 | exact cell_of (hst.get 1 rfl) rfl) ?_)
    | (refine L_load1 (d := some 35) rfl rfl rfl (by rfl) Tryd.underlying3 rfl (by first | assumption | exact cell_of (hst.get 0 rfl) hdArr_0 | exact cell_of (hst.get 0 rfl) rfl | exact cell_of (hst.get 1 rfl) hdArr_0 | exact cell_of (hst.get 1 rfl) rfl) ?_)
    | fail)
   go_upto_region 11 with (go_big_may; first
    | (refine L_load1 (d := some 40) rfl rfl rfl (by rfl) Tryd.underlying3 rfl (by first | assumption | exact cell_of (hst.get 0 rfl) hdArr_0 | exact cell_of (hst.get 0 rfl) rfl | exact cell_of (hst.get 1 rfl) hdArr_0 | exact cell_of (hst.get 1 rfl) rfl) ?_)
    | (refine L_load1 (d := some 42) rfl rfl rfl (by rfl) Tryd.underlying3 rfl (by first | assumption | exact cell_of (hst.get 0 rfl) hdArr_0 | exact cell_of (hst.get 0 rfl) rfl | exact cell_of (hst.get 1 rfl) hdArr_0 | exact cell_of (hst.get 1 rfl) rfl) ?_)
    | fail)
   go_upto_region 14 with (go_big_may; first
    | (refine L_load1 (d := some 59) rfl rfl rfl (by rfl) Tryd.underlying3 rfl (by first | assumption | exact cell_of (hst.get 0 rfl) hdArr_0 | exact cell_of (hst.get 0 rfl) rfl | exact cell_of (hst.get 1 rfl) hdArr_0 | exact cell_of (hst.get 1 rfl) rfl) ?_)
    | fail)
   go_upto_region 15 with (go_big_may; first
    | (go_at_call 67; refine (HK.out _ (HT.out.of hst) (hst.old (by decide) hp)).mono ?_; rintro e Wk ⟨rfl, hnew⟩; replace hst := hst.keep hnew)
    | (refine L_load1 (d := some 67) rfl rfl rfl (by rfl) Tryd.underlying3 rfl (by first | assumption | exact cell_of (hst.get 0 rfl) hdArr_0 | exact cell_of (hst.get 0 rfl) rfl | exact cell_of (hst.get 1 rfl) hdArr_0 | exact cell_of (hst.get 1 rfl) rfl) ?_)
    | (refine L_load1 (d := some 69) rfl rfl rfl (by rfl) Tryd.underlying3 rfl (by first | assumption | exact cell_of (hst.get 0 rfl) hdArr_0 | exact cell_of (hst.get 0 rfl) rfl | exact cell_of (hst.get 1 rfl) hdArr_0 | exact cell_of (hst.get 1 rfl) rfl) ?_)
    | (first | (refine L_loadA (d := some 71) rfl rfl rfl (by rfl) Tryd.underlying23 rfl el_api_Digest (by first | exact hst.get 0 rfl | exact hst.get 1 rfl) (by first | rfl | exact Dig.size _ | (simp; done)) ?_) | (refine L_loadM (d := some 71) rfl rfl rfl (by rfl) Tryd.underlying23 rfl el_api_Digest (by first | assumption | exact hdArr_root (hst.get 0 rfl) | exact hdArr_root (hst.get 1 rfl) | exact hdArr_map (hst.get 0 rfl) | exact hdArr_map (hst.get 1 rfl)) (by first | rfl | exact Dig.size _ | (simp; done)) ?_))
    | (first | (refine L_loadA (d := some 73) rfl rfl rfl (by rfl) Tryd.underlying23 rfl el_api_Digest (by first | exact hst.get 0 rfl | exact hst.get 1 rfl) (by first | rfl | exact Dig.size _ | (simp; done)) ?_) | (refine L_loadM (d := some 73) rfl rfl rfl (by rfl) Tryd.underlying23 rfl el_api_Digest (by first | assumption | exact hdArr_root (hst.get 0 rfl) | exact hdArr_root (hst.get 1 rfl) | exact hdArr_map (hst.get 0 rfl) | exact hdArr_map (hst.get 1 rfl)) (by first | rfl | exact Dig.size _ | (simp; done)) ?_))
    | fail)
   go_wp2_with (first
    | fail)
   go_ret
   obtain rfl : r = 9 := HR.out
   refine ⟨?_, hst.tail.tail⟩
   show _ = Ending.returned (errV 9)
   rfl
 ·rw [if_neg c1] at hr
  rw [decide_eq_false c1] at HC
  have HR := Lib.hid hr
  clear h0 hp hl c1 HK hr
  go_enter Tryd.func40, Tryd.ntmps40
  go_upto_region 1 with (go_big_may; first
   | (refine L_boxA (d := some 4) rfl rfl rfl (ev_tmp rfl) ?_; (try clear hnew); intro g4 W4 hnew; replace hst := hst.trans hnew; simp only [List.cons_append, List.nil_append] at hst)
   | fail)
  go_upto_region 2 with (go_big_may; first
   | (first | (refine L_loadA (d := some 11) rfl rfl rfl (by rfl) Tryd.underlying39 rfl el_api_Head (by first | exact hst.get 0 rfl | exact hst.get 1 rfl | exact hst.get 2 rfl) (by first | exact Dig.size _ | exact hdArr_size _ _ _ _ | rfl | (simp; done)) ?_) | (refine L_loadM (d := some 11) rfl rfl rfl (by rfl) Tryd.underlying39 rfl el_api_Head (by first | assumption | exact pinArr_head (hst.get 1 rfl)) (by first | exact Dig.size _ | exact hdArr_size _ _ _ _ | rfl | (simp; done)) ?_))
   | (refine L_allocA (d := some 7) rfl rfl rfl el_api_Head ?_; (try clear hnew); intro g7 W7 hnew; replace hst := hst.trans hnew; simp only [List.cons_append, List.nil_append] at hst)
   | (refine wpl_at (.store 39 (.tmp 7) (.tmp 11)) rfl ?_; first | (refine L_storeA rfl rfl hst rfl (by rfl) (ev_tmp rfl) (by first | rfl | exact Dig.one _ | exact hdArr_all _ _ _ _ | (simp; done)) el_api_Head (by first | rfl | exact Dig.size _ | exact hdArr_size _ _ _ _ | (simp; done)) 0 rfl (by first | rfl | exact Dig.size _ | exact hdArr_size _ _ _ _ | (simp; done)) ?_; clear hst; intro WS5 hst; simp only [List.set_cons_zero, List.set_cons_succ] at hst) | (refine L_storeA rfl rfl hst rfl (by rfl) (ev_tmp rfl) (by first | rfl | exact Dig.one _ | exact hdArr_all _ _ _ _ | (simp; done)) el_api_Head (by first | rfl | exact Dig.size _ | exact hdArr_size _ _ _ _ | (simp; done)) 1 rfl (by first | rfl | exact Dig.size _ | exact hdArr_size _ _ _ _ | (simp; done)) ?_; clear hst; intro WS5 hst; simp only [List.set_cons_zero, List.set_cons_succ] at hst) | (refine L_storeA rfl rfl hst rfl (by rfl) (ev_tmp rfl) (by first | rfl | exact Dig.one _ | exact hdArr_all _ _ _ _ | (simp; done)) el_api_Head (by first | rfl | exact Dig.size _ | exact hdArr_size _ _ _ _ | (simp; done)) 2 rfl (by first | rfl | exact Dig.size _ | exact hdArr_size _ _ _ _ | (simp; done)) ?_; clear hst; intro WS5 hst; simp only [List.set_cons_zero, List.set_cons_succ] at hst) | (refine L_storeM rfl rfl hst rfl (by rfl) (ev_tmp rfl) (by first | rfl | exact Dig.one _ | exact hdArr_all _ _ _ _ | (simp; done)) el_api_Head (by first | rfl | exact Dig.size _ | exact hdArr_size _ _ _ _ | (simp; done)) 0 rfl (by first | exact of_decide_eq_true rfl | (simp; done)) ?_; clear hst; intro WS5 hst; simp only [List.set_cons_zero, List.set_cons_succ] at hst)  | (refine L_storeM rfl rfl hst rfl (by rfl) (ev_tmp rfl) (by first | rfl | exact Dig.one _ | exact hdArr_all _ _ _ _ | (simp; done)) el_api_Head (by first | rfl | exact Dig.size _ | exact hdArr_size _ _ _ _ | (simp; done)) 1 rfl (by first | exact of_decide_eq_true rfl | (simp; done)) ?_; clear hst; intro WS5 hst; simp only [List.set_cons_zero, List.set_cons_succ] at hst)  | (refine L_storeM rfl rfl hst rfl (by rfl) (ev_tmp rfl) (by first | rfl | exact Dig.one _ | exact hdArr_all _ _ _ _ | (simp; done)) el_api_Head (by first | rfl | exact Dig.size _ | exact hdArr_size _ _ _ _ | (simp; done)) 2 rfl (by first | exact of_decide_eq_true rfl | (simp; done)) ?_; clear hst; intro WS5 hst; simp only [List.set_cons_zero, List.set_cons_succ] at hst))
   | fail)
  refine wp_region_idx [(0, 0), (1, 0), (2, 0), (3, 0), (4, 2), (5, 2), (6, 2), (7, 2)] (by kernel_rfl) (by kernel_rfl) ?_
  replace hst := hst.drew
  refine idx_q rfl rfl ?_; go_wp2_with fail
  refine idx_q rfl rfl ?_; go_wp2_with fail
  refine idx_qf rfl rfl (by kernel_rfl) ?_; go_wp2_with fail
  refine idx_q rfl rfl ?_; go_wp2_with (first | (refine L_load1 (d := some 16) rfl rfl rfl (by rfl) Tryd.underlying49 rfl (by first | assumption | exact cell_of (hst.get 0 rfl) pinArr_0 | exact cell_of (hst.get 0 rfl) rfl | exact cell_of (hst.get 1 rfl) pinArr_0 | exact cell_of (hst.get 1 rfl) rfl | exact cell_of (hst.get 2 rfl) pinArr_0 | exact cell_of (hst.get 2 rfl) rfl) ?_) | fail)
  refine idx_g rfl ?_; go_wp2_with (first | (first | (refine L_loadA (d := some 17) rfl rfl rfl (by rfl) Tryd.underlying39 rfl el_api_Head (by first | exact hst.get 0 rfl | exact hst.get 1 rfl | exact hst.get 2 rfl) (by first | exact Dig.size _ | exact hdArr_size _ _ _ _ | rfl | (simp; done)) ?_) | (refine L_loadM (d := some 17) rfl rfl rfl (by rfl) Tryd.underlying39 rfl el_api_Head (by first | assumption) (by first | exact Dig.size _ | exact hdArr_size _ _ _ _ | rfl | (simp; done)) ?_)) | fail); refine ⟨by first | exact Below.refl _ _ | exact hnew.below, ?_⟩
  refine idx_g rfl ?_; go_wp2_with (first | (go_at_call 66; refine (HC.out _ (HT.out.of hst) (hst.sl 3 rfl)).mono ?_; rintro e Wt ⟨rfl, hnew⟩; replace hst := hst.keep hnew) | fail); refine ⟨by first | exact Below.refl _ _ | exact hnew.below, ?_⟩
  refine idx_g rfl ?_; go_wp2_with fail; refine ⟨by first | exact Below.refl _ _ | exact hnew.below, ?_⟩
  refine idx_g rfl ?_; go_wp2_with fail; refine ⟨by first | exact Below.refl _ _ | exact hnew.below, ?_⟩
  refine idx_nil ?_
  go_wp2_with fail
  go_ret
  obtain rfl : r = 1 := HR.out
  refine ⟨?_, hst.tail.tail⟩
  show _ = Ending.returned (errV 1)
  rfl
end Go.Proofs.YtkbleigmfcleaaaDoor

set_option maxRecDepth 20000
set_option linter.unusedSimpArgs false
set_option linter.unusedVariables false
namespace Go.Proofs.YtkbleigmfcleaaaDoor
open Go.RowKit
theorem take_zero {key : List UInt8} {n0 n : Int} {x0 y0 x y z : Dig} {p : List Dig} (h : takeN key n0 x0 y0 n x y z p = 0) : ¬ n < 0 ∧ ¬ n < n0 ∧ (n = n0 → x = x0 ∧ y = y0) := by
 unfold takeN at h
 by_cases c1 : z = tagN key n x y
 ·rw [if_pos c1] at h
  by_cases c2 : n < 0 ∨ 256 < n
  ·rw [if_pos c2] at h; exact absurd h (by decide)
  rw [if_neg c2] at h
  by_cases c3 : n < n0
  ·rw [if_pos c3] at h; exact absurd h (by decide)
  refine ⟨fun c => c2 (Or.inl c), c3, fun c4 => ?_⟩
  rw [if_neg c3, if_pos c4] at h
  by_cases c5 : x = x0 ∧ y = y0
  ·exact c5
  ·rw [if_neg c5] at h; exact absurd h (by decide)
 ·rw [if_neg c1] at h; exact absurd h (by decide)
theorem take_flip (key : List UInt8) (n0 n : Int) (x0 y0 x y : Dig) (p : List Dig) : takeN key n0 x0 y0 n x y (flipD (tagN key n x y)) p = 1 := by
 unfold takeN
 rw [if_neg (flip_ne _)]
theorem pinAft_0 (a b : Array Value) : pinAft 0 a b = b := rfl
theorem pinAft_s {r : Nat} (h : r ≠ 0) (a b : Array Value) : pinAft r a b = a := if_neg h
theorem errO_0 : errO 0 = .nilIface := rfl
theorem errO_s {r : Nat} (h : r ≠ 0) : errO r = errV r := if_neg h
theorem eqHead_self (n : Int) (x y z : Dig) (w : World) : (Op.equalIn 10000 39 (.agg (hdArr n x y z)) (.agg (hdArr n x y z))).run Tryd.prog w = .ok true w := by
 rw [eqHead]; simp
theorem bang_t : (!true) = false := rfl
theorem hdArr_flip' (n : Int) (x y z : Dig) : (hdArr n x y z).setIfInBounds 65 (byteV (z.l.head?.getD 0 ^^^ 1)) = hdArr n x y (flipD z) := by
 rw [← List.headD_eq_head?_getD]; exact hdArr_flip n x y z
section
variable {P : Program} {ops : Array Oper} {rest : List Oper} {o : Oper} {a : Act} {W : World} {Q : Exit → Act → World → Prop} {d : Option Tmp}
theorem L_xor1 (hd : o.dst = d) (hw : Region.wanted o (yielded ops a.tmps) = true) {t t' : TypeId} {x y : Operand} (ho : o.op = .binOp .xor t x y t') {b : UInt8} (hx : a.eval x = byteV b) (hy : a.eval y = .int .u8 1)
  (h : wpList P ops Q rest (a.put d (byteV (b ^^^ 1))) W) : wpList P ops Q (o :: rest) a W := by
 refine L_val hd hw ?_ h
 unfold execOp
 have e := xor_val b 1
 rw [show (((1 : UInt8).toNat : Nat) : Int) = 1 from rfl] at e
 simp only [ho, hx, hy]
 have h1 : (eqGuard .xor t x y (byteV b) (.int .u8 1)).run P W = .ok () W := by simp [eqGuard]
 have h2 : (Go.binOp .xor t (byteV b) (.int .u8 1)).run P W = .ok (byteV (b ^^^ 1)) W := by
  rw [← xor_byte]
  simp only [Go.binOp, byteV, Op.intArith]
  show Result.ok (Value.int .u8 (bits .xor .u8 (b.toNat : Int) 1)) W = _
  rw [e]
 simp [h1, h2]
end
end Go.Proofs.YtkbleigmfcleaaaDoor

set_option linter.unusedSimpArgs false
set_option linter.unusedVariables false
namespace Go.Proofs.YtkbleigmfcleaaaDoor
open Go.RowKit
attribute [local simp] pinArr_size hdArr_size
set_option maxHeartbeats 40000000 in
set_option maxRecDepth 100000 in
theorem pinBack_any (w : World) (hT : Tb w) (key : List UInt8) (K : Option Addr) (m mc : Nat) (hk : SlR w K m mc 1 (bytesL key)) (hm0 : m * 1 ≤ 140737488351232) (hs : List Hd) (H : Option Addr) (hn hc : Nat) (hx : SlR w H hn hc 97 (headsL hs)) (hw : ∀ q ∈ hs, -9223372036854775808 ≤ q.1 ∧ q.1 ≤ 9223372036854775807)
  (D : Option Addr) (dn dc : Nat) (f : Nat → DPiece) (hd : SlR w D dn dc 1 ((List.range dn).map fun i => (f i).v)) (hp : ∀ i, i < dn → SlR w (f i).1 (f i).2.1 (f i).2.2.1 32 (digsL (f i).2.2.2)) :
  Calls Tryd.prog 11 #[.slice K m mc, .slice H hn hc, .slice D dn dc] w fun e w' => e = .returned (.bool true) ∧ St w w' [] := by
 have hst := St.refl w
 have HT := Lib.hid hT
 have hl : hs.length = hn := by have := hx.1; rw [length_headsL] at this; omega
 have HX := Lib.hid hx
 have HD := Lib.hid hd
 have HP := Lib.hid hp
 have HW := Lib.hid hw
 have HL := Lib.hid hl
 have HN := Lib.hid (fun w' (ht : Tb w') (h : SlR w' K m mc 1 (bytesL key)) => pnew_any key K m mc w' ht h (by omega))
 have hm : m ≤ 140737488351232 := by omega
 clear hT hx hd hp hw hl hm0
 go_enter Tryd.func11, Tryd.ntmps11
 go_upto_region 1 with (go_big_may; first
  | fail)
 go_upto_region 2 with (go_big_may; first
  | (go_at_call 36; refine (HN.out _ (HT.out.of hst) (hst.old (by decide) hk)).mono ?_; rintro e Wn ⟨gp, O, oc, rfl, hnew⟩; replace hst := hst.trans hnew; simp only [List.cons_append, List.nil_append] at hst)
  | fail)
 go_upto_region 4 with (go_big_may; first
  | (go_at_call 37; refine (held_any _ _ _ _ _ _ _ _ _ _ _ (hst.get 0 rfl)).mono ?_; rintro e Wh ⟨rfl, hnew⟩; replace hst := hst.keep hnew)
  | (refine L_fieldD (d := some 21) rfl rfl rfl Tryd.underlying39 rfl (ev_tmp rfl) Tryd.underlying23 el_api_Digest (hd_part _ _ _ _).1 ?_)
  | (go_at_call 38; refine (rsum_any [] none 0 0 _ (by simp [SlR, bytesL]) (by decide)).mono ?_; rintro e W5 ⟨rfl, hnew⟩; replace hst := hst.keep hnew; clear hnew)
  | (refine L_neD (d := some 23) rfl rfl rfl Tryd.underlying23 Tryd.underlying5 el_uint8 eqG_D (ev_tmp rfl) (ev_tmp rfl) ?_; (try rw [dNe _]))
  | fail)
 clear HN
 by_cases h40 : 40 < (hn : Int)
 ·skip
  go_upto_region 5 with (go_big_may; first
   | fail)
  go_wp2_with (first
   | fail)
  go_ret
  exact ⟨rfl, hst.forget⟩
 by_cases hdn : (dn : Int) < (hn : Int)
 ·skip
  go_upto_region 5 with (go_big_may; first
   | fail)
  go_wp2_with (first
   | fail)
  go_ret
  exact ⟨rfl, hst.forget⟩
 go_upto_region 6 with (go_big_may; first
  | fail)
 go_upto_region 7 with (go_big_may; first
  | fail)
 have hdn' : hn ≤ dn := by omega
 have h40' : hn ≤ 40 := by omega
 clear h40 hdn
 go_loopg [8] hn (fun gk s8 wr => ∃ (i : Nat) (n0 : Int) (x0 y0 z0 : Dig), Hid (gk + i = hn) ∧ Hid (0 ≤ n0) ∧ s8 = .int .i64 (i : Int) ∧ St w wr [.blk gp 103 (pinArr O m oc n0 x0 y0 z0), .row O m oc 5 1 (bytesL key)])
 case atStart => exact ⟨0, 0, sha [], zeroD, zeroD, Lib.hid rfl, Lib.hid (by decide), rfl, hst⟩
 case round =>
  clear hst
  obtain ⟨i, n0, x0, y0, z0, HI, H0, rfl, hst⟩ := hrel
  have hi := HI.out
  by_cases hlt : i < hn
  ·obtain ⟨g, rfl⟩ : ∃ g, gk = g + 1 := ⟨gk - 1, by omega⟩
   have hil : i < hs.length := by rw [HL.out]; exact hlt
   obtain ⟨⟨n, x, y, z⟩, hq⟩ : ∃ q, q = hs[i] := ⟨_, rfl⟩
   have HC := Lib.hid (fun (W : World) (g off : Nat) h => head_cells (W := W) (g := g) (off := off) (i := i) (hs := hs) h hil)
   rw [← hq] at HC
   have HB := Lib.hid (HW.out (n, x, y, z) (by rw [hq]; exact List.getElem_mem hil))
   dsimp only at HC HB
   have hid' : i < dn := by omega
   have HE := Lib.hid (fun (W : World) (g off : Nat) h => dpiece_at (W := W) (g := g) (off := off) (i := i) (n := dn) (f := f) h hid')
   have HF := Lib.hid (HP.out i hid')
   clear hi hq hil
   have HG := Lib.hid (fun (w' : World) (h : SlR w' K m mc 1 (bytesL key)) (ht : Tb w') => tag_any key K m mc n x y z w' HB.out.1 HB.out.2 ht h (by omega))
   obtain ⟨t, ht⟩ : ∃ t, t = tagN key n x y := ⟨_, rfl⟩
   rw [← ht] at HG
   replace ht := Lib.hid ht
   go_upto_region 9 with (go_big_may; first
    | fail)
   go_upto_region 10 with (go_big_may; first
    | (go_at_call 37; refine (held_any _ _ _ _ _ _ _ _ _ _ _ (hst.get 0 rfl)).mono ?_; rintro e Wh ⟨rfl, hnew⟩; replace hst := hst.keep hnew)
    | (refine L_allocA (d := some 9) rfl rfl rfl el_api_Head ?_; (try clear hnew); intro g9 W9 hnew; replace hst := hst.trans hnew; simp only [List.cons_append, List.nil_append] at hst)
    | (refine wpl_at (.store 39 (.tmp 9) (.tmp 42)) rfl ?_; first | (refine L_storeA rfl rfl hst rfl (by rfl) (ev_tmp rfl) (by first | rfl | exact Dig.one _ | exact hdArr_all _ _ _ _ | exact Dig.oneR _ | (simp; done)) el_api_Head (by first | rfl | exact Dig.size _ | exact hdArr_size _ _ _ _ | (simp; done)) 0 rfl (by first | rfl | exact Dig.size _ | exact hdArr_size _ _ _ _ | (simp; done)) ?_; clear hst; intro WS3 hst; simp only [List.set_cons_zero, List.set_cons_succ, hdArr_putTag _ _ _ _ _] at hst) | (refine L_storeA rfl rfl hst rfl (by rfl) (ev_tmp rfl) (by first | rfl | exact Dig.one _ | exact hdArr_all _ _ _ _ | exact Dig.oneR _ | (simp; done)) el_api_Head (by first | rfl | exact Dig.size _ | exact hdArr_size _ _ _ _ | (simp; done)) 1 rfl (by first | rfl | exact Dig.size _ | exact hdArr_size _ _ _ _ | (simp; done)) ?_; clear hst; intro WS3 hst; simp only [List.set_cons_zero, List.set_cons_succ, hdArr_putTag _ _ _ _ _] at hst) | (refine L_storeA rfl rfl hst rfl (by rfl) (ev_tmp rfl) (by first | rfl | exact Dig.one _ | exact hdArr_all _ _ _ _ | exact Dig.oneR _ | (simp; done)) el_api_Head (by first | rfl | exact Dig.size _ | exact hdArr_size _ _ _ _ | (simp; done)) 2 rfl (by first | rfl | exact Dig.size _ | exact hdArr_size _ _ _ _ | (simp; done)) ?_; clear hst; intro WS3 hst; simp only [List.set_cons_zero, List.set_cons_succ, hdArr_putTag _ _ _ _ _] at hst) | (refine L_storeM rfl rfl hst rfl (by rfl) (ev_tmp rfl) (by first | rfl | exact Dig.one _ | exact hdArr_all _ _ _ _ | exact Dig.oneR _ | (simp; done)) el_api_Head (by first | rfl | exact Dig.size _ | exact hdArr_size _ _ _ _ | (simp; done)) 0 rfl (by first | exact of_decide_eq_true rfl | (simp; done)) ?_; clear hst; intro WS3 hst; simp only [List.set_cons_zero, List.set_cons_succ, hdArr_putTag _ _ _ _ _] at hst)  | (refine L_storeM rfl rfl hst rfl (by rfl) (ev_tmp rfl) (by first | rfl | exact Dig.one _ | exact hdArr_all _ _ _ _ | exact Dig.oneR _ | (simp; done)) el_api_Head (by first | rfl | exact Dig.size _ | exact hdArr_size _ _ _ _ | (simp; done)) 1 rfl (by first | exact of_decide_eq_true rfl | (simp; done)) ?_; clear hst; intro WS3 hst; simp only [List.set_cons_zero, List.set_cons_succ, hdArr_putTag _ _ _ _ _] at hst)  | (refine L_storeM rfl rfl hst rfl (by rfl) (ev_tmp rfl) (by first | rfl | exact Dig.one _ | exact hdArr_all _ _ _ _ | exact Dig.oneR _ | (simp; done)) el_api_Head (by first | rfl | exact Dig.size _ | exact hdArr_size _ _ _ _ | (simp; done)) 2 rfl (by first | exact of_decide_eq_true rfl | (simp; done)) ?_; clear hst; intro WS3 hst; simp only [List.set_cons_zero, List.set_cons_succ, hdArr_putTag _ _ _ _ _] at hst))
    | fail)
   go_upto_region 11 with (go_big_may; first
    | (refine L_loadM (d := some 46) rfl rfl rfl (by rfl) Tryd.underlying39 rfl el_api_Head (HC.out _ _ _ hr45) (hdArr_size _ _ _ _) ?_)
    | (refine L_idxS (d := some 45) rfl rfl rfl (by rfl) (by rfl) Tryd.underlying67 el_api_Head (by first | exact hst.old (by decide) HX.out | assumption | exact hst.sl 0 rfl | exact hst.sl 1 rfl | exact hst.sl 2 rfl | exact hst.old (by decide) (by assumption)) (by omega) (by omega) ?_; intro o45 p45 ha45 hr45; (first | subst ha45 | (obtain ⟨h1, h2⟩ := some_addr ha45; subst h1; subst h2; clear ha45) | skip))
    | (first | (refine L_loadA (d := some 46) rfl rfl rfl (by rfl) Tryd.underlying39 rfl el_api_Head (by first | exact hst.get 0 rfl | exact hst.get 1 rfl | exact hst.get 2 rfl) (by first | exact Dig.size _ | exact hdArr_size _ _ _ _ | rfl | (simp; done)) ?_) | (refine L_loadM (d := some 46) rfl rfl rfl (by rfl) Tryd.underlying39 rfl el_api_Head (by first | assumption) (by first | exact Dig.size _ | exact hdArr_size _ _ _ _ | rfl | (simp; done)) ?_))
    | (refine L_allocA (d := some 10) rfl rfl rfl el_api_Head ?_; (try clear hnew); intro g10 W10 hnew; replace hst := hst.trans hnew; simp only [List.cons_append, List.nil_append] at hst)
    | (refine wpl_at (.store 39 (.tmp 10) (.tmp 46)) rfl ?_; first | (refine L_storeA rfl rfl hst rfl (by rfl) (ev_tmp rfl) (by first | rfl | exact Dig.one _ | exact hdArr_all _ _ _ _ | exact Dig.oneR _ | (simp; done)) el_api_Head (by first | rfl | exact Dig.size _ | exact hdArr_size _ _ _ _ | (simp; done)) 0 rfl (by first | rfl | exact Dig.size _ | exact hdArr_size _ _ _ _ | (simp; done)) ?_; clear hst; intro WS5 hst; simp only [List.set_cons_zero, List.set_cons_succ, hdArr_putTag _ _ _ _ _] at hst) | (refine L_storeA rfl rfl hst rfl (by rfl) (ev_tmp rfl) (by first | rfl | exact Dig.one _ | exact hdArr_all _ _ _ _ | exact Dig.oneR _ | (simp; done)) el_api_Head (by first | rfl | exact Dig.size _ | exact hdArr_size _ _ _ _ | (simp; done)) 1 rfl (by first | rfl | exact Dig.size _ | exact hdArr_size _ _ _ _ | (simp; done)) ?_; clear hst; intro WS5 hst; simp only [List.set_cons_zero, List.set_cons_succ, hdArr_putTag _ _ _ _ _] at hst) | (refine L_storeA rfl rfl hst rfl (by rfl) (ev_tmp rfl) (by first | rfl | exact Dig.one _ | exact hdArr_all _ _ _ _ | exact Dig.oneR _ | (simp; done)) el_api_Head (by first | rfl | exact Dig.size _ | exact hdArr_size _ _ _ _ | (simp; done)) 2 rfl (by first | rfl | exact Dig.size _ | exact hdArr_size _ _ _ _ | (simp; done)) ?_; clear hst; intro WS5 hst; simp only [List.set_cons_zero, List.set_cons_succ, hdArr_putTag _ _ _ _ _] at hst) | (refine L_storeM rfl rfl hst rfl (by rfl) (ev_tmp rfl) (by first | rfl | exact Dig.one _ | exact hdArr_all _ _ _ _ | exact Dig.oneR _ | (simp; done)) el_api_Head (by first | rfl | exact Dig.size _ | exact hdArr_size _ _ _ _ | (simp; done)) 0 rfl (by first | exact of_decide_eq_true rfl | (simp; done)) ?_; clear hst; intro WS5 hst; simp only [List.set_cons_zero, List.set_cons_succ, hdArr_putTag _ _ _ _ _] at hst)  | (refine L_storeM rfl rfl hst rfl (by rfl) (ev_tmp rfl) (by first | rfl | exact Dig.one _ | exact hdArr_all _ _ _ _ | exact Dig.oneR _ | (simp; done)) el_api_Head (by first | rfl | exact Dig.size _ | exact hdArr_size _ _ _ _ | (simp; done)) 1 rfl (by first | exact of_decide_eq_true rfl | (simp; done)) ?_; clear hst; intro WS5 hst; simp only [List.set_cons_zero, List.set_cons_succ, hdArr_putTag _ _ _ _ _] at hst)  | (refine L_storeM rfl rfl hst rfl (by rfl) (ev_tmp rfl) (by first | rfl | exact Dig.one _ | exact hdArr_all _ _ _ _ | exact Dig.oneR _ | (simp; done)) el_api_Head (by first | rfl | exact Dig.size _ | exact hdArr_size _ _ _ _ | (simp; done)) 2 rfl (by first | exact of_decide_eq_true rfl | (simp; done)) ?_; clear hst; intro WS5 hst; simp only [List.set_cons_zero, List.set_cons_succ, hdArr_putTag _ _ _ _ _] at hst))
    | fail)
   go_upto_region 12 with (go_big_may; first
    | (go_at_call 39; refine (HG.out _ (hst.old (by decide) hk) (HT.out.of hst)).mono ?_; rintro e Wt ⟨rfl, hnew⟩; replace hst := hst.keep hnew)
    | (first | (refine L_loadA (d := some 48) rfl rfl rfl (by rfl) Tryd.underlying39 rfl el_api_Head (by first | exact hst.get 0 rfl | exact hst.get 1 rfl | exact hst.get 2 rfl) (by first | exact Dig.size _ | exact hdArr_size _ _ _ _ | rfl | (simp; done)) ?_) | (refine L_loadM (d := some 48) rfl rfl rfl (by rfl) Tryd.underlying39 rfl el_api_Head (by first | assumption) (by first | exact Dig.size _ | exact hdArr_size _ _ _ _ | rfl | (simp; done)) ?_))
    | (refine wpl_at (.store 23 (.tmp 50) (.tmp 49)) rfl ?_; first | (refine L_storeA rfl rfl hst rfl (by rfl) (ev_tmp rfl) (by first | rfl | exact Dig.one _ | exact hdArr_all _ _ _ _ | exact Dig.oneR _ | (simp; done)) el_api_Digest (by first | rfl | exact Dig.size _ | exact hdArr_size _ _ _ _ | (simp; done)) 0 rfl (by first | rfl | exact Dig.size _ | exact hdArr_size _ _ _ _ | (simp; done)) ?_; clear hst; intro WS4 hst; simp only [List.set_cons_zero, List.set_cons_succ, hdArr_putTag _ _ _ _ _] at hst) | (refine L_storeA rfl rfl hst rfl (by rfl) (ev_tmp rfl) (by first | rfl | exact Dig.one _ | exact hdArr_all _ _ _ _ | exact Dig.oneR _ | (simp; done)) el_api_Digest (by first | rfl | exact Dig.size _ | exact hdArr_size _ _ _ _ | (simp; done)) 1 rfl (by first | rfl | exact Dig.size _ | exact hdArr_size _ _ _ _ | (simp; done)) ?_; clear hst; intro WS4 hst; simp only [List.set_cons_zero, List.set_cons_succ, hdArr_putTag _ _ _ _ _] at hst) | (refine L_storeA rfl rfl hst rfl (by rfl) (ev_tmp rfl) (by first | rfl | exact Dig.one _ | exact hdArr_all _ _ _ _ | exact Dig.oneR _ | (simp; done)) el_api_Digest (by first | rfl | exact Dig.size _ | exact hdArr_size _ _ _ _ | (simp; done)) 2 rfl (by first | rfl | exact Dig.size _ | exact hdArr_size _ _ _ _ | (simp; done)) ?_; clear hst; intro WS4 hst; simp only [List.set_cons_zero, List.set_cons_succ, hdArr_putTag _ _ _ _ _] at hst) | (refine L_storeM rfl rfl hst rfl (by rfl) (ev_tmp rfl) (by first | rfl | exact Dig.one _ | exact hdArr_all _ _ _ _ | exact Dig.oneR _ | (simp; done)) el_api_Digest (by first | rfl | exact Dig.size _ | exact hdArr_size _ _ _ _ | (simp; done)) 0 rfl (by first | exact of_decide_eq_true rfl | (simp; done)) ?_; clear hst; intro WS4 hst; simp only [List.set_cons_zero, List.set_cons_succ, hdArr_putTag _ _ _ _ _] at hst)  | (refine L_storeM rfl rfl hst rfl (by rfl) (ev_tmp rfl) (by first | rfl | exact Dig.one _ | exact hdArr_all _ _ _ _ | exact Dig.oneR _ | (simp; done)) el_api_Digest (by first | rfl | exact Dig.size _ | exact hdArr_size _ _ _ _ | (simp; done)) 1 rfl (by first | exact of_decide_eq_true rfl | (simp; done)) ?_; clear hst; intro WS4 hst; simp only [List.set_cons_zero, List.set_cons_succ, hdArr_putTag _ _ _ _ _] at hst)  | (refine L_storeM rfl rfl hst rfl (by rfl) (ev_tmp rfl) (by first | rfl | exact Dig.one _ | exact hdArr_all _ _ _ _ | exact Dig.oneR _ | (simp; done)) el_api_Digest (by first | rfl | exact Dig.size _ | exact hdArr_size _ _ _ _ | (simp; done)) 2 rfl (by first | exact of_decide_eq_true rfl | (simp; done)) ?_; clear hst; intro WS4 hst; simp only [List.set_cons_zero, List.set_cons_succ, hdArr_putTag _ _ _ _ _] at hst))
    | fail)
   clear HC HG HX
   obtain ⟨r, hr⟩ : ∃ r, r = takeN key n0 x0 y0 n x y t (f i).2.2.2 := ⟨_, rfl⟩
   have HK := Lib.hid (fun (w' : World) (n0 : Int) (x0 y0 z0 z : Dig) (L : List Res) (h0 : 0 ≤ n0) hst => ptake_any key gp O m oc n0 x0 y0 z0 n x y z (f i).2.2.2 (f i).1 (f i).2.1 (f i).2.2.1 w w' L HT.out HF.out hst (by omega) HB.out.1 HB.out.2 h0)
   by_cases h0r : r = 0
   ·subst h0r
    obtain ⟨hn0, hge, hsame⟩ := take_zero hr.symm
    have HGE := Lib.hid hge
    clear hge
    have HRr := Lib.hid hr
    clear hr
    have HSm := Lib.hid hsame
    clear hsame
    have hN := Lib.hid (Int.not_lt.1 hn0)
    clear hn0
    refine wp_region_idxT [(0, 0), (1, 0), (2, 0), (3, 2), (4, 2), (5, 2), (6, 1), (7, 2)] (by kernel_rfl) (by kernel_rfl) ?_
    replace hst := hst.drew
    refine idx_q rfl rfl ?_; go_wp2_with fail
    refine idx_q rfl rfl ?_; go_wp2_with (first | (first | (refine L_loadA (d := some 52) rfl rfl rfl (by rfl) Tryd.underlying39 rfl el_api_Head (by first | exact hst.get 0 rfl | exact hst.get 1 rfl | exact hst.get 2 rfl) (by first | exact Dig.size _ | exact hdArr_size _ _ _ _ | rfl | (simp; done)) ?_) | (refine L_loadM (d := some 52) rfl rfl rfl (by rfl) Tryd.underlying39 rfl el_api_Head (by first | assumption) (by first | exact Dig.size _ | exact hdArr_size _ _ _ _ | rfl | (simp; done)) ?_)) | fail)
    refine idx_q rfl rfl ?_; go_wp2_with fail
    refine idx_g rfl ?_; go_wp2_with fail; refine ⟨by first | exact Below.refl _ _ | exact hnew.below, ?_⟩
    refine idx_g rfl ?_; go_wp2_with (first | (refine L_idxS (d := some 55) rfl rfl rfl (by rfl) (by rfl) Tryd.underlying68 el_S_api_Digest (by first | exact hst.old (by decide) HD.out | assumption | exact hst.sl 0 rfl | exact hst.sl 1 rfl | exact hst.sl 2 rfl | exact hst.old (by decide) (by assumption)) (by omega) (by omega) ?_; intro o55 p55 ha55 hr55; (first | subst ha55 | (obtain ⟨h1, h2⟩ := some_addr ha55; subst h1; subst h2; clear ha55) | skip)) | fail); refine ⟨by first | exact Below.refl _ _ | exact hnew.below, ?_⟩
    refine idx_g rfl ?_; go_wp2_with (first | (refine L_load1 (d := some 56) rfl rfl rfl (by rfl) Tryd.underlying74 rfl (HE.out _ _ _ hr55) ?_) | (refine L_load1 (d := some 56) rfl rfl rfl (by rfl) Tryd.underlying74 rfl (by first | assumption | exact cell_of (hst.get 0 rfl) rfl | exact cell_of (hst.get 1 rfl) rfl | exact cell_of (hst.get 2 rfl) rfl) ?_) | fail); refine ⟨by first | exact Below.refl _ _ | exact hnew.below, ?_⟩
    refine idx_e rfl ?_; go_wp2_with (first | (refine L_load1 (d := some 56) rfl rfl rfl (by rfl) Tryd.underlying74 rfl (HE.out _ _ _ hr55) ?_) | (go_at_call 40; refine (HK.out _ n0 x0 y0 z0 t _ H0.out (hst.pick [2, 3, 0, 1] (by decide))).mono ?_; rw [← HRr.out, pinAft_0, errO_0]; rintro e Wt ⟨rfl, hst'⟩; simp only [List.filterMap_cons, List.filterMap_nil, List.getElem?_cons_zero, List.getElem?_cons_succ] at hst'; replace hst := hst'; clear hst') | fail)
    refine idx_g rfl ?_; go_wp2_with fail; refine ⟨by first | exact Below.refl _ _ | exact hnew.below, ?_⟩
    refine idx_nil ?_
    go_upto_region 14 with (go_big_may; first
     | (go_at_call 37; refine (held_any _ _ _ _ _ _ _ _ _ _ _ (hst.get 0 rfl)).mono ?_; rintro e Wh ⟨rfl, hnew⟩; replace hst := hst.keep hnew)
     | (refine L_allocA (d := some 12) rfl rfl rfl el_api_Head ?_; (try clear hnew); intro g12 W12 hnew; replace hst := hst.trans hnew; simp only [List.cons_append, List.nil_append] at hst)
     | (refine wpl_at (.store 39 (.tmp 12) (.tmp 59)) rfl ?_; first | (refine L_storeA rfl rfl hst rfl (by rfl) (ev_tmp rfl) (by first | rfl | exact Dig.one _ | exact hdArr_all _ _ _ _ | (simp; done)) el_api_Head (by first | rfl | exact Dig.size _ | exact hdArr_size _ _ _ _ | (simp; done)) 0 rfl (by first | rfl | exact Dig.size _ | exact hdArr_size _ _ _ _ | (simp; done)) ?_; clear hst; intro WS3 hst; simp only [List.set_cons_zero, List.set_cons_succ] at hst) | (refine L_storeA rfl rfl hst rfl (by rfl) (ev_tmp rfl) (by first | rfl | exact Dig.one _ | exact hdArr_all _ _ _ _ | (simp; done)) el_api_Head (by first | rfl | exact Dig.size _ | exact hdArr_size _ _ _ _ | (simp; done)) 1 rfl (by first | rfl | exact Dig.size _ | exact hdArr_size _ _ _ _ | (simp; done)) ?_; clear hst; intro WS3 hst; simp only [List.set_cons_zero, List.set_cons_succ] at hst) | (refine L_storeA rfl rfl hst rfl (by rfl) (ev_tmp rfl) (by first | rfl | exact Dig.one _ | exact hdArr_all _ _ _ _ | (simp; done)) el_api_Head (by first | rfl | exact Dig.size _ | exact hdArr_size _ _ _ _ | (simp; done)) 2 rfl (by first | rfl | exact Dig.size _ | exact hdArr_size _ _ _ _ | (simp; done)) ?_; clear hst; intro WS3 hst; simp only [List.set_cons_zero, List.set_cons_succ] at hst) | (refine L_storeM rfl rfl hst rfl (by rfl) (ev_tmp rfl) (by first | rfl | exact Dig.one _ | exact hdArr_all _ _ _ _ | (simp; done)) el_api_Head (by first | rfl | exact Dig.size _ | exact hdArr_size _ _ _ _ | (simp; done)) 0 rfl (by first | exact of_decide_eq_true rfl | (simp; done)) ?_; clear hst; intro WS3 hst; simp only [List.set_cons_zero, List.set_cons_succ] at hst)  | (refine L_storeM rfl rfl hst rfl (by rfl) (ev_tmp rfl) (by first | rfl | exact Dig.one _ | exact hdArr_all _ _ _ _ | (simp; done)) el_api_Head (by first | rfl | exact Dig.size _ | exact hdArr_size _ _ _ _ | (simp; done)) 1 rfl (by first | exact of_decide_eq_true rfl | (simp; done)) ?_; clear hst; intro WS3 hst; simp only [List.set_cons_zero, List.set_cons_succ] at hst)  | (refine L_storeM rfl rfl hst rfl (by rfl) (ev_tmp rfl) (by first | rfl | exact Dig.one _ | exact hdArr_all _ _ _ _ | (simp; done)) el_api_Head (by first | rfl | exact Dig.size _ | exact hdArr_size _ _ _ _ | (simp; done)) 2 rfl (by first | exact of_decide_eq_true rfl | (simp; done)) ?_; clear hst; intro WS3 hst; simp only [List.set_cons_zero, List.set_cons_succ] at hst))
     | fail)
    by_cases c : n = n0
    ·obtain ⟨rfl, rfl⟩ := HSm.out c
     subst c
     have hdx := dNe x
     have hdy := dNe y
     go_upto_region 16 with (first
      | (with_reducible refine L_pass (t := 63) rfl (by kernel_rfl) ?_)
      | (with_reducible refine L_pass (t := 64) rfl (by kernel_rfl) ?_)
      | (with_reducible refine L_pass (t := 65) rfl (by kernel_rfl) ?_)
      | (go_big_may; first
       | (refine L_loadA (d := some 72) rfl rfl rfl (by rfl) Tryd.underlying39 rfl el_api_Head (hst.get 3 rfl) (hdArr_size _ _ _ _) ?_; refine L_neA (d := some 73) rfl rfl rfl eqG_Head (ev_tmp rfl) (ev_tmp rfl) (eqHead_self _ _ _ _ _) ?_; rw [bang_t])
       | (refine L_loadM (d := some 93) rfl rfl rfl (by rfl) Tryd.underlying23 rfl el_api_Digest (hdArr_root (hst.get 4 rfl)) (Dig.size _) ?_; refine L_neD (d := some 94) rfl rfl rfl Tryd.underlying23 Tryd.underlying5 el_uint8 eqG_D (ev_tmp rfl) (ev_tmp rfl) ?_; rw [dNe x])
       | (refine L_loadM (d := some 99) rfl rfl rfl (by rfl) Tryd.underlying23 rfl el_api_Digest (hdArr_map (hst.get 4 rfl)) (Dig.size _) ?_; refine L_neD (d := some 100) rfl rfl rfl Tryd.underlying23 Tryd.underlying5 el_uint8 eqG_D (ev_tmp rfl) (ev_tmp rfl) ?_; rw [dNe y])
       | (first | (refine L_loadA (d := some 71) rfl rfl rfl (by rfl) Tryd.underlying39 rfl el_api_Head (by first | exact hst.get 0 rfl | exact hst.get 1 rfl | exact hst.get 2 rfl | exact hst.get 3 rfl | exact hst.get 4 rfl) (by first | exact Dig.size _ | exact hdArr_size _ _ _ _ | rfl | (simp; done)) ?_) | (refine L_loadM (d := some 71) rfl rfl rfl (by rfl) Tryd.underlying39 rfl el_api_Head (by first | assumption | exact hdArr_root (hst.get 0 rfl) | exact hdArr_root (hst.get 4 rfl) | exact hdArr_map (hst.get 0 rfl) | exact hdArr_map (hst.get 4 rfl)) (by first | exact Dig.size _ | exact hdArr_size _ _ _ _ | rfl | (simp; done)) ?_))
       | (refine L_load1 (d := some 78) rfl rfl rfl (by rfl) Tryd.underlying3 rfl (by first | assumption | exact cell_of (hst.get 0 rfl) hdArr_0 | exact cell_of (hst.get 0 rfl) rfl | exact cell_of (hst.get 1 rfl) hdArr_0 | exact cell_of (hst.get 1 rfl) rfl | exact cell_of (hst.get 2 rfl) hdArr_0 | exact cell_of (hst.get 2 rfl) rfl | exact cell_of (hst.get 3 rfl) hdArr_0 | exact cell_of (hst.get 3 rfl) rfl | exact cell_of (hst.get 4 rfl) hdArr_0 | exact cell_of (hst.get 4 rfl) rfl) ?_)
       | (refine L_load1 (d := some 80) rfl rfl rfl (by rfl) Tryd.underlying3 rfl (by first | assumption | exact cell_of (hst.get 0 rfl) hdArr_0 | exact cell_of (hst.get 0 rfl) rfl | exact cell_of (hst.get 1 rfl) hdArr_0 | exact cell_of (hst.get 1 rfl) rfl | exact cell_of (hst.get 2 rfl) hdArr_0 | exact cell_of (hst.get 2 rfl) rfl | exact cell_of (hst.get 3 rfl) hdArr_0 | exact cell_of (hst.get 3 rfl) rfl | exact cell_of (hst.get 4 rfl) hdArr_0 | exact cell_of (hst.get 4 rfl) rfl) ?_)
       | (refine L_load1 (d := some 85) rfl rfl rfl (by rfl) Tryd.underlying3 rfl (by first | assumption | exact cell_of (hst.get 0 rfl) hdArr_0 | exact cell_of (hst.get 0 rfl) rfl | exact cell_of (hst.get 1 rfl) hdArr_0 | exact cell_of (hst.get 1 rfl) rfl | exact cell_of (hst.get 2 rfl) hdArr_0 | exact cell_of (hst.get 2 rfl) rfl | exact cell_of (hst.get 3 rfl) hdArr_0 | exact cell_of (hst.get 3 rfl) rfl | exact cell_of (hst.get 4 rfl) hdArr_0 | exact cell_of (hst.get 4 rfl) rfl) ?_)
       | (refine L_load1 (d := some 87) rfl rfl rfl (by rfl) Tryd.underlying3 rfl (by first | assumption | exact cell_of (hst.get 0 rfl) hdArr_0 | exact cell_of (hst.get 0 rfl) rfl | exact cell_of (hst.get 1 rfl) hdArr_0 | exact cell_of (hst.get 1 rfl) rfl | exact cell_of (hst.get 2 rfl) hdArr_0 | exact cell_of (hst.get 2 rfl) rfl | exact cell_of (hst.get 3 rfl) hdArr_0 | exact cell_of (hst.get 3 rfl) rfl | exact cell_of (hst.get 4 rfl) hdArr_0 | exact cell_of (hst.get 4 rfl) rfl) ?_)
       | (first | (refine L_loadA (d := some 91) rfl rfl rfl (by rfl) Tryd.underlying23 rfl el_api_Digest (by first | exact hst.get 0 rfl | exact hst.get 1 rfl | exact hst.get 2 rfl | exact hst.get 3 rfl | exact hst.get 4 rfl) (by first | exact Dig.size _ | exact hdArr_size _ _ _ _ | rfl | (simp; done)) ?_) | (refine L_loadM (d := some 91) rfl rfl rfl (by rfl) Tryd.underlying23 rfl el_api_Digest (by first | assumption | exact hdArr_root (hst.get 0 rfl) | exact hdArr_root (hst.get 4 rfl) | exact hdArr_map (hst.get 0 rfl) | exact hdArr_map (hst.get 4 rfl)) (by first | exact Dig.size _ | exact hdArr_size _ _ _ _ | rfl | (simp; done)) ?_))
       | (first | (refine L_loadA (d := some 97) rfl rfl rfl (by rfl) Tryd.underlying23 rfl el_api_Digest (by first | exact hst.get 0 rfl | exact hst.get 1 rfl | exact hst.get 2 rfl | exact hst.get 3 rfl | exact hst.get 4 rfl) (by first | exact Dig.size _ | exact hdArr_size _ _ _ _ | rfl | (simp; done)) ?_) | (refine L_loadM (d := some 97) rfl rfl rfl (by rfl) Tryd.underlying23 rfl el_api_Digest (by first | assumption | exact hdArr_root (hst.get 0 rfl) | exact hdArr_root (hst.get 4 rfl) | exact hdArr_map (hst.get 0 rfl) | exact hdArr_map (hst.get 4 rfl)) (by first | exact Dig.size _ | exact hdArr_size _ _ _ _ | rfl | (simp; done)) ?_))
       | fail))
     go_upto_region 17 with (go_big_may; first
      | (first | (refine L_loadA (d := some 104) rfl rfl rfl (by rfl) Tryd.underlying39 rfl el_api_Head (by first | exact hst.get 0 rfl | exact hst.get 1 rfl | exact hst.get 2 rfl | exact hst.get 3 rfl | exact hst.get 4 rfl) (by first | exact Dig.size _ | exact hdArr_size _ _ _ _ | rfl | (simp; done)) ?_) | (refine L_loadM (d := some 104) rfl rfl rfl (by rfl) Tryd.underlying39 rfl el_api_Head (by first | assumption) (by first | exact Dig.size _ | exact hdArr_size _ _ _ _ | rfl | (simp; done)) ?_))
      | (refine L_allocA (d := some 13) rfl rfl rfl el_api_Head ?_; (try clear hnew); intro g13 W13 hnew; replace hst := hst.trans hnew; simp only [List.cons_append, List.nil_append] at hst)
      | (refine wpl_at (.store 39 (.tmp 13) (.tmp 104)) rfl ?_; first | (refine L_storeA rfl rfl hst rfl (by rfl) (ev_tmp rfl) (by first | rfl | exact Dig.one _ | exact hdArr_all _ _ _ _ | (simp; done)) el_api_Head (by first | rfl | exact Dig.size _ | exact hdArr_size _ _ _ _ | (simp; done)) 0 rfl (by first | rfl | exact Dig.size _ | exact hdArr_size _ _ _ _ | (simp; done)) ?_; clear hst; intro WS2 hst; simp only [List.set_cons_zero, List.set_cons_succ, hdArr_flip' _ _ _ _] at hst) | (refine L_storeA rfl rfl hst rfl (by rfl) (ev_tmp rfl) (by first | rfl | exact Dig.one _ | exact hdArr_all _ _ _ _ | (simp; done)) el_api_Head (by first | rfl | exact Dig.size _ | exact hdArr_size _ _ _ _ | (simp; done)) 1 rfl (by first | rfl | exact Dig.size _ | exact hdArr_size _ _ _ _ | (simp; done)) ?_; clear hst; intro WS2 hst; simp only [List.set_cons_zero, List.set_cons_succ, hdArr_flip' _ _ _ _] at hst) | (refine L_storeA rfl rfl hst rfl (by rfl) (ev_tmp rfl) (by first | rfl | exact Dig.one _ | exact hdArr_all _ _ _ _ | (simp; done)) el_api_Head (by first | rfl | exact Dig.size _ | exact hdArr_size _ _ _ _ | (simp; done)) 2 rfl (by first | rfl | exact Dig.size _ | exact hdArr_size _ _ _ _ | (simp; done)) ?_; clear hst; intro WS2 hst; simp only [List.set_cons_zero, List.set_cons_succ, hdArr_flip' _ _ _ _] at hst) | (refine L_storeA rfl rfl hst rfl (by rfl) (ev_tmp rfl) (by first | rfl | exact Dig.one _ | exact hdArr_all _ _ _ _ | (simp; done)) el_api_Head (by first | rfl | exact Dig.size _ | exact hdArr_size _ _ _ _ | (simp; done)) 3 rfl (by first | rfl | exact Dig.size _ | exact hdArr_size _ _ _ _ | (simp; done)) ?_; clear hst; intro WS2 hst; simp only [List.set_cons_zero, List.set_cons_succ, hdArr_flip' _ _ _ _] at hst) | (refine L_storeA rfl rfl hst rfl (by rfl) (ev_tmp rfl) (by first | rfl | exact Dig.one _ | exact hdArr_all _ _ _ _ | (simp; done)) el_api_Head (by first | rfl | exact Dig.size _ | exact hdArr_size _ _ _ _ | (simp; done)) 4 rfl (by first | rfl | exact Dig.size _ | exact hdArr_size _ _ _ _ | (simp; done)) ?_; clear hst; intro WS2 hst; simp only [List.set_cons_zero, List.set_cons_succ, hdArr_flip' _ _ _ _] at hst) | (refine L_storeM rfl rfl hst rfl (by rfl) (ev_tmp rfl) (by first | rfl | exact Dig.one _ | exact hdArr_all _ _ _ _ | (simp; done)) el_api_Head (by first | rfl | exact Dig.size _ | exact hdArr_size _ _ _ _ | (simp; done)) 0 rfl (by first | exact of_decide_eq_true rfl | (simp; done)) ?_; clear hst; intro WS2 hst; simp only [List.set_cons_zero, List.set_cons_succ, hdArr_flip' _ _ _ _] at hst)  | (refine L_storeM rfl rfl hst rfl (by rfl) (ev_tmp rfl) (by first | rfl | exact Dig.one _ | exact hdArr_all _ _ _ _ | (simp; done)) el_api_Head (by first | rfl | exact Dig.size _ | exact hdArr_size _ _ _ _ | (simp; done)) 1 rfl (by first | exact of_decide_eq_true rfl | (simp; done)) ?_; clear hst; intro WS2 hst; simp only [List.set_cons_zero, List.set_cons_succ, hdArr_flip' _ _ _ _] at hst)  | (refine L_storeM rfl rfl hst rfl (by rfl) (ev_tmp rfl) (by first | rfl | exact Dig.one _ | exact hdArr_all _ _ _ _ | (simp; done)) el_api_Head (by first | rfl | exact Dig.size _ | exact hdArr_size _ _ _ _ | (simp; done)) 2 rfl (by first | exact of_decide_eq_true rfl | (simp; done)) ?_; clear hst; intro WS2 hst; simp only [List.set_cons_zero, List.set_cons_succ, hdArr_flip' _ _ _ _] at hst)  | (refine L_storeM rfl rfl hst rfl (by rfl) (ev_tmp rfl) (by first | rfl | exact Dig.one _ | exact hdArr_all _ _ _ _ | (simp; done)) el_api_Head (by first | rfl | exact Dig.size _ | exact hdArr_size _ _ _ _ | (simp; done)) 3 rfl (by first | exact of_decide_eq_true rfl | (simp; done)) ?_; clear hst; intro WS2 hst; simp only [List.set_cons_zero, List.set_cons_succ, hdArr_flip' _ _ _ _] at hst)  | (refine L_storeM rfl rfl hst rfl (by rfl) (ev_tmp rfl) (by first | rfl | exact Dig.one _ | exact hdArr_all _ _ _ _ | (simp; done)) el_api_Head (by first | rfl | exact Dig.size _ | exact hdArr_size _ _ _ _ | (simp; done)) 4 rfl (by first | exact of_decide_eq_true rfl | (simp; done)) ?_; clear hst; intro WS2 hst; simp only [List.set_cons_zero, List.set_cons_succ, hdArr_flip' _ _ _ _] at hst))
      | fail)
     go_upto_region 18 with (go_big_may; first
      | (refine L_xor1 (d := some 108) rfl rfl rfl (ev_tmp rfl) ev_const ?_)
      | (refine L_load1 (d := some 107) rfl rfl rfl (by rfl) Tryd.underlying5 rfl (by first | assumption | exact cell_of (hst.get 0 rfl) hdArr_65 | exact cell_of (hst.get 0 rfl) rfl | exact cell_of (hst.get 1 rfl) hdArr_65 | exact cell_of (hst.get 1 rfl) rfl | exact cell_of (hst.get 2 rfl) hdArr_65 | exact cell_of (hst.get 2 rfl) rfl | exact cell_of (hst.get 3 rfl) hdArr_65 | exact cell_of (hst.get 3 rfl) rfl | exact cell_of (hst.get 4 rfl) hdArr_65 | exact cell_of (hst.get 4 rfl) rfl) ?_)
      | (refine wpl_at (.store 5 (.tmp 110) (.tmp 108)) rfl ?_; first | (refine L_store1 rfl rfl hst rfl (by rfl) (ev_tmp rfl) rfl el_uint8 0 rfl (by first | exact of_decide_eq_true rfl | omega | (simp; done) | (simp; omega)) ?_; clear hst; intro WS6 hst; simp only [List.set_cons_zero, List.set_cons_succ, hdArr_flip' _ _ _ _] at hst) | (refine L_store1 rfl rfl hst rfl (by rfl) (ev_tmp rfl) rfl el_uint8 1 rfl (by first | exact of_decide_eq_true rfl | omega | (simp; done) | (simp; omega)) ?_; clear hst; intro WS6 hst; simp only [List.set_cons_zero, List.set_cons_succ, hdArr_flip' _ _ _ _] at hst) | (refine L_store1 rfl rfl hst rfl (by rfl) (ev_tmp rfl) rfl el_uint8 2 rfl (by first | exact of_decide_eq_true rfl | omega | (simp; done) | (simp; omega)) ?_; clear hst; intro WS6 hst; simp only [List.set_cons_zero, List.set_cons_succ, hdArr_flip' _ _ _ _] at hst) | (refine L_store1 rfl rfl hst rfl (by rfl) (ev_tmp rfl) rfl el_uint8 3 rfl (by first | exact of_decide_eq_true rfl | omega | (simp; done) | (simp; omega)) ?_; clear hst; intro WS6 hst; simp only [List.set_cons_zero, List.set_cons_succ, hdArr_flip' _ _ _ _] at hst) | (refine L_store1 rfl rfl hst rfl (by rfl) (ev_tmp rfl) rfl el_uint8 4 rfl (by first | exact of_decide_eq_true rfl | omega | (simp; done) | (simp; omega)) ?_; clear hst; intro WS6 hst; simp only [List.set_cons_zero, List.set_cons_succ, hdArr_flip' _ _ _ _] at hst))
      | fail)
     have H1 := Lib.hid (show takeN key n x y n x y (flipD t) (f i).2.2.2 = 1 by rw [ht.out]; exact take_flip _ _ _ _ _ _ _ _)
     refine wp_region_idxT [(0, 0), (1, 0), (2, 0), (3, 2), (4, 2), (5, 2), (6, 1), (7, 2), (8, 2), (9, 0), (11, 0), (10, 2), (12, 2), (13, 2)] (by kernel_rfl) (by kernel_rfl) ?_
     replace hst := hst.drew
     refine idx_q rfl rfl ?_; go_wp2_with fail
     refine idx_q rfl rfl ?_; go_wp2_with (first | (first | (refine L_loadA (d := some 112) rfl rfl rfl (by rfl) Tryd.underlying39 rfl el_api_Head (by first | exact hst.get 0 rfl | exact hst.get 1 rfl | exact hst.get 2 rfl | exact hst.get 3 rfl | exact hst.get 4 rfl | exact hst.get 5 rfl) (by first | exact Dig.size _ | exact hdArr_size _ _ _ _ | rfl | (simp; done)) ?_) | (refine L_loadM (d := some 112) rfl rfl rfl (by rfl) Tryd.underlying39 rfl el_api_Head (by first | assumption) (by first | exact Dig.size _ | exact hdArr_size _ _ _ _ | rfl | (simp; done)) ?_)) | fail)
     refine idx_q rfl rfl ?_; go_wp2_with fail
     refine idx_g rfl ?_; go_wp2_with fail; refine ⟨by first | exact Below.refl _ _ | exact hnew.below, ?_⟩
     refine idx_g rfl ?_; go_wp2_with (first | (refine L_idxS (d := some 115) rfl rfl rfl (by rfl) (by rfl) Tryd.underlying68 el_S_api_Digest (by first | exact hst.old (by decide) HD.out | assumption | exact hst.sl 0 rfl | exact hst.sl 1 rfl | exact hst.sl 2 rfl | exact hst.sl 3 rfl | exact hst.sl 4 rfl | exact hst.sl 5 rfl | exact hst.old (by decide) (by assumption)) (by omega) (by omega) ?_; intro o115 p115 ha115 hr115; (first | subst ha115 | (obtain ⟨h1, h2⟩ := some_addr ha115; subst h1; subst h2; clear ha115) | skip)) | fail); refine ⟨by first | exact Below.refl _ _ | exact hnew.below, ?_⟩
     refine idx_g rfl ?_; go_wp2_with (first | (refine L_load1 (d := some 116) rfl rfl rfl (by rfl) Tryd.underlying74 rfl (HE.out _ _ _ hr115) ?_) | (refine L_load1 (d := some 116) rfl rfl rfl (by rfl) Tryd.underlying74 rfl (by first | assumption | exact cell_of (hst.get 0 rfl) rfl | exact cell_of (hst.get 1 rfl) rfl | exact cell_of (hst.get 2 rfl) rfl | exact cell_of (hst.get 3 rfl) rfl | exact cell_of (hst.get 4 rfl) rfl | exact cell_of (hst.get 5 rfl) rfl) ?_) | fail); refine ⟨by first | exact Below.refl _ _ | exact hnew.below, ?_⟩
     refine idx_e rfl ?_; go_wp2_with (first | (refine L_load1 (d := some 116) rfl rfl rfl (by rfl) Tryd.underlying74 rfl (HE.out _ _ _ hr115) ?_) | (go_at_call 40; refine (HK.out _ n x y t (flipD t) _ (hN.out) (hst.pick [2, 3, 0, 1, 4, 5] (by decide))).mono ?_; rw [H1.out, pinAft_s (by decide), errO_s (by decide)]; unfold errV; rintro e Wt ⟨rfl, hst'⟩; simp only [List.filterMap_cons, List.filterMap_nil, List.getElem?_cons_zero, List.getElem?_cons_succ] at hst'; replace hst := hst'; clear hst') | (go_at_call 37; refine (held_any _ _ _ _ _ _ _ _ _ _ _ (hst.get 0 rfl)).mono ?_; rintro e Wh ⟨rfl, hnew⟩; replace hst := hst.keep hnew) | (refine L_neA (d := some 123) rfl rfl rfl eqG_Head (ev_tmp rfl) (ev_tmp rfl) (eqHead_self _ _ _ _ _) ?_; rw [bang_t]) | fail)
     refine idx_g rfl ?_; go_wp2_with (first | (refine L_load1 (d := some 116) rfl rfl rfl (by rfl) Tryd.underlying74 rfl (HE.out _ _ _ hr115) ?_) | (go_at_call 40; refine (HK.out _ n x y t (flipD t) _ (hN.out) (hst.pick [2, 3, 0, 1, 4, 5] (by decide))).mono ?_; rw [H1.out, pinAft_s (by decide), errO_s (by decide)]; unfold errV; rintro e Wt ⟨rfl, hst'⟩; simp only [List.filterMap_cons, List.filterMap_nil, List.getElem?_cons_zero, List.getElem?_cons_succ] at hst'; replace hst := hst'; clear hst') | (go_at_call 37; refine (held_any _ _ _ _ _ _ _ _ _ _ _ (hst.get 0 rfl)).mono ?_; rintro e Wh ⟨rfl, hnew⟩; replace hst := hst.keep hnew) | (refine L_neA (d := some 123) rfl rfl rfl eqG_Head (ev_tmp rfl) (ev_tmp rfl) (eqHead_self _ _ _ _ _) ?_; rw [bang_t]) | fail); refine ⟨by first | exact Below.refl _ _ | exact hnew.below, ?_⟩
     refine idx_g rfl ?_; go_wp2_with fail; refine ⟨by first | exact Below.refl _ _ | exact hnew.below, ?_⟩
     refine idx_q rfl rfl ?_; go_wp2_with (first | (refine L_un (t := 120) rfl (by rfl) rfl ?_) | fail)
     refine idx_q rfl rfl ?_; go_wp2_with (first | (refine L_un (t := 122) rfl (by rfl) rfl ?_) | (first | (refine L_loadA (d := some 122) rfl rfl rfl (by rfl) Tryd.underlying39 rfl el_api_Head (by first | exact hst.get 0 rfl | exact hst.get 1 rfl | exact hst.get 2 rfl | exact hst.get 3 rfl | exact hst.get 4 rfl | exact hst.get 5 rfl) (by first | exact Dig.size _ | exact hdArr_size _ _ _ _ | rfl | (simp; done)) ?_) | (refine L_loadM (d := some 122) rfl rfl rfl (by rfl) Tryd.underlying39 rfl el_api_Head (by first | assumption) (by first | exact Dig.size _ | exact hdArr_size _ _ _ _ | rfl | (simp; done)) ?_)) | fail)
     refine idx_g rfl ?_; go_wp2_with (first | (refine L_un (t := 121) rfl (by rfl) rfl ?_) | (refine L_load1 (d := some 116) rfl rfl rfl (by rfl) Tryd.underlying74 rfl (HE.out _ _ _ hr115) ?_) | (go_at_call 40; refine (HK.out _ n x y t (flipD t) _ (hN.out) (hst.pick [2, 3, 0, 1, 4, 5] (by decide))).mono ?_; rw [H1.out, pinAft_s (by decide), errO_s (by decide)]; unfold errV; rintro e Wt ⟨rfl, hst'⟩; simp only [List.filterMap_cons, List.filterMap_nil, List.getElem?_cons_zero, List.getElem?_cons_succ] at hst'; replace hst := hst'; clear hst') | (go_at_call 37; refine (held_any _ _ _ _ _ _ _ _ _ _ _ (hst.get 0 rfl)).mono ?_; rintro e Wh ⟨rfl, hnew⟩; replace hst := hst.keep hnew) | (refine L_neA (d := some 123) rfl rfl rfl eqG_Head (ev_tmp rfl) (ev_tmp rfl) (eqHead_self _ _ _ _ _) ?_; rw [bang_t]) | fail); refine ⟨by first | exact Below.refl _ _ | exact hnew.below, ?_⟩
     refine idx_g rfl ?_; go_wp2_with (first | (refine L_un (t := 123) rfl (by rfl) rfl ?_) | (refine L_load1 (d := some 116) rfl rfl rfl (by rfl) Tryd.underlying74 rfl (HE.out _ _ _ hr115) ?_) | (go_at_call 40; refine (HK.out _ n x y t (flipD t) _ (hN.out) (hst.pick [2, 3, 0, 1, 4, 5] (by decide))).mono ?_; rw [H1.out, pinAft_s (by decide), errO_s (by decide)]; unfold errV; rintro e Wt ⟨rfl, hst'⟩; simp only [List.filterMap_cons, List.filterMap_nil, List.getElem?_cons_zero, List.getElem?_cons_succ] at hst'; replace hst := hst'; clear hst') | (go_at_call 37; refine (held_any _ _ _ _ _ _ _ _ _ _ _ (hst.get 0 rfl)).mono ?_; rintro e Wh ⟨rfl, hnew⟩; replace hst := hst.keep hnew) | (refine L_neA (d := some 123) rfl rfl rfl eqG_Head (ev_tmp rfl) (ev_tmp rfl) (eqHead_self _ _ _ _ _) ?_; rw [bang_t]) | fail); refine ⟨by first | exact Below.refl _ _ | exact hnew.below, ?_⟩
     refine idx_g rfl ?_; go_wp2_with fail; refine ⟨by first | exact Below.refl _ _ | exact hnew.below, ?_⟩
     refine idx_nil ?_
     go_wp2_with fail
     go_roundg g
     case measure => omega
     case rel => exact ⟨i + 1, n, x, y, t, Lib.hid (by have := HI.out; omega), Lib.hid (hN.out), by go_num, hst.pick [0, 1] (by decide)⟩
    ·have hcb : (n == n0) = false := beq_eq_false_iff_ne.2 c
     have hge : decide (n < n0) = false := decide_eq_false (by have := HGE.out; omega)
     go_upto_region 16 with (first
      | (with_reducible refine L_pass (t := 63) rfl (by kernel_rfl) ?_)
      | (with_reducible refine L_pass (t := 64) rfl (by kernel_rfl) ?_)
      | (with_reducible refine L_pass (t := 65) rfl (by kernel_rfl) ?_)
      | (with_reducible refine L_pass (t := 90) rfl (by kernel_rfl) ?_)
      | (with_reducible refine L_pass (t := 91) rfl (by kernel_rfl) ?_)
      | (with_reducible refine L_pass (t := 92) rfl (by kernel_rfl) ?_)
      | (with_reducible refine L_pass (t := 93) rfl (by kernel_rfl) ?_)
      | (with_reducible refine L_pass (t := 94) rfl (by kernel_rfl) ?_)
      | (with_reducible refine L_pass (t := 95) rfl (by kernel_rfl) ?_)
      | (with_reducible refine L_pass (t := 96) rfl (by kernel_rfl) ?_)
      | (with_reducible refine L_pass (t := 97) rfl (by kernel_rfl) ?_)
      | (with_reducible refine L_pass (t := 98) rfl (by kernel_rfl) ?_)
      | (with_reducible refine L_pass (t := 99) rfl (by kernel_rfl) ?_)
      | (with_reducible refine L_pass (t := 100) rfl (by kernel_rfl) ?_)
      | (with_reducible refine L_pass (t := 101) rfl (by kernel_rfl) ?_)
      | (go_big_may; first
       | (refine L_loadA (d := some 72) rfl rfl rfl (by rfl) Tryd.underlying39 rfl el_api_Head (hst.get 3 rfl) (hdArr_size _ _ _ _) ?_; refine L_neA (d := some 73) rfl rfl rfl eqG_Head (ev_tmp rfl) (ev_tmp rfl) (eqHead_self _ _ _ _ _) ?_; rw [bang_t])
       | (first | (refine L_loadA (d := some 71) rfl rfl rfl (by rfl) Tryd.underlying39 rfl el_api_Head (by first | exact hst.get 0 rfl | exact hst.get 1 rfl | exact hst.get 2 rfl | exact hst.get 3 rfl | exact hst.get 4 rfl) (by first | exact Dig.size _ | exact hdArr_size _ _ _ _ | rfl | (simp; done)) ?_) | (refine L_loadM (d := some 71) rfl rfl rfl (by rfl) Tryd.underlying39 rfl el_api_Head (by first | assumption | exact hdArr_root (hst.get 0 rfl) | exact hdArr_root (hst.get 4 rfl) | exact hdArr_map (hst.get 0 rfl) | exact hdArr_map (hst.get 4 rfl)) (by first | exact Dig.size _ | exact hdArr_size _ _ _ _ | rfl | (simp; done)) ?_))
       | (refine L_load1 (d := some 78) rfl rfl rfl (by rfl) Tryd.underlying3 rfl (by first | assumption | exact cell_of (hst.get 0 rfl) hdArr_0 | exact cell_of (hst.get 0 rfl) rfl | exact cell_of (hst.get 1 rfl) hdArr_0 | exact cell_of (hst.get 1 rfl) rfl | exact cell_of (hst.get 2 rfl) hdArr_0 | exact cell_of (hst.get 2 rfl) rfl | exact cell_of (hst.get 3 rfl) hdArr_0 | exact cell_of (hst.get 3 rfl) rfl | exact cell_of (hst.get 4 rfl) hdArr_0 | exact cell_of (hst.get 4 rfl) rfl) ?_)
       | (refine L_load1 (d := some 80) rfl rfl rfl (by rfl) Tryd.underlying3 rfl (by first | assumption | exact cell_of (hst.get 0 rfl) hdArr_0 | exact cell_of (hst.get 0 rfl) rfl | exact cell_of (hst.get 1 rfl) hdArr_0 | exact cell_of (hst.get 1 rfl) rfl | exact cell_of (hst.get 2 rfl) hdArr_0 | exact cell_of (hst.get 2 rfl) rfl | exact cell_of (hst.get 3 rfl) hdArr_0 | exact cell_of (hst.get 3 rfl) rfl | exact cell_of (hst.get 4 rfl) hdArr_0 | exact cell_of (hst.get 4 rfl) rfl) ?_)
       | (refine L_load1 (d := some 85) rfl rfl rfl (by rfl) Tryd.underlying3 rfl (by first | assumption | exact cell_of (hst.get 0 rfl) hdArr_0 | exact cell_of (hst.get 0 rfl) rfl | exact cell_of (hst.get 1 rfl) hdArr_0 | exact cell_of (hst.get 1 rfl) rfl | exact cell_of (hst.get 2 rfl) hdArr_0 | exact cell_of (hst.get 2 rfl) rfl | exact cell_of (hst.get 3 rfl) hdArr_0 | exact cell_of (hst.get 3 rfl) rfl | exact cell_of (hst.get 4 rfl) hdArr_0 | exact cell_of (hst.get 4 rfl) rfl) ?_)
       | (refine L_load1 (d := some 87) rfl rfl rfl (by rfl) Tryd.underlying3 rfl (by first | assumption | exact cell_of (hst.get 0 rfl) hdArr_0 | exact cell_of (hst.get 0 rfl) rfl | exact cell_of (hst.get 1 rfl) hdArr_0 | exact cell_of (hst.get 1 rfl) rfl | exact cell_of (hst.get 2 rfl) hdArr_0 | exact cell_of (hst.get 2 rfl) rfl | exact cell_of (hst.get 3 rfl) hdArr_0 | exact cell_of (hst.get 3 rfl) rfl | exact cell_of (hst.get 4 rfl) hdArr_0 | exact cell_of (hst.get 4 rfl) rfl) ?_)
       | fail))
     go_upto_region 17 with (go_big_may; first
      | (first | (refine L_loadA (d := some 104) rfl rfl rfl (by rfl) Tryd.underlying39 rfl el_api_Head (by first | exact hst.get 0 rfl | exact hst.get 1 rfl | exact hst.get 2 rfl | exact hst.get 3 rfl | exact hst.get 4 rfl) (by first | exact Dig.size _ | exact hdArr_size _ _ _ _ | rfl | (simp; done)) ?_) | (refine L_loadM (d := some 104) rfl rfl rfl (by rfl) Tryd.underlying39 rfl el_api_Head (by first | assumption) (by first | exact Dig.size _ | exact hdArr_size _ _ _ _ | rfl | (simp; done)) ?_))
      | (refine L_allocA (d := some 13) rfl rfl rfl el_api_Head ?_; (try clear hnew); intro g13 W13 hnew; replace hst := hst.trans hnew; simp only [List.cons_append, List.nil_append] at hst)
      | (refine wpl_at (.store 39 (.tmp 13) (.tmp 104)) rfl ?_; first | (refine L_storeA rfl rfl hst rfl (by rfl) (ev_tmp rfl) (by first | rfl | exact Dig.one _ | exact hdArr_all _ _ _ _ | (simp; done)) el_api_Head (by first | rfl | exact Dig.size _ | exact hdArr_size _ _ _ _ | (simp; done)) 0 rfl (by first | rfl | exact Dig.size _ | exact hdArr_size _ _ _ _ | (simp; done)) ?_; clear hst; intro WS2 hst; simp only [List.set_cons_zero, List.set_cons_succ, hdArr_flip' _ _ _ _] at hst) | (refine L_storeA rfl rfl hst rfl (by rfl) (ev_tmp rfl) (by first | rfl | exact Dig.one _ | exact hdArr_all _ _ _ _ | (simp; done)) el_api_Head (by first | rfl | exact Dig.size _ | exact hdArr_size _ _ _ _ | (simp; done)) 1 rfl (by first | rfl | exact Dig.size _ | exact hdArr_size _ _ _ _ | (simp; done)) ?_; clear hst; intro WS2 hst; simp only [List.set_cons_zero, List.set_cons_succ, hdArr_flip' _ _ _ _] at hst) | (refine L_storeA rfl rfl hst rfl (by rfl) (ev_tmp rfl) (by first | rfl | exact Dig.one _ | exact hdArr_all _ _ _ _ | (simp; done)) el_api_Head (by first | rfl | exact Dig.size _ | exact hdArr_size _ _ _ _ | (simp; done)) 2 rfl (by first | rfl | exact Dig.size _ | exact hdArr_size _ _ _ _ | (simp; done)) ?_; clear hst; intro WS2 hst; simp only [List.set_cons_zero, List.set_cons_succ, hdArr_flip' _ _ _ _] at hst) | (refine L_storeA rfl rfl hst rfl (by rfl) (ev_tmp rfl) (by first | rfl | exact Dig.one _ | exact hdArr_all _ _ _ _ | (simp; done)) el_api_Head (by first | rfl | exact Dig.size _ | exact hdArr_size _ _ _ _ | (simp; done)) 3 rfl (by first | rfl | exact Dig.size _ | exact hdArr_size _ _ _ _ | (simp; done)) ?_; clear hst; intro WS2 hst; simp only [List.set_cons_zero, List.set_cons_succ, hdArr_flip' _ _ _ _] at hst) | (refine L_storeA rfl rfl hst rfl (by rfl) (ev_tmp rfl) (by first | rfl | exact Dig.one _ | exact hdArr_all _ _ _ _ | (simp; done)) el_api_Head (by first | rfl | exact Dig.size _ | exact hdArr_size _ _ _ _ | (simp; done)) 4 rfl (by first | rfl | exact Dig.size _ | exact hdArr_size _ _ _ _ | (simp; done)) ?_; clear hst; intro WS2 hst; simp only [List.set_cons_zero, List.set_cons_succ, hdArr_flip' _ _ _ _] at hst) | (refine L_storeM rfl rfl hst rfl (by rfl) (ev_tmp rfl) (by first | rfl | exact Dig.one _ | exact hdArr_all _ _ _ _ | (simp; done)) el_api_Head (by first | rfl | exact Dig.size _ | exact hdArr_size _ _ _ _ | (simp; done)) 0 rfl (by first | exact of_decide_eq_true rfl | (simp; done)) ?_; clear hst; intro WS2 hst; simp only [List.set_cons_zero, List.set_cons_succ, hdArr_flip' _ _ _ _] at hst)  | (refine L_storeM rfl rfl hst rfl (by rfl) (ev_tmp rfl) (by first | rfl | exact Dig.one _ | exact hdArr_all _ _ _ _ | (simp; done)) el_api_Head (by first | rfl | exact Dig.size _ | exact hdArr_size _ _ _ _ | (simp; done)) 1 rfl (by first | exact of_decide_eq_true rfl | (simp; done)) ?_; clear hst; intro WS2 hst; simp only [List.set_cons_zero, List.set_cons_succ, hdArr_flip' _ _ _ _] at hst)  | (refine L_storeM rfl rfl hst rfl (by rfl) (ev_tmp rfl) (by first | rfl | exact Dig.one _ | exact hdArr_all _ _ _ _ | (simp; done)) el_api_Head (by first | rfl | exact Dig.size _ | exact hdArr_size _ _ _ _ | (simp; done)) 2 rfl (by first | exact of_decide_eq_true rfl | (simp; done)) ?_; clear hst; intro WS2 hst; simp only [List.set_cons_zero, List.set_cons_succ, hdArr_flip' _ _ _ _] at hst)  | (refine L_storeM rfl rfl hst rfl (by rfl) (ev_tmp rfl) (by first | rfl | exact Dig.one _ | exact hdArr_all _ _ _ _ | (simp; done)) el_api_Head (by first | rfl | exact Dig.size _ | exact hdArr_size _ _ _ _ | (simp; done)) 3 rfl (by first | exact of_decide_eq_true rfl | (simp; done)) ?_; clear hst; intro WS2 hst; simp only [List.set_cons_zero, List.set_cons_succ, hdArr_flip' _ _ _ _] at hst)  | (refine L_storeM rfl rfl hst rfl (by rfl) (ev_tmp rfl) (by first | rfl | exact Dig.one _ | exact hdArr_all _ _ _ _ | (simp; done)) el_api_Head (by first | rfl | exact Dig.size _ | exact hdArr_size _ _ _ _ | (simp; done)) 4 rfl (by first | exact of_decide_eq_true rfl | (simp; done)) ?_; clear hst; intro WS2 hst; simp only [List.set_cons_zero, List.set_cons_succ, hdArr_flip' _ _ _ _] at hst))
      | fail)
     go_upto_region 18 with (go_big_may; first
      | (refine L_xor1 (d := some 108) rfl rfl rfl (ev_tmp rfl) ev_const ?_)
      | (refine L_load1 (d := some 107) rfl rfl rfl (by rfl) Tryd.underlying5 rfl (by first | assumption | exact cell_of (hst.get 0 rfl) hdArr_65 | exact cell_of (hst.get 0 rfl) rfl | exact cell_of (hst.get 1 rfl) hdArr_65 | exact cell_of (hst.get 1 rfl) rfl | exact cell_of (hst.get 2 rfl) hdArr_65 | exact cell_of (hst.get 2 rfl) rfl | exact cell_of (hst.get 3 rfl) hdArr_65 | exact cell_of (hst.get 3 rfl) rfl | exact cell_of (hst.get 4 rfl) hdArr_65 | exact cell_of (hst.get 4 rfl) rfl) ?_)
      | (refine wpl_at (.store 5 (.tmp 110) (.tmp 108)) rfl ?_; first | (refine L_store1 rfl rfl hst rfl (by rfl) (ev_tmp rfl) rfl el_uint8 0 rfl (by first | exact of_decide_eq_true rfl | omega | (simp; done) | (simp; omega)) ?_; clear hst; intro WS6 hst; simp only [List.set_cons_zero, List.set_cons_succ, hdArr_flip' _ _ _ _] at hst) | (refine L_store1 rfl rfl hst rfl (by rfl) (ev_tmp rfl) rfl el_uint8 1 rfl (by first | exact of_decide_eq_true rfl | omega | (simp; done) | (simp; omega)) ?_; clear hst; intro WS6 hst; simp only [List.set_cons_zero, List.set_cons_succ, hdArr_flip' _ _ _ _] at hst) | (refine L_store1 rfl rfl hst rfl (by rfl) (ev_tmp rfl) rfl el_uint8 2 rfl (by first | exact of_decide_eq_true rfl | omega | (simp; done) | (simp; omega)) ?_; clear hst; intro WS6 hst; simp only [List.set_cons_zero, List.set_cons_succ, hdArr_flip' _ _ _ _] at hst) | (refine L_store1 rfl rfl hst rfl (by rfl) (ev_tmp rfl) rfl el_uint8 3 rfl (by first | exact of_decide_eq_true rfl | omega | (simp; done) | (simp; omega)) ?_; clear hst; intro WS6 hst; simp only [List.set_cons_zero, List.set_cons_succ, hdArr_flip' _ _ _ _] at hst) | (refine L_store1 rfl rfl hst rfl (by rfl) (ev_tmp rfl) rfl el_uint8 4 rfl (by first | exact of_decide_eq_true rfl | omega | (simp; done) | (simp; omega)) ?_; clear hst; intro WS6 hst; simp only [List.set_cons_zero, List.set_cons_succ, hdArr_flip' _ _ _ _] at hst))
      | fail)
     have H1 := Lib.hid (show takeN key n x y n x y (flipD t) (f i).2.2.2 = 1 by rw [ht.out]; exact take_flip _ _ _ _ _ _ _ _)
     refine wp_region_idxT [(0, 0), (1, 0), (2, 0), (3, 2), (4, 2), (5, 2), (6, 1), (7, 2), (8, 2), (9, 0), (11, 0), (10, 2), (12, 2), (13, 2)] (by kernel_rfl) (by kernel_rfl) ?_
     replace hst := hst.drew
     refine idx_q rfl rfl ?_; go_wp2_with fail
     refine idx_q rfl rfl ?_; go_wp2_with (first | (first | (refine L_loadA (d := some 112) rfl rfl rfl (by rfl) Tryd.underlying39 rfl el_api_Head (by first | exact hst.get 0 rfl | exact hst.get 1 rfl | exact hst.get 2 rfl | exact hst.get 3 rfl | exact hst.get 4 rfl | exact hst.get 5 rfl) (by first | exact Dig.size _ | exact hdArr_size _ _ _ _ | rfl | (simp; done)) ?_) | (refine L_loadM (d := some 112) rfl rfl rfl (by rfl) Tryd.underlying39 rfl el_api_Head (by first | assumption) (by first | exact Dig.size _ | exact hdArr_size _ _ _ _ | rfl | (simp; done)) ?_)) | fail)
     refine idx_q rfl rfl ?_; go_wp2_with fail
     refine idx_g rfl ?_; go_wp2_with fail; refine ⟨by first | exact Below.refl _ _ | exact hnew.below, ?_⟩
     refine idx_g rfl ?_; go_wp2_with (first | (refine L_idxS (d := some 115) rfl rfl rfl (by rfl) (by rfl) Tryd.underlying68 el_S_api_Digest (by first | exact hst.old (by decide) HD.out | assumption | exact hst.sl 0 rfl | exact hst.sl 1 rfl | exact hst.sl 2 rfl | exact hst.sl 3 rfl | exact hst.sl 4 rfl | exact hst.sl 5 rfl | exact hst.old (by decide) (by assumption)) (by omega) (by omega) ?_; intro o115 p115 ha115 hr115; (first | subst ha115 | (obtain ⟨h1, h2⟩ := some_addr ha115; subst h1; subst h2; clear ha115) | skip)) | fail); refine ⟨by first | exact Below.refl _ _ | exact hnew.below, ?_⟩
     refine idx_g rfl ?_; go_wp2_with (first | (refine L_load1 (d := some 116) rfl rfl rfl (by rfl) Tryd.underlying74 rfl (HE.out _ _ _ hr115) ?_) | (refine L_load1 (d := some 116) rfl rfl rfl (by rfl) Tryd.underlying74 rfl (by first | assumption | exact cell_of (hst.get 0 rfl) rfl | exact cell_of (hst.get 1 rfl) rfl | exact cell_of (hst.get 2 rfl) rfl | exact cell_of (hst.get 3 rfl) rfl | exact cell_of (hst.get 4 rfl) rfl | exact cell_of (hst.get 5 rfl) rfl) ?_) | fail); refine ⟨by first | exact Below.refl _ _ | exact hnew.below, ?_⟩
     refine idx_e rfl ?_; go_wp2_with (first | (refine L_load1 (d := some 116) rfl rfl rfl (by rfl) Tryd.underlying74 rfl (HE.out _ _ _ hr115) ?_) | (go_at_call 40; refine (HK.out _ n x y t (flipD t) _ (hN.out) (hst.pick [2, 3, 0, 1, 4, 5] (by decide))).mono ?_; rw [H1.out, pinAft_s (by decide), errO_s (by decide)]; unfold errV; rintro e Wt ⟨rfl, hst'⟩; simp only [List.filterMap_cons, List.filterMap_nil, List.getElem?_cons_zero, List.getElem?_cons_succ] at hst'; replace hst := hst'; clear hst') | (go_at_call 37; refine (held_any _ _ _ _ _ _ _ _ _ _ _ (hst.get 0 rfl)).mono ?_; rintro e Wh ⟨rfl, hnew⟩; replace hst := hst.keep hnew) | (refine L_neA (d := some 123) rfl rfl rfl eqG_Head (ev_tmp rfl) (ev_tmp rfl) (eqHead_self _ _ _ _ _) ?_; rw [bang_t]) | fail)
     refine idx_g rfl ?_; go_wp2_with (first | (refine L_load1 (d := some 116) rfl rfl rfl (by rfl) Tryd.underlying74 rfl (HE.out _ _ _ hr115) ?_) | (go_at_call 40; refine (HK.out _ n x y t (flipD t) _ (hN.out) (hst.pick [2, 3, 0, 1, 4, 5] (by decide))).mono ?_; rw [H1.out, pinAft_s (by decide), errO_s (by decide)]; unfold errV; rintro e Wt ⟨rfl, hst'⟩; simp only [List.filterMap_cons, List.filterMap_nil, List.getElem?_cons_zero, List.getElem?_cons_succ] at hst'; replace hst := hst'; clear hst') | (go_at_call 37; refine (held_any _ _ _ _ _ _ _ _ _ _ _ (hst.get 0 rfl)).mono ?_; rintro e Wh ⟨rfl, hnew⟩; replace hst := hst.keep hnew) | (refine L_neA (d := some 123) rfl rfl rfl eqG_Head (ev_tmp rfl) (ev_tmp rfl) (eqHead_self _ _ _ _ _) ?_; rw [bang_t]) | fail); refine ⟨by first | exact Below.refl _ _ | exact hnew.below, ?_⟩
     refine idx_g rfl ?_; go_wp2_with fail; refine ⟨by first | exact Below.refl _ _ | exact hnew.below, ?_⟩
     refine idx_q rfl rfl ?_; go_wp2_with (first | (refine L_un (t := 120) rfl (by rfl) rfl ?_) | fail)
     refine idx_q rfl rfl ?_; go_wp2_with (first | (refine L_un (t := 122) rfl (by rfl) rfl ?_) | (first | (refine L_loadA (d := some 122) rfl rfl rfl (by rfl) Tryd.underlying39 rfl el_api_Head (by first | exact hst.get 0 rfl | exact hst.get 1 rfl | exact hst.get 2 rfl | exact hst.get 3 rfl | exact hst.get 4 rfl | exact hst.get 5 rfl) (by first | exact Dig.size _ | exact hdArr_size _ _ _ _ | rfl | (simp; done)) ?_) | (refine L_loadM (d := some 122) rfl rfl rfl (by rfl) Tryd.underlying39 rfl el_api_Head (by first | assumption) (by first | exact Dig.size _ | exact hdArr_size _ _ _ _ | rfl | (simp; done)) ?_)) | fail)
     refine idx_g rfl ?_; go_wp2_with (first | (refine L_un (t := 121) rfl (by rfl) rfl ?_) | (refine L_load1 (d := some 116) rfl rfl rfl (by rfl) Tryd.underlying74 rfl (HE.out _ _ _ hr115) ?_) | (go_at_call 40; refine (HK.out _ n x y t (flipD t) _ (hN.out) (hst.pick [2, 3, 0, 1, 4, 5] (by decide))).mono ?_; rw [H1.out, pinAft_s (by decide), errO_s (by decide)]; unfold errV; rintro e Wt ⟨rfl, hst'⟩; simp only [List.filterMap_cons, List.filterMap_nil, List.getElem?_cons_zero, List.getElem?_cons_succ] at hst'; replace hst := hst'; clear hst') | (go_at_call 37; refine (held_any _ _ _ _ _ _ _ _ _ _ _ (hst.get 0 rfl)).mono ?_; rintro e Wh ⟨rfl, hnew⟩; replace hst := hst.keep hnew) | (refine L_neA (d := some 123) rfl rfl rfl eqG_Head (ev_tmp rfl) (ev_tmp rfl) (eqHead_self _ _ _ _ _) ?_; rw [bang_t]) | fail); refine ⟨by first | exact Below.refl _ _ | exact hnew.below, ?_⟩
     refine idx_g rfl ?_; go_wp2_with (first | (refine L_un (t := 123) rfl (by rfl) rfl ?_) | (refine L_load1 (d := some 116) rfl rfl rfl (by rfl) Tryd.underlying74 rfl (HE.out _ _ _ hr115) ?_) | (go_at_call 40; refine (HK.out _ n x y t (flipD t) _ (hN.out) (hst.pick [2, 3, 0, 1, 4, 5] (by decide))).mono ?_; rw [H1.out, pinAft_s (by decide), errO_s (by decide)]; unfold errV; rintro e Wt ⟨rfl, hst'⟩; simp only [List.filterMap_cons, List.filterMap_nil, List.getElem?_cons_zero, List.getElem?_cons_succ] at hst'; replace hst := hst'; clear hst') | (go_at_call 37; refine (held_any _ _ _ _ _ _ _ _ _ _ _ (hst.get 0 rfl)).mono ?_; rintro e Wh ⟨rfl, hnew⟩; replace hst := hst.keep hnew) | (refine L_neA (d := some 123) rfl rfl rfl eqG_Head (ev_tmp rfl) (ev_tmp rfl) (eqHead_self _ _ _ _ _) ?_; rw [bang_t]) | fail); refine ⟨by first | exact Below.refl _ _ | exact hnew.below, ?_⟩
     refine idx_g rfl ?_; go_wp2_with fail; refine ⟨by first | exact Below.refl _ _ | exact hnew.below, ?_⟩
     refine idx_nil ?_
     go_wp2_with fail
     go_roundg g
     case measure => omega
     case rel => exact ⟨i + 1, n, x, y, t, Lib.hid (by have := HI.out; omega), Lib.hid (hN.out), by go_num, hst.pick [0, 1] (by decide)⟩
   ·have HR0 := Lib.hid h0r
    clear h0r
    have hdx := dNe x0
    have hdy := dNe y0
    refine wp_region_idxT [(0, 0), (1, 0), (2, 0), (3, 2), (4, 2), (5, 2), (6, 1), (7, 2)] (by kernel_rfl) (by kernel_rfl) ?_
    replace hst := hst.drew
    refine idx_q rfl rfl ?_; go_wp2_with fail
    refine idx_q rfl rfl ?_; go_wp2_with (first | (first | (refine L_loadA (d := some 52) rfl rfl rfl (by rfl) Tryd.underlying39 rfl el_api_Head (by first | exact hst.get 0 rfl | exact hst.get 1 rfl | exact hst.get 2 rfl) (by first | exact Dig.size _ | exact hdArr_size _ _ _ _ | rfl | (simp; done)) ?_) | (refine L_loadM (d := some 52) rfl rfl rfl (by rfl) Tryd.underlying39 rfl el_api_Head (by first | assumption) (by first | exact Dig.size _ | exact hdArr_size _ _ _ _ | rfl | (simp; done)) ?_)) | fail)
    refine idx_q rfl rfl ?_; go_wp2_with fail
    refine idx_g rfl ?_; go_wp2_with fail; refine ⟨by first | exact Below.refl _ _ | exact hnew.below, ?_⟩
    refine idx_g rfl ?_; go_wp2_with (first | (refine L_idxS (d := some 55) rfl rfl rfl (by rfl) (by rfl) Tryd.underlying68 el_S_api_Digest (by first | exact hst.old (by decide) HD.out | assumption | exact hst.sl 0 rfl | exact hst.sl 1 rfl | exact hst.sl 2 rfl | exact hst.old (by decide) (by assumption)) (by omega) (by omega) ?_; intro o55 p55 ha55 hr55; (first | subst ha55 | (obtain ⟨h1, h2⟩ := some_addr ha55; subst h1; subst h2; clear ha55) | skip)) | fail); refine ⟨by first | exact Below.refl _ _ | exact hnew.below, ?_⟩
    refine idx_g rfl ?_; go_wp2_with (first | (refine L_load1 (d := some 56) rfl rfl rfl (by rfl) Tryd.underlying74 rfl (HE.out _ _ _ hr55) ?_) | (refine L_load1 (d := some 56) rfl rfl rfl (by rfl) Tryd.underlying74 rfl (by first | assumption | exact cell_of (hst.get 0 rfl) rfl | exact cell_of (hst.get 1 rfl) rfl | exact cell_of (hst.get 2 rfl) rfl) ?_) | fail); refine ⟨by first | exact Below.refl _ _ | exact hnew.below, ?_⟩
    refine idx_e rfl ?_; go_wp2_with (first | (refine L_load1 (d := some 56) rfl rfl rfl (by rfl) Tryd.underlying74 rfl (HE.out _ _ _ hr55) ?_) | (go_at_call 40; refine (HK.out _ n0 x0 y0 z0 t _ H0.out (hst.pick [2, 3, 0, 1] (by decide))).mono ?_; rw [← hr, pinAft_s HR0.out, errO_s HR0.out]; rintro e Wt ⟨rfl, hst'⟩; simp only [List.filterMap_cons, List.filterMap_nil, List.getElem?_cons_zero, List.getElem?_cons_succ] at hst'; replace hst := hst'; clear hst') | fail)
    refine idx_g rfl ?_; go_wp2_with fail; refine ⟨by first | exact Below.refl _ _ | exact hnew.below, ?_⟩
    refine idx_nil ?_
    go_upto_region 14 with (go_big_may; first
     | (go_at_call 37; refine (held_any _ _ _ _ _ _ _ _ _ _ _ (hst.get 0 rfl)).mono ?_; rintro e Wh ⟨rfl, hnew⟩; replace hst := hst.keep hnew)
     | (refine L_allocA (d := some 12) rfl rfl rfl el_api_Head ?_; (try clear hnew); intro g12 W12 hnew; replace hst := hst.trans hnew; simp only [List.cons_append, List.nil_append] at hst)
     | (refine wpl_at (.store 39 (.tmp 12) (.tmp 59)) rfl ?_; first | (refine L_storeA rfl rfl hst rfl (by rfl) (ev_tmp rfl) (by first | rfl | exact Dig.one _ | exact hdArr_all _ _ _ _ | (simp; done)) el_api_Head (by first | rfl | exact Dig.size _ | exact hdArr_size _ _ _ _ | (simp; done)) 0 rfl (by first | rfl | exact Dig.size _ | exact hdArr_size _ _ _ _ | (simp; done)) ?_; clear hst; intro WS3 hst; simp only [List.set_cons_zero, List.set_cons_succ] at hst) | (refine L_storeA rfl rfl hst rfl (by rfl) (ev_tmp rfl) (by first | rfl | exact Dig.one _ | exact hdArr_all _ _ _ _ | (simp; done)) el_api_Head (by first | rfl | exact Dig.size _ | exact hdArr_size _ _ _ _ | (simp; done)) 1 rfl (by first | rfl | exact Dig.size _ | exact hdArr_size _ _ _ _ | (simp; done)) ?_; clear hst; intro WS3 hst; simp only [List.set_cons_zero, List.set_cons_succ] at hst) | (refine L_storeA rfl rfl hst rfl (by rfl) (ev_tmp rfl) (by first | rfl | exact Dig.one _ | exact hdArr_all _ _ _ _ | (simp; done)) el_api_Head (by first | rfl | exact Dig.size _ | exact hdArr_size _ _ _ _ | (simp; done)) 2 rfl (by first | rfl | exact Dig.size _ | exact hdArr_size _ _ _ _ | (simp; done)) ?_; clear hst; intro WS3 hst; simp only [List.set_cons_zero, List.set_cons_succ] at hst) | (refine L_storeM rfl rfl hst rfl (by rfl) (ev_tmp rfl) (by first | rfl | exact Dig.one _ | exact hdArr_all _ _ _ _ | (simp; done)) el_api_Head (by first | rfl | exact Dig.size _ | exact hdArr_size _ _ _ _ | (simp; done)) 0 rfl (by first | exact of_decide_eq_true rfl | (simp; done)) ?_; clear hst; intro WS3 hst; simp only [List.set_cons_zero, List.set_cons_succ] at hst)  | (refine L_storeM rfl rfl hst rfl (by rfl) (ev_tmp rfl) (by first | rfl | exact Dig.one _ | exact hdArr_all _ _ _ _ | (simp; done)) el_api_Head (by first | rfl | exact Dig.size _ | exact hdArr_size _ _ _ _ | (simp; done)) 1 rfl (by first | exact of_decide_eq_true rfl | (simp; done)) ?_; clear hst; intro WS3 hst; simp only [List.set_cons_zero, List.set_cons_succ] at hst)  | (refine L_storeM rfl rfl hst rfl (by rfl) (ev_tmp rfl) (by first | rfl | exact Dig.one _ | exact hdArr_all _ _ _ _ | (simp; done)) el_api_Head (by first | rfl | exact Dig.size _ | exact hdArr_size _ _ _ _ | (simp; done)) 2 rfl (by first | exact of_decide_eq_true rfl | (simp; done)) ?_; clear hst; intro WS3 hst; simp only [List.set_cons_zero, List.set_cons_succ] at hst))
     | fail)
    unfold errV
    go_upto_region 16 with (first
     | (with_reducible refine L_pass (t := 71) rfl (by kernel_rfl) ?_)
     | (with_reducible refine L_pass (t := 72) rfl (by kernel_rfl) ?_)
     | (with_reducible refine L_pass (t := 73) rfl (by kernel_rfl) ?_)
     | (go_big_may; first
      | (refine L_loadA (d := some 64) rfl rfl rfl (by rfl) Tryd.underlying39 rfl el_api_Head (hst.get 4 rfl) (hdArr_size _ _ _ _) ?_; refine L_neA (d := some 65) rfl rfl rfl eqG_Head (ev_tmp rfl) (ev_tmp rfl) (eqHead_self _ _ _ _ _) ?_; rw [bang_t])
      | (refine L_loadM (d := some 93) rfl rfl rfl (by rfl) Tryd.underlying23 rfl el_api_Digest (hdArr_root (hst.get 4 rfl)) (Dig.size _) ?_; refine L_neD (d := some 94) rfl rfl rfl Tryd.underlying23 Tryd.underlying5 el_uint8 eqG_D (ev_tmp rfl) (ev_tmp rfl) ?_; rw [dNe x0])
      | (refine L_loadM (d := some 99) rfl rfl rfl (by rfl) Tryd.underlying23 rfl el_api_Digest (hdArr_map (hst.get 4 rfl)) (Dig.size _) ?_; refine L_neD (d := some 100) rfl rfl rfl Tryd.underlying23 Tryd.underlying5 el_uint8 eqG_D (ev_tmp rfl) (ev_tmp rfl) ?_; rw [dNe y0])
      | (first | (refine L_loadA (d := some 63) rfl rfl rfl (by rfl) Tryd.underlying39 rfl el_api_Head (by first | exact hst.get 0 rfl | exact hst.get 1 rfl | exact hst.get 2 rfl | exact hst.get 3 rfl | exact hst.get 4 rfl) (by first | exact Dig.size _ | exact hdArr_size _ _ _ _ | rfl | (simp; done)) ?_) | (refine L_loadM (d := some 63) rfl rfl rfl (by rfl) Tryd.underlying39 rfl el_api_Head (by first | assumption | exact hdArr_root (hst.get 0 rfl) | exact hdArr_root (hst.get 4 rfl) | exact hdArr_map (hst.get 0 rfl) | exact hdArr_map (hst.get 4 rfl)) (by first | exact Dig.size _ | exact hdArr_size _ _ _ _ | rfl | (simp; done)) ?_))
      | (refine L_load1 (d := some 78) rfl rfl rfl (by rfl) Tryd.underlying3 rfl (by first | assumption | exact cell_of (hst.get 0 rfl) hdArr_0 | exact cell_of (hst.get 0 rfl) rfl | exact cell_of (hst.get 1 rfl) hdArr_0 | exact cell_of (hst.get 1 rfl) rfl | exact cell_of (hst.get 2 rfl) hdArr_0 | exact cell_of (hst.get 2 rfl) rfl | exact cell_of (hst.get 3 rfl) hdArr_0 | exact cell_of (hst.get 3 rfl) rfl | exact cell_of (hst.get 4 rfl) hdArr_0 | exact cell_of (hst.get 4 rfl) rfl) ?_)
      | (refine L_load1 (d := some 80) rfl rfl rfl (by rfl) Tryd.underlying3 rfl (by first | assumption | exact cell_of (hst.get 0 rfl) hdArr_0 | exact cell_of (hst.get 0 rfl) rfl | exact cell_of (hst.get 1 rfl) hdArr_0 | exact cell_of (hst.get 1 rfl) rfl | exact cell_of (hst.get 2 rfl) hdArr_0 | exact cell_of (hst.get 2 rfl) rfl | exact cell_of (hst.get 3 rfl) hdArr_0 | exact cell_of (hst.get 3 rfl) rfl | exact cell_of (hst.get 4 rfl) hdArr_0 | exact cell_of (hst.get 4 rfl) rfl) ?_)
      | (refine L_load1 (d := some 85) rfl rfl rfl (by rfl) Tryd.underlying3 rfl (by first | assumption | exact cell_of (hst.get 0 rfl) hdArr_0 | exact cell_of (hst.get 0 rfl) rfl | exact cell_of (hst.get 1 rfl) hdArr_0 | exact cell_of (hst.get 1 rfl) rfl | exact cell_of (hst.get 2 rfl) hdArr_0 | exact cell_of (hst.get 2 rfl) rfl | exact cell_of (hst.get 3 rfl) hdArr_0 | exact cell_of (hst.get 3 rfl) rfl | exact cell_of (hst.get 4 rfl) hdArr_0 | exact cell_of (hst.get 4 rfl) rfl) ?_)
      | (refine L_load1 (d := some 87) rfl rfl rfl (by rfl) Tryd.underlying3 rfl (by first | assumption | exact cell_of (hst.get 0 rfl) hdArr_0 | exact cell_of (hst.get 0 rfl) rfl | exact cell_of (hst.get 1 rfl) hdArr_0 | exact cell_of (hst.get 1 rfl) rfl | exact cell_of (hst.get 2 rfl) hdArr_0 | exact cell_of (hst.get 2 rfl) rfl | exact cell_of (hst.get 3 rfl) hdArr_0 | exact cell_of (hst.get 3 rfl) rfl | exact cell_of (hst.get 4 rfl) hdArr_0 | exact cell_of (hst.get 4 rfl) rfl) ?_)
      | (first | (refine L_loadA (d := some 91) rfl rfl rfl (by rfl) Tryd.underlying23 rfl el_api_Digest (by first | exact hst.get 0 rfl | exact hst.get 1 rfl | exact hst.get 2 rfl | exact hst.get 3 rfl | exact hst.get 4 rfl) (by first | exact Dig.size _ | exact hdArr_size _ _ _ _ | rfl | (simp; done)) ?_) | (refine L_loadM (d := some 91) rfl rfl rfl (by rfl) Tryd.underlying23 rfl el_api_Digest (by first | assumption | exact hdArr_root (hst.get 0 rfl) | exact hdArr_root (hst.get 4 rfl) | exact hdArr_map (hst.get 0 rfl) | exact hdArr_map (hst.get 4 rfl)) (by first | exact Dig.size _ | exact hdArr_size _ _ _ _ | rfl | (simp; done)) ?_))
      | (first | (refine L_loadA (d := some 97) rfl rfl rfl (by rfl) Tryd.underlying23 rfl el_api_Digest (by first | exact hst.get 0 rfl | exact hst.get 1 rfl | exact hst.get 2 rfl | exact hst.get 3 rfl | exact hst.get 4 rfl) (by first | exact Dig.size _ | exact hdArr_size _ _ _ _ | rfl | (simp; done)) ?_) | (refine L_loadM (d := some 97) rfl rfl rfl (by rfl) Tryd.underlying23 rfl el_api_Digest (by first | assumption | exact hdArr_root (hst.get 0 rfl) | exact hdArr_root (hst.get 4 rfl) | exact hdArr_map (hst.get 0 rfl) | exact hdArr_map (hst.get 4 rfl)) (by first | exact Dig.size _ | exact hdArr_size _ _ _ _ | rfl | (simp; done)) ?_))
      | fail))
    go_upto_region 17 with (go_big_may; first
     | (first | (refine L_loadA (d := some 104) rfl rfl rfl (by rfl) Tryd.underlying39 rfl el_api_Head (by first | exact hst.get 0 rfl | exact hst.get 1 rfl | exact hst.get 2 rfl | exact hst.get 3 rfl | exact hst.get 4 rfl) (by first | exact Dig.size _ | exact hdArr_size _ _ _ _ | rfl | (simp; done)) ?_) | (refine L_loadM (d := some 104) rfl rfl rfl (by rfl) Tryd.underlying39 rfl el_api_Head (by first | assumption) (by first | exact Dig.size _ | exact hdArr_size _ _ _ _ | rfl | (simp; done)) ?_))
     | (refine L_allocA (d := some 13) rfl rfl rfl el_api_Head ?_; (try clear hnew); intro g13 W13 hnew; replace hst := hst.trans hnew; simp only [List.cons_append, List.nil_append] at hst)
     | (refine wpl_at (.store 39 (.tmp 13) (.tmp 104)) rfl ?_; first | (refine L_storeA rfl rfl hst rfl (by rfl) (ev_tmp rfl) (by first | rfl | exact Dig.one _ | exact hdArr_all _ _ _ _ | (simp; done)) el_api_Head (by first | rfl | exact Dig.size _ | exact hdArr_size _ _ _ _ | (simp; done)) 0 rfl (by first | rfl | exact Dig.size _ | exact hdArr_size _ _ _ _ | (simp; done)) ?_; clear hst; intro WS2 hst; simp only [List.set_cons_zero, List.set_cons_succ, hdArr_flip' _ _ _ _] at hst) | (refine L_storeA rfl rfl hst rfl (by rfl) (ev_tmp rfl) (by first | rfl | exact Dig.one _ | exact hdArr_all _ _ _ _ | (simp; done)) el_api_Head (by first | rfl | exact Dig.size _ | exact hdArr_size _ _ _ _ | (simp; done)) 1 rfl (by first | rfl | exact Dig.size _ | exact hdArr_size _ _ _ _ | (simp; done)) ?_; clear hst; intro WS2 hst; simp only [List.set_cons_zero, List.set_cons_succ, hdArr_flip' _ _ _ _] at hst) | (refine L_storeA rfl rfl hst rfl (by rfl) (ev_tmp rfl) (by first | rfl | exact Dig.one _ | exact hdArr_all _ _ _ _ | (simp; done)) el_api_Head (by first | rfl | exact Dig.size _ | exact hdArr_size _ _ _ _ | (simp; done)) 2 rfl (by first | rfl | exact Dig.size _ | exact hdArr_size _ _ _ _ | (simp; done)) ?_; clear hst; intro WS2 hst; simp only [List.set_cons_zero, List.set_cons_succ, hdArr_flip' _ _ _ _] at hst) | (refine L_storeA rfl rfl hst rfl (by rfl) (ev_tmp rfl) (by first | rfl | exact Dig.one _ | exact hdArr_all _ _ _ _ | (simp; done)) el_api_Head (by first | rfl | exact Dig.size _ | exact hdArr_size _ _ _ _ | (simp; done)) 3 rfl (by first | rfl | exact Dig.size _ | exact hdArr_size _ _ _ _ | (simp; done)) ?_; clear hst; intro WS2 hst; simp only [List.set_cons_zero, List.set_cons_succ, hdArr_flip' _ _ _ _] at hst) | (refine L_storeA rfl rfl hst rfl (by rfl) (ev_tmp rfl) (by first | rfl | exact Dig.one _ | exact hdArr_all _ _ _ _ | (simp; done)) el_api_Head (by first | rfl | exact Dig.size _ | exact hdArr_size _ _ _ _ | (simp; done)) 4 rfl (by first | rfl | exact Dig.size _ | exact hdArr_size _ _ _ _ | (simp; done)) ?_; clear hst; intro WS2 hst; simp only [List.set_cons_zero, List.set_cons_succ, hdArr_flip' _ _ _ _] at hst) | (refine L_storeM rfl rfl hst rfl (by rfl) (ev_tmp rfl) (by first | rfl | exact Dig.one _ | exact hdArr_all _ _ _ _ | (simp; done)) el_api_Head (by first | rfl | exact Dig.size _ | exact hdArr_size _ _ _ _ | (simp; done)) 0 rfl (by first | exact of_decide_eq_true rfl | (simp; done)) ?_; clear hst; intro WS2 hst; simp only [List.set_cons_zero, List.set_cons_succ, hdArr_flip' _ _ _ _] at hst)  | (refine L_storeM rfl rfl hst rfl (by rfl) (ev_tmp rfl) (by first | rfl | exact Dig.one _ | exact hdArr_all _ _ _ _ | (simp; done)) el_api_Head (by first | rfl | exact Dig.size _ | exact hdArr_size _ _ _ _ | (simp; done)) 1 rfl (by first | exact of_decide_eq_true rfl | (simp; done)) ?_; clear hst; intro WS2 hst; simp only [List.set_cons_zero, List.set_cons_succ, hdArr_flip' _ _ _ _] at hst)  | (refine L_storeM rfl rfl hst rfl (by rfl) (ev_tmp rfl) (by first | rfl | exact Dig.one _ | exact hdArr_all _ _ _ _ | (simp; done)) el_api_Head (by first | rfl | exact Dig.size _ | exact hdArr_size _ _ _ _ | (simp; done)) 2 rfl (by first | exact of_decide_eq_true rfl | (simp; done)) ?_; clear hst; intro WS2 hst; simp only [List.set_cons_zero, List.set_cons_succ, hdArr_flip' _ _ _ _] at hst)  | (refine L_storeM rfl rfl hst rfl (by rfl) (ev_tmp rfl) (by first | rfl | exact Dig.one _ | exact hdArr_all _ _ _ _ | (simp; done)) el_api_Head (by first | rfl | exact Dig.size _ | exact hdArr_size _ _ _ _ | (simp; done)) 3 rfl (by first | exact of_decide_eq_true rfl | (simp; done)) ?_; clear hst; intro WS2 hst; simp only [List.set_cons_zero, List.set_cons_succ, hdArr_flip' _ _ _ _] at hst)  | (refine L_storeM rfl rfl hst rfl (by rfl) (ev_tmp rfl) (by first | rfl | exact Dig.one _ | exact hdArr_all _ _ _ _ | (simp; done)) el_api_Head (by first | rfl | exact Dig.size _ | exact hdArr_size _ _ _ _ | (simp; done)) 4 rfl (by first | exact of_decide_eq_true rfl | (simp; done)) ?_; clear hst; intro WS2 hst; simp only [List.set_cons_zero, List.set_cons_succ, hdArr_flip' _ _ _ _] at hst))
     | fail)
    go_upto_region 18 with (go_big_may; first
     | (refine L_xor1 (d := some 108) rfl rfl rfl (ev_tmp rfl) ev_const ?_)
     | (refine L_load1 (d := some 107) rfl rfl rfl (by rfl) Tryd.underlying5 rfl (by first | assumption | exact cell_of (hst.get 0 rfl) hdArr_65 | exact cell_of (hst.get 0 rfl) rfl | exact cell_of (hst.get 1 rfl) hdArr_65 | exact cell_of (hst.get 1 rfl) rfl | exact cell_of (hst.get 2 rfl) hdArr_65 | exact cell_of (hst.get 2 rfl) rfl | exact cell_of (hst.get 3 rfl) hdArr_65 | exact cell_of (hst.get 3 rfl) rfl | exact cell_of (hst.get 4 rfl) hdArr_65 | exact cell_of (hst.get 4 rfl) rfl) ?_)
     | (refine wpl_at (.store 5 (.tmp 110) (.tmp 108)) rfl ?_; first | (refine L_store1 rfl rfl hst rfl (by rfl) (ev_tmp rfl) rfl el_uint8 0 rfl (by first | exact of_decide_eq_true rfl | omega | (simp; done) | (simp; omega)) ?_; clear hst; intro WS6 hst; simp only [List.set_cons_zero, List.set_cons_succ, hdArr_flip' _ _ _ _] at hst) | (refine L_store1 rfl rfl hst rfl (by rfl) (ev_tmp rfl) rfl el_uint8 1 rfl (by first | exact of_decide_eq_true rfl | omega | (simp; done) | (simp; omega)) ?_; clear hst; intro WS6 hst; simp only [List.set_cons_zero, List.set_cons_succ, hdArr_flip' _ _ _ _] at hst) | (refine L_store1 rfl rfl hst rfl (by rfl) (ev_tmp rfl) rfl el_uint8 2 rfl (by first | exact of_decide_eq_true rfl | omega | (simp; done) | (simp; omega)) ?_; clear hst; intro WS6 hst; simp only [List.set_cons_zero, List.set_cons_succ, hdArr_flip' _ _ _ _] at hst) | (refine L_store1 rfl rfl hst rfl (by rfl) (ev_tmp rfl) rfl el_uint8 3 rfl (by first | exact of_decide_eq_true rfl | omega | (simp; done) | (simp; omega)) ?_; clear hst; intro WS6 hst; simp only [List.set_cons_zero, List.set_cons_succ, hdArr_flip' _ _ _ _] at hst) | (refine L_store1 rfl rfl hst rfl (by rfl) (ev_tmp rfl) rfl el_uint8 4 rfl (by first | exact of_decide_eq_true rfl | omega | (simp; done) | (simp; omega)) ?_; clear hst; intro WS6 hst; simp only [List.set_cons_zero, List.set_cons_succ, hdArr_flip' _ _ _ _] at hst))
     | fail)
    have H1 := Lib.hid (show takeN key n0 x0 y0 n x y (flipD t) (f i).2.2.2 = 1 by rw [ht.out]; exact take_flip _ _ _ _ _ _ _ _)
    refine wp_region_idxT [(0, 0), (1, 0), (2, 0), (3, 2), (4, 2), (5, 2), (6, 1), (7, 2), (8, 2), (9, 0), (11, 0), (10, 2), (12, 2), (13, 2)] (by kernel_rfl) (by kernel_rfl) ?_
    replace hst := hst.drew
    refine idx_q rfl rfl ?_; go_wp2_with fail
    refine idx_q rfl rfl ?_; go_wp2_with (first | (first | (refine L_loadA (d := some 112) rfl rfl rfl (by rfl) Tryd.underlying39 rfl el_api_Head (by first | exact hst.get 0 rfl | exact hst.get 1 rfl | exact hst.get 2 rfl | exact hst.get 3 rfl | exact hst.get 4 rfl | exact hst.get 5 rfl) (by first | exact Dig.size _ | exact hdArr_size _ _ _ _ | rfl | (simp; done)) ?_) | (refine L_loadM (d := some 112) rfl rfl rfl (by rfl) Tryd.underlying39 rfl el_api_Head (by first | assumption) (by first | exact Dig.size _ | exact hdArr_size _ _ _ _ | rfl | (simp; done)) ?_)) | fail)
    refine idx_q rfl rfl ?_; go_wp2_with fail
    refine idx_g rfl ?_; go_wp2_with fail; refine ⟨by first | exact Below.refl _ _ | exact hnew.below, ?_⟩
    refine idx_g rfl ?_; go_wp2_with (first | (refine L_idxS (d := some 115) rfl rfl rfl (by rfl) (by rfl) Tryd.underlying68 el_S_api_Digest (by first | exact hst.old (by decide) HD.out | assumption | exact hst.sl 0 rfl | exact hst.sl 1 rfl | exact hst.sl 2 rfl | exact hst.sl 3 rfl | exact hst.sl 4 rfl | exact hst.sl 5 rfl | exact hst.old (by decide) (by assumption)) (by omega) (by omega) ?_; intro o115 p115 ha115 hr115; (first | subst ha115 | (obtain ⟨h1, h2⟩ := some_addr ha115; subst h1; subst h2; clear ha115) | skip)) | fail); refine ⟨by first | exact Below.refl _ _ | exact hnew.below, ?_⟩
    refine idx_g rfl ?_; go_wp2_with (first | (refine L_load1 (d := some 116) rfl rfl rfl (by rfl) Tryd.underlying74 rfl (HE.out _ _ _ hr115) ?_) | (refine L_load1 (d := some 116) rfl rfl rfl (by rfl) Tryd.underlying74 rfl (by first | assumption | exact cell_of (hst.get 0 rfl) rfl | exact cell_of (hst.get 1 rfl) rfl | exact cell_of (hst.get 2 rfl) rfl | exact cell_of (hst.get 3 rfl) rfl | exact cell_of (hst.get 4 rfl) rfl | exact cell_of (hst.get 5 rfl) rfl) ?_) | fail); refine ⟨by first | exact Below.refl _ _ | exact hnew.below, ?_⟩
    refine idx_e rfl ?_; go_wp2_with (first | (refine L_load1 (d := some 116) rfl rfl rfl (by rfl) Tryd.underlying74 rfl (HE.out _ _ _ hr115) ?_) | (go_at_call 40; refine (HK.out _ n0 x0 y0 z0 (flipD t) _ (H0.out) (hst.pick [2, 3, 0, 1, 4, 5] (by decide))).mono ?_; rw [H1.out, pinAft_s (by decide), errO_s (by decide)]; unfold errV; rintro e Wt ⟨rfl, hst'⟩; simp only [List.filterMap_cons, List.filterMap_nil, List.getElem?_cons_zero, List.getElem?_cons_succ] at hst'; replace hst := hst'; clear hst') | (go_at_call 37; refine (held_any _ _ _ _ _ _ _ _ _ _ _ (hst.get 0 rfl)).mono ?_; rintro e Wh ⟨rfl, hnew⟩; replace hst := hst.keep hnew) | (refine L_neA (d := some 123) rfl rfl rfl eqG_Head (ev_tmp rfl) (ev_tmp rfl) (eqHead_self _ _ _ _ _) ?_; rw [bang_t]) | fail)
    refine idx_g rfl ?_; go_wp2_with (first | (refine L_load1 (d := some 116) rfl rfl rfl (by rfl) Tryd.underlying74 rfl (HE.out _ _ _ hr115) ?_) | (go_at_call 40; refine (HK.out _ n0 x0 y0 z0 (flipD t) _ (H0.out) (hst.pick [2, 3, 0, 1, 4, 5] (by decide))).mono ?_; rw [H1.out, pinAft_s (by decide), errO_s (by decide)]; unfold errV; rintro e Wt ⟨rfl, hst'⟩; simp only [List.filterMap_cons, List.filterMap_nil, List.getElem?_cons_zero, List.getElem?_cons_succ] at hst'; replace hst := hst'; clear hst') | (go_at_call 37; refine (held_any _ _ _ _ _ _ _ _ _ _ _ (hst.get 0 rfl)).mono ?_; rintro e Wh ⟨rfl, hnew⟩; replace hst := hst.keep hnew) | (refine L_neA (d := some 123) rfl rfl rfl eqG_Head (ev_tmp rfl) (ev_tmp rfl) (eqHead_self _ _ _ _ _) ?_; rw [bang_t]) | fail); refine ⟨by first | exact Below.refl _ _ | exact hnew.below, ?_⟩
    refine idx_g rfl ?_; go_wp2_with fail; refine ⟨by first | exact Below.refl _ _ | exact hnew.below, ?_⟩
    refine idx_q rfl rfl ?_; go_wp2_with (first | (refine L_un (t := 120) rfl (by rfl) rfl ?_) | fail)
    refine idx_q rfl rfl ?_; go_wp2_with (first | (refine L_un (t := 122) rfl (by rfl) rfl ?_) | (first | (refine L_loadA (d := some 122) rfl rfl rfl (by rfl) Tryd.underlying39 rfl el_api_Head (by first | exact hst.get 0 rfl | exact hst.get 1 rfl | exact hst.get 2 rfl | exact hst.get 3 rfl | exact hst.get 4 rfl | exact hst.get 5 rfl) (by first | exact Dig.size _ | exact hdArr_size _ _ _ _ | rfl | (simp; done)) ?_) | (refine L_loadM (d := some 122) rfl rfl rfl (by rfl) Tryd.underlying39 rfl el_api_Head (by first | assumption) (by first | exact Dig.size _ | exact hdArr_size _ _ _ _ | rfl | (simp; done)) ?_)) | fail)
    refine idx_g rfl ?_; go_wp2_with (first | (refine L_un (t := 121) rfl (by rfl) rfl ?_) | (refine L_load1 (d := some 116) rfl rfl rfl (by rfl) Tryd.underlying74 rfl (HE.out _ _ _ hr115) ?_) | (go_at_call 40; refine (HK.out _ n0 x0 y0 z0 (flipD t) _ (H0.out) (hst.pick [2, 3, 0, 1, 4, 5] (by decide))).mono ?_; rw [H1.out, pinAft_s (by decide), errO_s (by decide)]; unfold errV; rintro e Wt ⟨rfl, hst'⟩; simp only [List.filterMap_cons, List.filterMap_nil, List.getElem?_cons_zero, List.getElem?_cons_succ] at hst'; replace hst := hst'; clear hst') | (go_at_call 37; refine (held_any _ _ _ _ _ _ _ _ _ _ _ (hst.get 0 rfl)).mono ?_; rintro e Wh ⟨rfl, hnew⟩; replace hst := hst.keep hnew) | (refine L_neA (d := some 123) rfl rfl rfl eqG_Head (ev_tmp rfl) (ev_tmp rfl) (eqHead_self _ _ _ _ _) ?_; rw [bang_t]) | fail); refine ⟨by first | exact Below.refl _ _ | exact hnew.below, ?_⟩
    refine idx_g rfl ?_; go_wp2_with (first | (refine L_un (t := 123) rfl (by rfl) rfl ?_) | (refine L_load1 (d := some 116) rfl rfl rfl (by rfl) Tryd.underlying74 rfl (HE.out _ _ _ hr115) ?_) | (go_at_call 40; refine (HK.out _ n0 x0 y0 z0 (flipD t) _ (H0.out) (hst.pick [2, 3, 0, 1, 4, 5] (by decide))).mono ?_; rw [H1.out, pinAft_s (by decide), errO_s (by decide)]; unfold errV; rintro e Wt ⟨rfl, hst'⟩; simp only [List.filterMap_cons, List.filterMap_nil, List.getElem?_cons_zero, List.getElem?_cons_succ] at hst'; replace hst := hst'; clear hst') | (go_at_call 37; refine (held_any _ _ _ _ _ _ _ _ _ _ _ (hst.get 0 rfl)).mono ?_; rintro e Wh ⟨rfl, hnew⟩; replace hst := hst.keep hnew) | (refine L_neA (d := some 123) rfl rfl rfl eqG_Head (ev_tmp rfl) (ev_tmp rfl) (eqHead_self _ _ _ _ _) ?_; rw [bang_t]) | fail); refine ⟨by first | exact Below.refl _ _ | exact hnew.below, ?_⟩
    refine idx_g rfl ?_; go_wp2_with fail; refine ⟨by first | exact Below.refl _ _ | exact hnew.below, ?_⟩
    refine idx_nil ?_
    go_wp2_with fail
    go_roundg g
    case measure => omega
    case rel => exact ⟨i + 1, n0, x0, y0, z0, Lib.hid (by have := HI.out; omega), Lib.hid (H0.out), by go_num, hst.pick [0, 1] (by decide)⟩
  ·obtain rfl : gk = 0 := by omega
   obtain rfl : i = hn := by omega
   clear hi
   go_wp2_with (first
    | fail)
   go_ret
   exact ⟨rfl, hst.forget⟩
end Go.Proofs.YtkbleigmfcleaaaDoor

namespace Go.Proofs.YtkbleigmfcleaaaDoor.pinBack
open Go.ChangeShapes Go.WideShapes Go.ChangeAt Go.RowKit
theorem own : ownKnob Tryd.prog.godebug = none := by kernel_rfl
theorem laidOut : laidOutB Tryd.prog = true := by kernel_rfl
theorem cellsD : Tryd.prog.cellsOf 23 = 32 := by kernel_rfl
theorem cells8 : Tryd.prog.cellsOf 5 = 1 := by kernel_rfl
set_option maxHeartbeats 4000000 in
set_option maxRecDepth 100000 in
theorem contract (H : Type) (enc : TypeId × Value → H) (W : World) (base : Nat) (args : Array Value) (ds gs : List (DataW H)) (before : List MemPlace)
  (hval : ∀ (j : Nat) t v, Tryd.f11.params[j]? = some t → args[j]? = some v → Value.okWide Tryd.prog W .any base t v)
  (hW : DataW.Whole enc Tryd.prog Tryd.f11.params.toList Rows.pinBackSpec.vars false W args.toList ds gs before) (hT : Tb W)
  (hz : (DataW.weightsEach Tryd.prog (Tryd.f11.params.toList ++ (OpenSpec.ofChange Rows.pinBackSpec).bare.plain.varTypes Tryd.prog) (ds ++ gs)).all (· ≤ reachBytes) = true) :
  Calls Tryd.prog 11 args W fun e W' => ∃ v, e = .returned v ∧ Rows.pinBackSpec.post enc Tryd.prog Tryd.f11 false true false false W args v W' := by
 have hW' := hW
 obtain ⟨p, q, hA0, hV, rfl, hfz, hnd⟩ := hW
 have hA : DataW.TrodAll enc Tryd.prog W 0 (fun _ => true) true Tryd.f11.params.toList args.toList ds p := hA0
 rw [Tryd.params11] at hA hval hz
 obtain ⟨v0, vs0, d0, ds0, p0, q0, hargs, rfl, rfl, h0, r0⟩ := trodAll_cons hA
 obtain ⟨v1, vs1, d1, ds1, p1, q1, rfl, rfl, rfl, h1, r1⟩ := trodAll_cons r0
 obtain ⟨v2, vs2, d2, ds2, p2, q2, rfl, rfl, rfl, h2, r2⟩ := trodAll_cons r1
 obtain ⟨rfl, rfl, rfl⟩ := trodAll_nil r2
 obtain rfl : args = #[v0, v1, v2] := by cases args; simp_all
 obtain ⟨rfl, rfl⟩ := trodVars_none hV
 obtain ⟨A0, n0, c0, a0, rfl, hs0, hd0⟩ := open_bytesS Tryd.underlying49 Tryd.underlying5 cells8 (hval 0 _ v0 rfl rfl) h0
 have hn0 : n0 * 1 ≤ 140737488351232 := by
  rcases hd0 with ⟨_, h0⟩ | ⟨el, sp, rfl, hel⟩
  ·rw [h0]; decide
  ·have := sized_slice hz (j := 0) (e := 5) rfl rfl Tryd.underlying49
   rw [show Tryd.prog.bytesOf 5 = 1 from by kernel_rfl] at this
   have := reach_le this
   rw [← hel]
   omega
 obtain ⟨A1, n1, c1, a1, rfl, hs1, hw1, hd1⟩ := open_headsS Tryd.underlying67 Tryd.underlying39 Tryd.underlying3 rfl rfl rfl Tryd.underlying23 Tryd.underlying5 cells8 cellsD rfl rfl rfl rfl (by kernel_rfl) (by kernel_rfl) (hval 1 _ v1 rfl rfl) h1
 obtain ⟨A2, n2, c2, a2, rfl, hs2, hp2, hd2⟩ := open_digss Tryd.underlying68 Tryd.underlying74 Tryd.underlying23 Tryd.underlying5 cells8 cellsD (by kernel_rfl) (hval 2 _ v2 rfl rfl) h2
 have lt0 : ∀ x ∈ p0, x.block < W.heap.size := by obtain ⟨m, hm⟩ := h0; exact DataW.trod_lt m _ _ _ hm
 have lt1 : ∀ x ∈ p1, x.block < W.heap.size := by obtain ⟨m, hm⟩ := h1; exact DataW.trod_lt m _ _ _ hm
 have lt2 : ∀ x ∈ p2, x.block < W.heap.size := by obtain ⟨m, hm⟩ := h2; exact DataW.trod_lt m _ _ _ hm
 clear hA0
 refine (pinBack_any W hT a0 A0 n0 c0 hs0 hn0 a1 A1 n1 c1 hs1 (fun q hq => wf64 (hw1 q hq)) A2 n2 c2 a2 hs2 hp2).mono fun e W' ⟨he, hst⟩ => ?_
 have bel := hst.below
 subst he
 exact ⟨_, rfl, _, _, _, [], _, [], hW', trodAll_mk1 (shut_bool Tryd.underlying4 _),
  (trodAll_cons_mk (Below.trod laidOut (by kernel_rfl) (of_decide_eq_true (by kernel_rfl)) h0 bel lt0) (trodAll_cons_mk (Below.trod laidOut (by kernel_rfl) (of_decide_eq_true (by kernel_rfl)) h1 bel lt1) (trodAll_cons_mk (Below.trod laidOut (by kernel_rfl) (of_decide_eq_true (by kernel_rfl)) h2 bel lt2) trodAll_mk0))), rfl, bel.frame _, fun h => by cases h⟩
noncomputable def laidWorld (os : Os) : World :=
 { World.holding Tryd.prog os ⟨#[], #[], []⟩ with heap := (World.holding Tryd.prog os ⟨#[], #[], []⟩).heap.modify 1 fun
   | .cells _ t frozen => .cells tblArr t frozen
   | o => o }
theorem laid_met (os : Os) : laidMet Tryd.prog Rows.pinBackRow.laid ((laidWorld os).forCall (fun _ _ => 0) ⟨#[], #[.slice none 0 0, .slice none 0 0, .slice none 0 0], []⟩).memory :=
 laidMet_of_run' 8 (by kernel_rfl) (by kernel_rfl)
theorem reads (os : Os) {H : Type} (enc : TypeId × Value → H) : ∃ places, DataW.whole enc Tryd.prog ((laidWorld os).forCall (fun _ _ => 0) ⟨#[], #[.slice none 0 0, .slice none 0 0, .slice none 0 0], []⟩).memory Tryd.f11.params.toList Rows.pinBackSpec.vars false (#[.slice none 0 0, .slice none 0 0, .slice none 0 0] : Array Value).toList 8 = some ([.nil, .nil, .nil], [], places) :=
 ⟨[], by kernel_rfl⟩
set_option maxRecDepth 100000 in
theorem lifted (os : Os) (started : os.Started) (H : Type) (enc : TypeId × Value → H) (F : Stop.Interp) :
  ReturnsInHanded {} Tryd.checked os 11 .any ((OpenSpec.ofChange Rows.pinBackSpec).preRow enc Tryd.prog Tryd.f11 Rows.pinBackRow.domain false Rows.pinBackRow.laid) (((OpenSpec.ofChange Rows.pinBackSpec).at F).post enc Tryd.prog Tryd.f11 false true false false) := by
 obtain ⟨places, hx⟩ := reads os enc
 refine returnsInHanded_of_row (C := Tryd.checked) (s := (OpenSpec.ofChange Rows.pinBackSpec)) own started (by kernel_rfl) Tryd.func11
  (witness_row_at (enc := enc) (C := Tryd.checked) false (laidWorld os) #[.slice none 0 0, .slice none 0 0, .slice none 0 0] rfl (by kernel_rfl) (by kernel_rfl) (by kernel_rfl)
   (OpenSpec.preRow_of_cond 8 hx (by kernel_rfl) (fun k hk => by cases hk) (by kernel_rfl) (laid_met os))) ?_
 intro W base args ds gs before hval hW _ _ hz hL _ _
 exact contract H enc W base args ds gs before hval hW (tb_of hL) hz
theorem said : Rows.PinBackSaid :=
 OpenClaim.holds_of_cond 11 Tryd.f11 rfl rfl rfl rfl rfl rfl rfl ⟨rfl, rfl, rfl, rfl, rfl⟩ rfl rfl rfl rfl rfl (by kernel_rfl) Tryd.func11 (by kernel_rfl)
  (of_decide_eq_true (by kernel_rfl)) (by unfold Func.isWrapper; first | (rw [if_pos (by decide +kernel)]; kernel_rfl) | (rw [if_neg (by decide +kernel)]; exact ⟨rfl, rfl⟩))
  (fun os started H enc _ F => by rw [OpenClaim.pre_eq_preRow]; exact lifted os started H enc F)
theorem plain (f : FuncId) (fn : Func) (hf : Tryd.pinned.checked.prog.funcNamed "oathbook/oathbooklaw3.PinBack" = some f) (hfn : Tryd.pinned.checked.prog.funcs[f]? = some fn) :
  true = Tryd.pinned.checked.prog.looks [] ∧ ∀ (j : Nat) t, fn.params[j]? = some t → Tryd.pinned.checked.prog.wantsStandIn t = false := by
 obtain rfl : f = 11 := Option.some.inj ((show Tryd.prog.funcNamed "oathbook/oathbooklaw3.PinBack" = some 11 by kernel_rfl).symm.trans hf) |>.symm
 obtain rfl : fn = Tryd.f11 := (Option.some.inj (Tryd.func11.symm.trans hfn)).symm
 refine ⟨by kernel_rfl, fun j t ht => ?_⟩
 rw [Tryd.params11] at ht
 have hm := Array.mem_of_getElem? ht
 have ha : ∀ t ∈ #[49, 67, 68], Tryd.prog.wantsStandIn t = false := by
  intro t ht
  simp only [List.mem_toArray, List.mem_cons, List.not_mem_nil, or_false] at ht
  rcases ht with rfl | rfl | rfl <;> kernel_rfl
 exact ha t hm
theorem proved : Rows.PinBackCardSaid :=
 Claim7.holds_tied_plain_at .later [] _ _ _ _ said (fun _ h => by cases h) (by kernel_rfl) (fun _ h => by cases h) pinBack_row_tie rfl ⟨rfl, rfl⟩ (by kernel_rfl) rfl plain (by kernel_rfl)
#print axioms proved
end Go.Proofs.YtkbleigmfcleaaaDoor.pinBack
