/-
  Proved here: the walk of the law OnceTells: it returns true. No condition.
-/
import Derived.Test.YtplpmfmnlgepoaaDoorOnceRec
import Derived.Test.YtplpmfmnlgepoaaDoorRefOnce
import Derived.Test.YtplpmfmnlgepoaaDoorErrs
import Derived.Test.YtplpmfmnlgepoaaDoorPick
namespace Go.Proofs.YtplpmfmnlgepoaaDoor
open Go.RowKit

set_option maxHeartbeats 8000000 in
set_option maxRecDepth 100000 in
theorem onceTells_any (w : World) (hT : Tb w) (hE : Eb w) (seed m : Dig) (sg : List Dig) (S : Option Addr) (n c : Nat) (hx : SlR w S n c 32 (digsL sg)) (_ : n * 32 ≤ 140737488351232) :
    Calls Tryd.prog 7 #[seed.v, m.v, .slice S n c] w fun e w' => e = .returned (.bool true) ∧ St w w' [] := by
  have hst := St.refl w
  have HT := Lib.hid hT
  have HE := Lib.hid hE
  clear hT hE
  have H3 := Lib.hid (fun w hT => onceSign_any seed m w hT)
  have H4 := Lib.hid (fun w => roncesigned_any seed m w)
  generalize onceSigN seed m = sl at H3 H4
  have H5 := Lib.hid (fun w hT => public_any seed w hT)
  have H6 := Lib.hid (fun w => roncepublic_any seed w)
  generalize onceN seed = pk at H5 H6
  by_cases h512 : n = 512
  · subst h512
    have hl : sg.length = 512 := by have := hx.1; rw [length_digsL] at this; omega
    have H7 := Lib.hid (fun w hT hs => onceRec_any m sg S c w hT hl hs)
    have H8 := Lib.hid (fun w hs => roncekey_any m sg S c w hl hs)
    clear hl
    generalize onceRecN m sg = rk at H7 H8
    go_enter Tryd.func7, Tryd.ntmps7
    go_upto_region 1 with (first
      | (refine L_boxA (d := some 3) rfl rfl rfl (ev_tmp rfl) ?_; (try clear hnew); intro g3 W3 hnew; replace hst := hst.trans hnew; simp only [List.cons_append, List.nil_append] at hst)
      | (refine L_boxA (d := some 4) rfl rfl rfl (ev_tmp rfl) ?_; (try clear hnew); intro g4 W4 hnew; replace hst := hst.trans hnew; simp only [List.cons_append, List.nil_append] at hst)
      | fail)
    go_upto_region 2 with (first
      | (go_at_call 26; (try clear hnew); refine (H3.out _ (HT.out.of hst)).mono ?_; rintro e Wk1 ⟨A16, c16, rfl, hnew⟩; replace hst := hst.trans hnew; simp only [List.cons_append, List.nil_append] at hst)
      | (first | (refine L_loadA (d := some 14) rfl rfl rfl (by rfl) Tryd.underlying23 rfl el_api_Digest (by first | exact hst.get 0 rfl | exact hst.get 1 rfl | exact hst.get 2 rfl | exact hst.get 3 rfl | exact hst.get 4 rfl) (by first | rfl | exact Dig.size _ | (simp; done)) ?_) | (refine L_loadM (d := some 14) rfl rfl rfl (by rfl) Tryd.underlying23 rfl el_api_Digest (by first | assumption) (by first | rfl | exact Dig.size _ | (simp; done)) ?_))
      | (first | (refine L_loadA (d := some 15) rfl rfl rfl (by rfl) Tryd.underlying23 rfl el_api_Digest (by first | exact hst.get 0 rfl | exact hst.get 1 rfl | exact hst.get 2 rfl | exact hst.get 3 rfl | exact hst.get 4 rfl) (by first | rfl | exact Dig.size _ | (simp; done)) ?_) | (refine L_loadM (d := some 15) rfl rfl rfl (by rfl) Tryd.underlying23 rfl el_api_Digest (by first | assumption) (by first | rfl | exact Dig.size _ | (simp; done)) ?_))
      | fail)
    go_upto_region 3 with (first
      | (go_at_call 28; (try clear hnew); refine (H4.out _).mono ?_; rintro e Wk2 ⟨A20, c20, rfl, hnew⟩; replace hst := hst.trans hnew; simp only [List.cons_append, List.nil_append] at hst)
      | (go_at_call 27; (try clear hnew); refine (sameD_any sl sl A16 A20 512 c16 512 c20 _ (hst.sl 1 rfl) (hst.sl 0 rfl)).mono ?_; rw [dEqL]; rintro e Ws ⟨rfl, hnew⟩; replace hst := hst.keep hnew)
      | (first | (refine L_loadA (d := some 18) rfl rfl rfl (by rfl) Tryd.underlying23 rfl el_api_Digest (by first | exact hst.get 0 rfl | exact hst.get 1 rfl | exact hst.get 2 rfl | exact hst.get 3 rfl | exact hst.get 4 rfl) (by first | rfl | exact Dig.size _ | (simp; done)) ?_) | (refine L_loadM (d := some 18) rfl rfl rfl (by rfl) Tryd.underlying23 rfl el_api_Digest (by first | assumption) (by first | rfl | exact Dig.size _ | (simp; done)) ?_))
      | (first | (refine L_loadA (d := some 19) rfl rfl rfl (by rfl) Tryd.underlying23 rfl el_api_Digest (by first | exact hst.get 0 rfl | exact hst.get 1 rfl | exact hst.get 2 rfl | exact hst.get 3 rfl | exact hst.get 4 rfl) (by first | rfl | exact Dig.size _ | (simp; done)) ?_) | (refine L_loadM (d := some 19) rfl rfl rfl (by rfl) Tryd.underlying23 rfl el_api_Digest (by first | assumption) (by first | rfl | exact Dig.size _ | (simp; done)) ?_))
      | fail)
    (try clear hnew)
    replace hst := hst.tailN 2
    simp only [List.drop_succ_cons, List.drop_zero] at hst
    refine wp_region_idx [(0, 2), (1, 2), (2, 2), (3, 0), (5, 0), (4, 2), (6, 2), (7, 2), (8, 2)] (by kernel_rfl) (by kernel_rfl) ?_
    replace hst := hst.drew
    refine idx_g rfl ?_; go_wp2_with fail; refine ⟨by first | exact Below.refl _ _ | exact hnew.below, ?_⟩
    refine idx_g rfl ?_; go_wp2_with fail; refine ⟨by first | exact Below.refl _ _ | exact hnew.below, ?_⟩
    refine idx_g rfl ?_; go_wp2_with fail; refine ⟨by first | exact Below.refl _ _ | exact hnew.below, ?_⟩
    refine idx_q rfl rfl ?_; go_wp2_with (first | (refine L_un (t := 25) rfl (by rfl) rfl ?_) | (first | (refine L_loadA (d := some 25) rfl rfl rfl (by rfl) Tryd.underlying23 rfl el_api_Digest (by first | exact hst.get 0 rfl | exact hst.get 1 rfl) (by first | rfl | exact Dig.size _ | (simp; done)) ?_) | (refine L_loadM (d := some 25) rfl rfl rfl (by rfl) Tryd.underlying23 rfl el_api_Digest (by first | assumption) (by first | rfl | exact Dig.size _ | (simp; done)) ?_)) | fail)
    refine idx_q rfl rfl ?_; go_wp2_with (first | (refine L_un (t := 27) rfl (by rfl) rfl ?_) | (first | (refine L_loadA (d := some 27) rfl rfl rfl (by rfl) Tryd.underlying23 rfl el_api_Digest (by first | exact hst.get 0 rfl | exact hst.get 1 rfl) (by first | rfl | exact Dig.size _ | (simp; done)) ?_) | (refine L_loadM (d := some 27) rfl rfl rfl (by rfl) Tryd.underlying23 rfl el_api_Digest (by first | assumption) (by first | rfl | exact Dig.size _ | (simp; done)) ?_)) | fail)
    refine idx_g rfl ?_; go_wp2_with (first | (refine L_un (t := 26) rfl (by rfl) rfl ?_) | (go_at_call 29; (try clear hnew); refine (H5.out _ (HT.out.of hst)).mono ?_; rintro e Wk3 ⟨rfl, hnew⟩; replace hst := hst.keep hnew) | (go_at_call 30; (try clear hnew); refine (H6.out _).mono ?_; rintro e Wk4 ⟨rfl, hnew⟩; replace hst := hst.keep hnew) | fail); refine ⟨by first | exact Below.refl _ _ | exact hnew.below, ?_⟩
    refine idx_g rfl ?_; go_wp2_with (first | (refine L_un (t := 28) rfl (by rfl) rfl ?_) | (go_at_call 29; (try clear hnew); refine (H5.out _ (HT.out.of hst)).mono ?_; rintro e Wk3 ⟨rfl, hnew⟩; replace hst := hst.keep hnew) | (go_at_call 30; (try clear hnew); refine (H6.out _).mono ?_; rintro e Wk4 ⟨rfl, hnew⟩; replace hst := hst.keep hnew) | fail); refine ⟨by first | exact Below.refl _ _ | exact hnew.below, ?_⟩
    refine idx_g rfl ?_; go_wp2_with (first | (refine L_un (t := 29) rfl (by rfl) rfl ?_) | (go_at_call 29; (try clear hnew); refine (H5.out _ (HT.out.of hst)).mono ?_; rintro e Wk3 ⟨rfl, hnew⟩; replace hst := hst.keep hnew) | (go_at_call 30; (try clear hnew); refine (H6.out _).mono ?_; rintro e Wk4 ⟨rfl, hnew⟩; replace hst := hst.keep hnew) | (refine L_neD (d := some 29) rfl rfl rfl Tryd.underlying23 Tryd.underlying5 el_uint8 eqG_D (ev_tmp rfl) (ev_tmp rfl) ?_; (try rw [dNe _])) | fail); refine ⟨by first | exact Below.refl _ _ | exact hnew.below, ?_⟩
    refine idx_g rfl ?_; go_wp2_with (first | (first | (refine L_pickF (d := some 30) rfl rfl rfl (ev_tmp rfl) (ev_tmp rfl) ?_) | (refine L_pickT (d := some 30) rfl rfl rfl (ev_tmp rfl) ev_const ?_)) | fail); refine ⟨by first | exact Below.refl _ _ | exact hnew.below, ?_⟩
    refine idx_nil ?_
    (try clear hnew)
    go_upto_region 6 with (first
      | fail)
    go_upto_region 7 with (first
      | (refine L_allocA (d := some 10) rfl rfl rfl el_api_Digest ?_; (try clear hnew); intro g10 W10 hnew; replace hst := hst.trans hnew; simp only [List.cons_append, List.nil_append] at hst)
      | fail)
    go_upto_region 9 with (first
      | fail)
    go_upto_region 10 with (first
      | (go_at_call 31; (try clear hnew); refine (H8.out _ (hst.old (by decide) hx)).mono ?_; rintro e Wk5 ⟨rfl, hnew⟩; replace hst := hst.keep hnew)
      | (first | (refine L_loadA (d := some 34) rfl rfl rfl (by rfl) Tryd.underlying23 rfl el_api_Digest (by first | exact hst.get 0 rfl | exact hst.get 1 rfl | exact hst.get 2 rfl | exact hst.get 3 rfl) (by first | rfl | exact Dig.size _ | (simp; done)) ?_) | (refine L_loadM (d := some 34) rfl rfl rfl (by rfl) Tryd.underlying23 rfl el_api_Digest (by first | assumption) (by first | rfl | exact Dig.size _ | (simp; done)) ?_))
      | (refine wpl_at (.store 23 (.tmp 10) (.tmp 36)) rfl ?_; first | (refine L_storeA rfl rfl hst rfl (by rfl) (ev_tmp rfl) (by first | rfl | exact Dig.one _ | (simp; done)) el_api_Digest (by first | rfl | exact Dig.size _ | (simp; done)) 0 rfl (by first | rfl | exact Dig.size _ | (simp; done)) ?_; clear hst; intro WS3 hst; simp only [List.set_cons_zero, List.set_cons_succ] at hst) | (refine L_storeA rfl rfl hst rfl (by rfl) (ev_tmp rfl) (by first | rfl | exact Dig.one _ | (simp; done)) el_api_Digest (by first | rfl | exact Dig.size _ | (simp; done)) 1 rfl (by first | rfl | exact Dig.size _ | (simp; done)) ?_; clear hst; intro WS3 hst; simp only [List.set_cons_zero, List.set_cons_succ] at hst) | (refine L_storeA rfl rfl hst rfl (by rfl) (ev_tmp rfl) (by first | rfl | exact Dig.one _ | (simp; done)) el_api_Digest (by first | rfl | exact Dig.size _ | (simp; done)) 2 rfl (by first | rfl | exact Dig.size _ | (simp; done)) ?_; clear hst; intro WS3 hst; simp only [List.set_cons_zero, List.set_cons_succ] at hst) | (refine L_storeA rfl rfl hst rfl (by rfl) (ev_tmp rfl) (by first | rfl | exact Dig.one _ | (simp; done)) el_api_Digest (by first | rfl | exact Dig.size _ | (simp; done)) 3 rfl (by first | rfl | exact Dig.size _ | (simp; done)) ?_; clear hst; intro WS3 hst; simp only [List.set_cons_zero, List.set_cons_succ] at hst) | (refine L_storeM rfl rfl hst rfl (by rfl) (ev_tmp rfl) (by first | rfl | exact Dig.one _ | (simp; done)) el_api_Digest (by first | rfl | exact Dig.size _ | (simp; done)) 0 rfl (by first | exact of_decide_eq_true rfl | (simp; done)) ?_; clear hst; intro WS3 hst; simp only [List.set_cons_zero, List.set_cons_succ] at hst)  | (refine L_storeM rfl rfl hst rfl (by rfl) (ev_tmp rfl) (by first | rfl | exact Dig.one _ | (simp; done)) el_api_Digest (by first | rfl | exact Dig.size _ | (simp; done)) 1 rfl (by first | exact of_decide_eq_true rfl | (simp; done)) ?_; clear hst; intro WS3 hst; simp only [List.set_cons_zero, List.set_cons_succ] at hst)  | (refine L_storeM rfl rfl hst rfl (by rfl) (ev_tmp rfl) (by first | rfl | exact Dig.one _ | (simp; done)) el_api_Digest (by first | rfl | exact Dig.size _ | (simp; done)) 2 rfl (by first | exact of_decide_eq_true rfl | (simp; done)) ?_; clear hst; intro WS3 hst; simp only [List.set_cons_zero, List.set_cons_succ] at hst)  | (refine L_storeM rfl rfl hst rfl (by rfl) (ev_tmp rfl) (by first | rfl | exact Dig.one _ | (simp; done)) el_api_Digest (by first | rfl | exact Dig.size _ | (simp; done)) 3 rfl (by first | exact of_decide_eq_true rfl | (simp; done)) ?_; clear hst; intro WS3 hst; simp only [List.set_cons_zero, List.set_cons_succ] at hst))
      | fail)
    go_upto_region 11 with (first
      | (go_at_call 32; (try clear hnew); refine (H7.out _ (HT.out.of hst) (hst.old (by decide) hx)).mono ?_; rintro e Wk6 ⟨rfl, hnew⟩; replace hst := hst.keep hnew)
      | (first | (refine L_loadA (d := some 38) rfl rfl rfl (by rfl) Tryd.underlying23 rfl el_api_Digest (by first | exact hst.get 0 rfl | exact hst.get 1 rfl | exact hst.get 2 rfl | exact hst.get 3 rfl) (by first | rfl | exact Dig.size _ | (simp; done)) ?_) | (refine L_loadM (d := some 38) rfl rfl rfl (by rfl) Tryd.underlying23 rfl el_api_Digest (by first | assumption) (by first | rfl | exact Dig.size _ | (simp; done)) ?_))
      | (refine L_allocA (d := some 11) rfl rfl rfl el_api_Digest ?_; (try clear hnew); intro g11 W11 hnew; replace hst := hst.trans hnew; simp only [List.cons_append, List.nil_append] at hst)
      | (refine wpl_at (.store 23 (.tmp 11) (.tmp 41)) rfl ?_; first | (refine L_storeA rfl rfl hst rfl (by rfl) (ev_tmp rfl) (by first | rfl | exact Dig.one _ | (simp; done)) el_api_Digest (by first | rfl | exact Dig.size _ | (simp; done)) 0 rfl (by first | rfl | exact Dig.size _ | (simp; done)) ?_; clear hst; intro WS7 hst; simp only [List.set_cons_zero, List.set_cons_succ] at hst) | (refine L_storeA rfl rfl hst rfl (by rfl) (ev_tmp rfl) (by first | rfl | exact Dig.one _ | (simp; done)) el_api_Digest (by first | rfl | exact Dig.size _ | (simp; done)) 1 rfl (by first | rfl | exact Dig.size _ | (simp; done)) ?_; clear hst; intro WS7 hst; simp only [List.set_cons_zero, List.set_cons_succ] at hst) | (refine L_storeA rfl rfl hst rfl (by rfl) (ev_tmp rfl) (by first | rfl | exact Dig.one _ | (simp; done)) el_api_Digest (by first | rfl | exact Dig.size _ | (simp; done)) 2 rfl (by first | rfl | exact Dig.size _ | (simp; done)) ?_; clear hst; intro WS7 hst; simp only [List.set_cons_zero, List.set_cons_succ] at hst) | (refine L_storeA rfl rfl hst rfl (by rfl) (ev_tmp rfl) (by first | rfl | exact Dig.one _ | (simp; done)) el_api_Digest (by first | rfl | exact Dig.size _ | (simp; done)) 3 rfl (by first | rfl | exact Dig.size _ | (simp; done)) ?_; clear hst; intro WS7 hst; simp only [List.set_cons_zero, List.set_cons_succ] at hst) | (refine L_storeM rfl rfl hst rfl (by rfl) (ev_tmp rfl) (by first | rfl | exact Dig.one _ | (simp; done)) el_api_Digest (by first | rfl | exact Dig.size _ | (simp; done)) 0 rfl (by first | exact of_decide_eq_true rfl | (simp; done)) ?_; clear hst; intro WS7 hst; simp only [List.set_cons_zero, List.set_cons_succ] at hst)  | (refine L_storeM rfl rfl hst rfl (by rfl) (ev_tmp rfl) (by first | rfl | exact Dig.one _ | (simp; done)) el_api_Digest (by first | rfl | exact Dig.size _ | (simp; done)) 1 rfl (by first | exact of_decide_eq_true rfl | (simp; done)) ?_; clear hst; intro WS7 hst; simp only [List.set_cons_zero, List.set_cons_succ] at hst)  | (refine L_storeM rfl rfl hst rfl (by rfl) (ev_tmp rfl) (by first | rfl | exact Dig.one _ | (simp; done)) el_api_Digest (by first | rfl | exact Dig.size _ | (simp; done)) 2 rfl (by first | exact of_decide_eq_true rfl | (simp; done)) ?_; clear hst; intro WS7 hst; simp only [List.set_cons_zero, List.set_cons_succ] at hst)  | (refine L_storeM rfl rfl hst rfl (by rfl) (ev_tmp rfl) (by first | rfl | exact Dig.one _ | (simp; done)) el_api_Digest (by first | rfl | exact Dig.size _ | (simp; done)) 3 rfl (by first | exact of_decide_eq_true rfl | (simp; done)) ?_; clear hst; intro WS7 hst; simp only [List.set_cons_zero, List.set_cons_succ] at hst))
      | fail)
    go_upto_region 12 with (first
      | (go_at_call 11; (try clear hnew); refine (sError_nil _).mono ?_; rintro e Wk7 ⟨rfl, hnew⟩; replace hst := hst.keep hnew)
      | fail)
    go_wp2_with (first
      | (first | (refine L_loadA (d := some 48) rfl rfl rfl (by rfl) Tryd.underlying23 rfl el_api_Digest (by first | exact hst.get 0 rfl | exact hst.get 1 rfl | exact hst.get 2 rfl | exact hst.get 3 rfl) (by first | rfl | exact Dig.size _ | (simp; done)) ?_) | (refine L_loadM (d := some 48) rfl rfl rfl (by rfl) Tryd.underlying23 rfl el_api_Digest (by first | assumption) (by first | rfl | exact Dig.size _ | (simp; done)) ?_))
      | (first | (refine L_loadA (d := some 49) rfl rfl rfl (by rfl) Tryd.underlying23 rfl el_api_Digest (by first | exact hst.get 0 rfl | exact hst.get 1 rfl | exact hst.get 2 rfl | exact hst.get 3 rfl) (by first | rfl | exact Dig.size _ | (simp; done)) ?_) | (refine L_loadM (d := some 49) rfl rfl rfl (by rfl) Tryd.underlying23 rfl el_api_Digest (by first | assumption) (by first | rfl | exact Dig.size _ | (simp; done)) ?_))
      | (refine L_eqD (d := some 50) rfl rfl rfl Tryd.underlying23 Tryd.underlying5 el_uint8 eqG_D (ev_tmp rfl) (ev_tmp rfl) ?_; (try rw [dEq _]))
      | (first | (refine L_pickF (d := some 51) rfl rfl rfl (ev_tmp rfl) ev_const ?_) | (refine L_pickT (d := some 51) rfl rfl rfl (ev_tmp rfl) (ev_tmp rfl) ?_))
      | fail)
    go_ret
    exact ⟨rfl, hst.forget⟩
  · have h1 : ((n : Int) != 512) = true := by rw [bne_iff_ne]; omega
    go_enter Tryd.func7, Tryd.ntmps7
    go_upto_region 1 with (first
      | (refine L_boxA (d := some 3) rfl rfl rfl (ev_tmp rfl) ?_; (try clear hnew); intro g3 W3 hnew; replace hst := hst.trans hnew; simp only [List.cons_append, List.nil_append] at hst)
      | (refine L_boxA (d := some 4) rfl rfl rfl (ev_tmp rfl) ?_; (try clear hnew); intro g4 W4 hnew; replace hst := hst.trans hnew; simp only [List.cons_append, List.nil_append] at hst)
      | fail)
    go_upto_region 2 with (first
      | (go_at_call 26; (try clear hnew); refine (H3.out _ (HT.out.of hst)).mono ?_; rintro e Wk8 ⟨A16, c16, rfl, hnew⟩; replace hst := hst.trans hnew; simp only [List.cons_append, List.nil_append] at hst)
      | (first | (refine L_loadA (d := some 14) rfl rfl rfl (by rfl) Tryd.underlying23 rfl el_api_Digest (by first | exact hst.get 0 rfl | exact hst.get 1 rfl | exact hst.get 2 rfl | exact hst.get 3 rfl | exact hst.get 4 rfl) (by first | rfl | exact Dig.size _ | (simp; done)) ?_) | (refine L_loadM (d := some 14) rfl rfl rfl (by rfl) Tryd.underlying23 rfl el_api_Digest (by first | assumption) (by first | rfl | exact Dig.size _ | (simp; done)) ?_))
      | (first | (refine L_loadA (d := some 15) rfl rfl rfl (by rfl) Tryd.underlying23 rfl el_api_Digest (by first | exact hst.get 0 rfl | exact hst.get 1 rfl | exact hst.get 2 rfl | exact hst.get 3 rfl | exact hst.get 4 rfl) (by first | rfl | exact Dig.size _ | (simp; done)) ?_) | (refine L_loadM (d := some 15) rfl rfl rfl (by rfl) Tryd.underlying23 rfl el_api_Digest (by first | assumption) (by first | rfl | exact Dig.size _ | (simp; done)) ?_))
      | fail)
    go_upto_region 3 with (first
      | (go_at_call 28; (try clear hnew); refine (H4.out _).mono ?_; rintro e Wk9 ⟨A20, c20, rfl, hnew⟩; replace hst := hst.trans hnew; simp only [List.cons_append, List.nil_append] at hst)
      | (go_at_call 27; (try clear hnew); refine (sameD_any sl sl A16 A20 512 c16 512 c20 _ (hst.sl 1 rfl) (hst.sl 0 rfl)).mono ?_; rw [dEqL]; rintro e Ws ⟨rfl, hnew⟩; replace hst := hst.keep hnew)
      | (first | (refine L_loadA (d := some 18) rfl rfl rfl (by rfl) Tryd.underlying23 rfl el_api_Digest (by first | exact hst.get 0 rfl | exact hst.get 1 rfl | exact hst.get 2 rfl | exact hst.get 3 rfl | exact hst.get 4 rfl) (by first | rfl | exact Dig.size _ | (simp; done)) ?_) | (refine L_loadM (d := some 18) rfl rfl rfl (by rfl) Tryd.underlying23 rfl el_api_Digest (by first | assumption) (by first | rfl | exact Dig.size _ | (simp; done)) ?_))
      | (first | (refine L_loadA (d := some 19) rfl rfl rfl (by rfl) Tryd.underlying23 rfl el_api_Digest (by first | exact hst.get 0 rfl | exact hst.get 1 rfl | exact hst.get 2 rfl | exact hst.get 3 rfl | exact hst.get 4 rfl) (by first | rfl | exact Dig.size _ | (simp; done)) ?_) | (refine L_loadM (d := some 19) rfl rfl rfl (by rfl) Tryd.underlying23 rfl el_api_Digest (by first | assumption) (by first | rfl | exact Dig.size _ | (simp; done)) ?_))
      | fail)
    (try clear hnew)
    replace hst := hst.tailN 2
    simp only [List.drop_succ_cons, List.drop_zero] at hst
    refine wp_region_idx [(0, 2), (1, 2), (2, 2), (3, 0), (5, 0), (4, 2), (6, 2), (7, 2), (8, 2)] (by kernel_rfl) (by kernel_rfl) ?_
    replace hst := hst.drew
    refine idx_g rfl ?_; go_wp2_with fail; refine ⟨by first | exact Below.refl _ _ | exact hnew.below, ?_⟩
    refine idx_g rfl ?_; go_wp2_with fail; refine ⟨by first | exact Below.refl _ _ | exact hnew.below, ?_⟩
    refine idx_g rfl ?_; go_wp2_with fail; refine ⟨by first | exact Below.refl _ _ | exact hnew.below, ?_⟩
    refine idx_q rfl rfl ?_; go_wp2_with (first | (refine L_un (t := 25) rfl (by rfl) rfl ?_) | (first | (refine L_loadA (d := some 25) rfl rfl rfl (by rfl) Tryd.underlying23 rfl el_api_Digest (by first | exact hst.get 0 rfl | exact hst.get 1 rfl) (by first | rfl | exact Dig.size _ | (simp; done)) ?_) | (refine L_loadM (d := some 25) rfl rfl rfl (by rfl) Tryd.underlying23 rfl el_api_Digest (by first | assumption) (by first | rfl | exact Dig.size _ | (simp; done)) ?_)) | fail)
    refine idx_q rfl rfl ?_; go_wp2_with (first | (refine L_un (t := 27) rfl (by rfl) rfl ?_) | (first | (refine L_loadA (d := some 27) rfl rfl rfl (by rfl) Tryd.underlying23 rfl el_api_Digest (by first | exact hst.get 0 rfl | exact hst.get 1 rfl) (by first | rfl | exact Dig.size _ | (simp; done)) ?_) | (refine L_loadM (d := some 27) rfl rfl rfl (by rfl) Tryd.underlying23 rfl el_api_Digest (by first | assumption) (by first | rfl | exact Dig.size _ | (simp; done)) ?_)) | fail)
    refine idx_g rfl ?_; go_wp2_with (first | (refine L_un (t := 26) rfl (by rfl) rfl ?_) | (go_at_call 29; (try clear hnew); refine (H5.out _ (HT.out.of hst)).mono ?_; rintro e Wk10 ⟨rfl, hnew⟩; replace hst := hst.keep hnew) | (go_at_call 30; (try clear hnew); refine (H6.out _).mono ?_; rintro e Wk11 ⟨rfl, hnew⟩; replace hst := hst.keep hnew) | fail); refine ⟨by first | exact Below.refl _ _ | exact hnew.below, ?_⟩
    refine idx_g rfl ?_; go_wp2_with (first | (refine L_un (t := 28) rfl (by rfl) rfl ?_) | (go_at_call 29; (try clear hnew); refine (H5.out _ (HT.out.of hst)).mono ?_; rintro e Wk10 ⟨rfl, hnew⟩; replace hst := hst.keep hnew) | (go_at_call 30; (try clear hnew); refine (H6.out _).mono ?_; rintro e Wk11 ⟨rfl, hnew⟩; replace hst := hst.keep hnew) | fail); refine ⟨by first | exact Below.refl _ _ | exact hnew.below, ?_⟩
    refine idx_g rfl ?_; go_wp2_with (first | (refine L_un (t := 29) rfl (by rfl) rfl ?_) | (go_at_call 29; (try clear hnew); refine (H5.out _ (HT.out.of hst)).mono ?_; rintro e Wk10 ⟨rfl, hnew⟩; replace hst := hst.keep hnew) | (go_at_call 30; (try clear hnew); refine (H6.out _).mono ?_; rintro e Wk11 ⟨rfl, hnew⟩; replace hst := hst.keep hnew) | (refine L_neD (d := some 29) rfl rfl rfl Tryd.underlying23 Tryd.underlying5 el_uint8 eqG_D (ev_tmp rfl) (ev_tmp rfl) ?_; (try rw [dNe _])) | fail); refine ⟨by first | exact Below.refl _ _ | exact hnew.below, ?_⟩
    refine idx_g rfl ?_; go_wp2_with (first | (first | (refine L_pickF (d := some 30) rfl rfl rfl (ev_tmp rfl) (ev_tmp rfl) ?_) | (refine L_pickT (d := some 30) rfl rfl rfl (ev_tmp rfl) ev_const ?_)) | fail); refine ⟨by first | exact Below.refl _ _ | exact hnew.below, ?_⟩
    refine idx_nil ?_
    (try clear hnew)
    go_upto_region 6 with (first
      | fail)
    go_upto_region 7 with (first
      | (refine L_allocA (d := some 10) rfl rfl rfl el_api_Digest ?_; (try clear hnew); intro g10 W10 hnew; replace hst := hst.trans hnew; simp only [List.cons_append, List.nil_append] at hst)
      | fail)
    go_upto_region 8 with (first
      | fail)
    go_upto_region 10 with (first
      | fail)
    go_upto_region 11 with (first
      | (go_at_call 32; (try clear hnew); refine (onceRec_no m _ _ _ _ h512).mono ?_; rintro e Wk12 ⟨rfl, hnew⟩; replace hst := hst.keep hnew)
      | (first | (refine L_loadA (d := some 38) rfl rfl rfl (by rfl) Tryd.underlying23 rfl el_api_Digest (by first | exact hst.get 0 rfl | exact hst.get 1 rfl | exact hst.get 2 rfl | exact hst.get 3 rfl) (by first | rfl | exact Dig.size _ | (simp; done)) ?_) | (refine L_loadM (d := some 38) rfl rfl rfl (by rfl) Tryd.underlying23 rfl el_api_Digest (by first | assumption) (by first | rfl | exact Dig.size _ | (simp; done)) ?_))
      | (refine L_allocA (d := some 11) rfl rfl rfl el_api_Digest ?_; (try clear hnew); intro g11 W11 hnew; replace hst := hst.trans hnew; simp only [List.cons_append, List.nil_append] at hst)
      | (refine wpl_at (.store 23 (.tmp 11) (.tmp 41)) rfl ?_; first | (refine L_storeA rfl rfl hst rfl (by rfl) (ev_tmp rfl) (by first | rfl | exact Dig.one _ | (simp; done)) el_api_Digest (by first | rfl | exact Dig.size _ | (simp; done)) 0 rfl (by first | rfl | exact Dig.size _ | (simp; done)) ?_; clear hst; intro WS7 hst; simp only [List.set_cons_zero, List.set_cons_succ] at hst) | (refine L_storeA rfl rfl hst rfl (by rfl) (ev_tmp rfl) (by first | rfl | exact Dig.one _ | (simp; done)) el_api_Digest (by first | rfl | exact Dig.size _ | (simp; done)) 1 rfl (by first | rfl | exact Dig.size _ | (simp; done)) ?_; clear hst; intro WS7 hst; simp only [List.set_cons_zero, List.set_cons_succ] at hst) | (refine L_storeA rfl rfl hst rfl (by rfl) (ev_tmp rfl) (by first | rfl | exact Dig.one _ | (simp; done)) el_api_Digest (by first | rfl | exact Dig.size _ | (simp; done)) 2 rfl (by first | rfl | exact Dig.size _ | (simp; done)) ?_; clear hst; intro WS7 hst; simp only [List.set_cons_zero, List.set_cons_succ] at hst) | (refine L_storeA rfl rfl hst rfl (by rfl) (ev_tmp rfl) (by first | rfl | exact Dig.one _ | (simp; done)) el_api_Digest (by first | rfl | exact Dig.size _ | (simp; done)) 3 rfl (by first | rfl | exact Dig.size _ | (simp; done)) ?_; clear hst; intro WS7 hst; simp only [List.set_cons_zero, List.set_cons_succ] at hst) | (refine L_storeM rfl rfl hst rfl (by rfl) (ev_tmp rfl) (by first | rfl | exact Dig.one _ | (simp; done)) el_api_Digest (by first | rfl | exact Dig.size _ | (simp; done)) 0 rfl (by first | exact of_decide_eq_true rfl | (simp; done)) ?_; clear hst; intro WS7 hst; simp only [List.set_cons_zero, List.set_cons_succ] at hst)  | (refine L_storeM rfl rfl hst rfl (by rfl) (ev_tmp rfl) (by first | rfl | exact Dig.one _ | (simp; done)) el_api_Digest (by first | rfl | exact Dig.size _ | (simp; done)) 1 rfl (by first | exact of_decide_eq_true rfl | (simp; done)) ?_; clear hst; intro WS7 hst; simp only [List.set_cons_zero, List.set_cons_succ] at hst)  | (refine L_storeM rfl rfl hst rfl (by rfl) (ev_tmp rfl) (by first | rfl | exact Dig.one _ | (simp; done)) el_api_Digest (by first | rfl | exact Dig.size _ | (simp; done)) 2 rfl (by first | exact of_decide_eq_true rfl | (simp; done)) ?_; clear hst; intro WS7 hst; simp only [List.set_cons_zero, List.set_cons_succ] at hst)  | (refine L_storeM rfl rfl hst rfl (by rfl) (ev_tmp rfl) (by first | rfl | exact Dig.one _ | (simp; done)) el_api_Digest (by first | rfl | exact Dig.size _ | (simp; done)) 3 rfl (by first | exact of_decide_eq_true rfl | (simp; done)) ?_; clear hst; intro WS7 hst; simp only [List.set_cons_zero, List.set_cons_succ] at hst))
      | fail)
    go_upto_region 12 with (first
      | (go_at_call 11; (try clear hnew); refine (sError_any 3 _ (HE.out.of hst)).mono ?_; rintro e Wk13 ⟨rfl, hnew⟩; replace hst := hst.keep hnew)
      | fail)
    go_wp2_with (first
      | (first | (refine L_loadA (d := some 48) rfl rfl rfl (by rfl) Tryd.underlying23 rfl el_api_Digest (by first | exact hst.get 0 rfl | exact hst.get 1 rfl | exact hst.get 2 rfl | exact hst.get 3 rfl) (by first | rfl | exact Dig.size _ | (simp; done)) ?_) | (refine L_loadM (d := some 48) rfl rfl rfl (by rfl) Tryd.underlying23 rfl el_api_Digest (by first | assumption) (by first | rfl | exact Dig.size _ | (simp; done)) ?_))
      | (first | (refine L_loadA (d := some 49) rfl rfl rfl (by rfl) Tryd.underlying23 rfl el_api_Digest (by first | exact hst.get 0 rfl | exact hst.get 1 rfl | exact hst.get 2 rfl | exact hst.get 3 rfl) (by first | rfl | exact Dig.size _ | (simp; done)) ?_) | (refine L_loadM (d := some 49) rfl rfl rfl (by rfl) Tryd.underlying23 rfl el_api_Digest (by first | assumption) (by first | rfl | exact Dig.size _ | (simp; done)) ?_))
      | (refine L_eqD (d := some 50) rfl rfl rfl Tryd.underlying23 Tryd.underlying5 el_uint8 eqG_D (ev_tmp rfl) (ev_tmp rfl) ?_; (try rw [dEq _]))
      | (first | (refine L_pickF (d := some 51) rfl rfl rfl (ev_tmp rfl) ev_const ?_) | (refine L_pickT (d := some 51) rfl rfl rfl (ev_tmp rfl) (ev_tmp rfl) ?_))
      | fail)
    go_ret
    exact ⟨rfl, hst.forget⟩
end Go.Proofs.YtplpmfmnlgepoaaDoor
