/-
  Proved here: the walk of the law TreeRoots: it returns true. No condition.
-/
import Derived.Test.YtfpppmamkmaneaaDoorLeafs
import Derived.Test.YtfpppmamkmaneaaDoorRefRoot
import Derived.Test.YtfpppmamkmaneaaDoorErrs
namespace Go.Proofs.YtfpppmamkmaneaaDoor
open Go.RowKit

set_option maxHeartbeats 4000000 in
set_option maxRecDepth 100000 in
theorem treeRoots_any (w : World) (hT : Tb w) (hE : Eb w) (ls : List Dig) (A : Option Addr) (n c : Nat) (hx : SlR w A n c 32 (digsL ls)) (hn0 : n * 32 ≤ 140737488351232) (b : List UInt8) (B : Option Addr) (m d : Nat) (hy : SlR w B m d 1 (bytesL b)) (hm0 : m * 1 ≤ 140737488351232) :
    Calls Tryd.prog 10 #[.slice A n c, .slice B m d] w fun e w' => e = .returned (.bool true) ∧ St w w' [] := by
  have hst := St.refl w
  have HT := Lib.hid hT
  have HE := Lib.hid hE
  have HL := Lib.hid (show decide (leafBN b = leafBN b) = true by simp)
  clear hT hE
  by_cases hn : n ≤ 256
  · have h1 : ¬ (256 : Int) < (n : Int) := by omega
    have HR := Lib.hid (show decide (rootN ls = rootN ls) = true by simp)
    go_enter Tryd.func10, Tryd.ntmps10
    go_upto_region 1 with (first
      | fail)
    go_upto_region 2 with (first
      | fail)
    go_upto_region 3 with (first
      | (refine L_allocA (d := some 6) rfl rfl rfl el_api_Digest ?_; (try clear hnew); intro g6 W6 hnew; replace hst := hst.trans hnew; simp only [List.cons_append, List.nil_append] at hst)
      | fail)
    go_upto_region 5 with (first
      | fail)
    go_upto_region 6 with (first
      | (go_at_call 28; (try clear hnew); refine (rroot_any _ ls _ _ _ (hst.old (by decide) hx) hn).mono ?_; rintro e Wk1 ⟨rfl, hnew⟩; replace hst := hst.keep hnew)
      | (refine wpl_at (.store 25 (.tmp 6) (.tmp 14)) rfl ?_; first | (refine L_storeA rfl rfl hst rfl (by rfl) (ev_tmp rfl) (by first | rfl | exact Dig.one _ | (simp; done)) el_api_Digest (by first | rfl | exact Dig.size _ | (simp; done)) 0 rfl (by first | rfl | exact Dig.size _ | (simp; done)) ?_; clear hst; intro WS2 hst; simp only [List.set_cons_zero, List.set_cons_succ] at hst) | (refine L_storeA rfl rfl hst rfl (by rfl) (ev_tmp rfl) (by first | rfl | exact Dig.one _ | (simp; done)) el_api_Digest (by first | rfl | exact Dig.size _ | (simp; done)) 1 rfl (by first | rfl | exact Dig.size _ | (simp; done)) ?_; clear hst; intro WS2 hst; simp only [List.set_cons_zero, List.set_cons_succ] at hst) | (refine L_storeM rfl rfl hst rfl (by rfl) (ev_tmp rfl) (by first | rfl | exact Dig.one _ | (simp; done)) el_api_Digest (by first | rfl | exact Dig.size _ | (simp; done)) 0 rfl (by first | exact of_decide_eq_true rfl | (simp; done)) ?_; clear hst; intro WS2 hst; simp only [List.set_cons_zero, List.set_cons_succ] at hst)  | (refine L_storeM rfl rfl hst rfl (by rfl) (ev_tmp rfl) (by first | rfl | exact Dig.one _ | (simp; done)) el_api_Digest (by first | rfl | exact Dig.size _ | (simp; done)) 1 rfl (by first | exact of_decide_eq_true rfl | (simp; done)) ?_; clear hst; intro WS2 hst; simp only [List.set_cons_zero, List.set_cons_succ] at hst))
      | fail)
    go_upto_region 7 with (first
      | (go_at_call 16; (try clear hnew); with_reducible refine (tRoot_any ls _ _ _ _ (HT.out.of hst) (hst.old (by decide) hx) hn).mono ?_; rintro e Wk2 ⟨rfl, hnew⟩; replace hst := hst.keep hnew)
      | (refine L_allocA (d := some 7) rfl rfl rfl el_api_Digest ?_; (try clear hnew); intro g7 W7 hnew; replace hst := hst.trans hnew; simp only [List.cons_append, List.nil_append] at hst)
      | (refine wpl_at (.store 25 (.tmp 7) (.tmp 18)) rfl ?_; first | (refine L_storeA rfl rfl hst rfl (by rfl) (ev_tmp rfl) (by first | rfl | exact Dig.one _ | (simp; done)) el_api_Digest (by first | rfl | exact Dig.size _ | (simp; done)) 0 rfl (by first | rfl | exact Dig.size _ | (simp; done)) ?_; clear hst; intro WS6 hst; simp only [List.set_cons_zero, List.set_cons_succ] at hst) | (refine L_storeA rfl rfl hst rfl (by rfl) (ev_tmp rfl) (by first | rfl | exact Dig.one _ | (simp; done)) el_api_Digest (by first | rfl | exact Dig.size _ | (simp; done)) 1 rfl (by first | rfl | exact Dig.size _ | (simp; done)) ?_; clear hst; intro WS6 hst; simp only [List.set_cons_zero, List.set_cons_succ] at hst) | (refine L_storeM rfl rfl hst rfl (by rfl) (ev_tmp rfl) (by first | rfl | exact Dig.one _ | (simp; done)) el_api_Digest (by first | rfl | exact Dig.size _ | (simp; done)) 0 rfl (by first | exact of_decide_eq_true rfl | (simp; done)) ?_; clear hst; intro WS6 hst; simp only [List.set_cons_zero, List.set_cons_succ] at hst)  | (refine L_storeM rfl rfl hst rfl (by rfl) (ev_tmp rfl) (by first | rfl | exact Dig.one _ | (simp; done)) el_api_Digest (by first | rfl | exact Dig.size _ | (simp; done)) 1 rfl (by first | exact of_decide_eq_true rfl | (simp; done)) ?_; clear hst; intro WS6 hst; simp only [List.set_cons_zero, List.set_cons_succ] at hst))
      | fail)
    go_upto_region 8 with (first
      | (go_at_call 29; (try clear hnew); refine (sError_nil _).mono ?_; rintro e Wk3 ⟨rfl, hnew⟩; replace hst := hst.keep hnew)
      | fail)
    go_wp2_with (first
      | (go_at_call 30; (try clear hnew); refine (tleaf_any b _ _ _ _ (HT.out.of hst) (hst.old (by decide) hy) (by omega)).mono ?_; rintro e Wk4 ⟨rfl, hnew⟩; replace hst := hst.keep hnew)
      | (go_at_call 31; (try clear hnew); refine (rleaf_any b _ _ _ _ (hst.old (by decide) hy) (by omega)).mono ?_; rintro e Wk5 ⟨rfl, hnew⟩; replace hst := hst.keep hnew)
      | (first | (refine L_loadA (d := some 25) rfl rfl rfl (by rfl) Tryd.underlying25 rfl el_api_Digest (by first | exact hst.get 0 rfl | exact hst.get 1 rfl) (by first | rfl | exact Dig.size _ | (simp; done)) ?_) | (refine L_loadM (d := some 25) rfl rfl rfl (by rfl) Tryd.underlying25 rfl el_api_Digest (by first | assumption) (by first | rfl | exact Dig.size _ | (simp; done)) ?_))
      | (first | (refine L_loadA (d := some 26) rfl rfl rfl (by rfl) Tryd.underlying25 rfl el_api_Digest (by first | exact hst.get 0 rfl | exact hst.get 1 rfl) (by first | rfl | exact Dig.size _ | (simp; done)) ?_) | (refine L_loadM (d := some 26) rfl rfl rfl (by rfl) Tryd.underlying25 rfl el_api_Digest (by first | assumption) (by first | rfl | exact Dig.size _ | (simp; done)) ?_))
      | (refine L_eqD (d := some 27) rfl rfl rfl Tryd.underlying25 Tryd.underlying5 el_uint8 eqG_D (ev_tmp rfl) (ev_tmp rfl) ?_; (try rw [HR.out]))
      | (refine L_eqD (d := some 34) rfl rfl rfl Tryd.underlying25 Tryd.underlying5 el_uint8 eqG_D (ev_tmp rfl) (ev_tmp rfl) ?_; (try rw [HL.out]))
      | fail)
    go_ret
    exact ⟨rfl, hst.forget⟩
  · have h1 : (256 : Int) < (n : Int) := by omega
    have HR := Lib.hid (show decide (zeroD = zeroD) = true by simp)
    go_enter Tryd.func10, Tryd.ntmps10
    go_upto_region 1 with (first
      | fail)
    go_upto_region 2 with (first
      | fail)
    go_upto_region 3 with (first
      | (refine L_allocA (d := some 6) rfl rfl rfl el_api_Digest ?_; (try clear hnew); intro g6 W6 hnew; replace hst := hst.trans hnew; simp only [List.cons_append, List.nil_append] at hst)
      | fail)
    go_upto_region 4 with (first
      | fail)
    go_upto_region 6 with (first
      | fail)
    go_upto_region 7 with (first
      | (go_at_call 16; (try clear hnew); with_reducible refine (tRoot_no _ _ _ _ (by omega)).mono ?_; rintro e Wk6 ⟨rfl, hnew⟩; replace hst := hst.keep hnew)
      | (refine L_allocA (d := some 7) rfl rfl rfl el_api_Digest ?_; (try clear hnew); intro g7 W7 hnew; replace hst := hst.trans hnew; simp only [List.cons_append, List.nil_append] at hst)
      | (refine wpl_at (.store 25 (.tmp 7) (.tmp 18)) rfl ?_; first | (refine L_storeA rfl rfl hst rfl (by rfl) (ev_tmp rfl) (by first | rfl | exact Dig.one _ | (simp; done)) el_api_Digest (by first | rfl | exact Dig.size _ | (simp; done)) 0 rfl (by first | rfl | exact Dig.size _ | (simp; done)) ?_; clear hst; intro WS6 hst; simp only [List.set_cons_zero, List.set_cons_succ] at hst) | (refine L_storeA rfl rfl hst rfl (by rfl) (ev_tmp rfl) (by first | rfl | exact Dig.one _ | (simp; done)) el_api_Digest (by first | rfl | exact Dig.size _ | (simp; done)) 1 rfl (by first | rfl | exact Dig.size _ | (simp; done)) ?_; clear hst; intro WS6 hst; simp only [List.set_cons_zero, List.set_cons_succ] at hst) | (refine L_storeM rfl rfl hst rfl (by rfl) (ev_tmp rfl) (by first | rfl | exact Dig.one _ | (simp; done)) el_api_Digest (by first | rfl | exact Dig.size _ | (simp; done)) 0 rfl (by first | exact of_decide_eq_true rfl | (simp; done)) ?_; clear hst; intro WS6 hst; simp only [List.set_cons_zero, List.set_cons_succ] at hst)  | (refine L_storeM rfl rfl hst rfl (by rfl) (ev_tmp rfl) (by first | rfl | exact Dig.one _ | (simp; done)) el_api_Digest (by first | rfl | exact Dig.size _ | (simp; done)) 1 rfl (by first | exact of_decide_eq_true rfl | (simp; done)) ?_; clear hst; intro WS6 hst; simp only [List.set_cons_zero, List.set_cons_succ] at hst))
      | fail)
    go_upto_region 8 with (first
      | (go_at_call 29; (try clear hnew); refine (sError_any 4 _ (HE.out.of hst)).mono ?_; rintro e Wk7 ⟨rfl, hnew⟩; replace hst := hst.keep hnew)
      | fail)
    go_wp2_with (first
      | (go_at_call 30; (try clear hnew); refine (tleaf_any b _ _ _ _ (HT.out.of hst) (hst.old (by decide) hy) (by omega)).mono ?_; rintro e Wk8 ⟨rfl, hnew⟩; replace hst := hst.keep hnew)
      | (go_at_call 31; (try clear hnew); refine (rleaf_any b _ _ _ _ (hst.old (by decide) hy) (by omega)).mono ?_; rintro e Wk9 ⟨rfl, hnew⟩; replace hst := hst.keep hnew)
      | (first | (refine L_loadA (d := some 25) rfl rfl rfl (by rfl) Tryd.underlying25 rfl el_api_Digest (by first | exact hst.get 0 rfl | exact hst.get 1 rfl) (by first | rfl | exact Dig.size _ | (simp; done)) ?_) | (refine L_loadM (d := some 25) rfl rfl rfl (by rfl) Tryd.underlying25 rfl el_api_Digest (by first | assumption) (by first | rfl | exact Dig.size _ | (simp; done)) ?_))
      | (first | (refine L_loadA (d := some 26) rfl rfl rfl (by rfl) Tryd.underlying25 rfl el_api_Digest (by first | exact hst.get 0 rfl | exact hst.get 1 rfl) (by first | rfl | exact Dig.size _ | (simp; done)) ?_) | (refine L_loadM (d := some 26) rfl rfl rfl (by rfl) Tryd.underlying25 rfl el_api_Digest (by first | assumption) (by first | rfl | exact Dig.size _ | (simp; done)) ?_))
      | (refine L_eqD (d := some 27) rfl rfl rfl Tryd.underlying25 Tryd.underlying5 el_uint8 eqG_D (ev_tmp rfl) (ev_tmp rfl) ?_; (try rw [HR.out]))
      | (refine L_eqD (d := some 34) rfl rfl rfl Tryd.underlying25 Tryd.underlying5 el_uint8 eqG_D (ev_tmp rfl) (ev_tmp rfl) ?_; (try rw [HL.out]))
      | fail)
    go_ret
    exact ⟨rfl, hst.forget⟩
end Go.Proofs.YtfpppmamkmaneaaDoor
