/-
  Proved here: the walk of the law MacTells: it returns true. No condition.
-/
import Derived.Test.YtplpmfmnlgepoaaDoorRefExp
import Derived.Test.YtplpmfmnlgepoaaDoorFacts
import Derived.Test.YtplpmfmnlgepoaaDoorErrs
import Derived.Test.YtplpmfmnlgepoaaDoorSame
import Derived.Test.YtplpmfmnlgepoaaDoorLawC
namespace Go.Proofs.YtplpmfmnlgepoaaDoor
open Go.RowKit

set_option maxHeartbeats 4000000 in
set_option maxRecDepth 100000 in
theorem macTells_any (w : World) (hT : Tb w) (hE : Eb w) (key : List UInt8) (K : Option Addr) (m mc : Nat) (hk : SlR w K m mc 1 (bytesL key)) (hm : m * 1 ≤ 140737488351232) (b : List UInt8) (A : Option Addr) (n c : Nat) (hx : SlR w A n c 1 (bytesL b)) (hn : n * 1 ≤ 140737488351232) (z : Int) (_ : -9223372036854775808 ≤ z) (_ : z ≤ 9223372036854775807) :
    Calls Tryd.prog 4 #[.slice K m mc, .slice A n c, .int .i64 z] w fun e w' => e = .returned (.bool true) ∧ St w w' [] := by
  have hst := St.refl w
  have HT := Lib.hid hT
  have HE := Lib.hid hE
  have hne : decide (macN [] [] = zeroD) = false := by simpa using mac_nil_ne
  have H0 := Lib.hid (fun w hT => mac_any [] [] none none 0 0 0 0 w hT (SlR.nil_ w 1) (SlR.nil_ w 1) (by decide) (by decide))
  generalize macN [] [] = f0 at hne H0
  have HN := Lib.hid hne
  clear hT hE hne
  have H1 := Lib.hid (fun w hT h1 h2 => mac_any key b K A m mc n c w hT h1 h2 (by omega) (by omega))
  have H2 := Lib.hid (fun w h1 h2 => rmac_any key b K A m mc n c w h1 h2 (by omega) (by omega))
  generalize macN key b = x at H1 H2
  have HX := Lib.hid (show (!decide (x = x)) = false by simp)
  by_cases hin : 0 ≤ z ∧ z ≤ 2000
  case neg =>
    have h : z < 0 ∨ ¬ z < 0 ∧ 2000 < z := by omega
    have H3 := Lib.hid (fun w => expand_no K A m mc n c z w (by omega))
    clear hin
    rcases h with h | ⟨h, h'⟩
    all_goals
      go_enter Tryd.func4, Tryd.ntmps4
      go_upto_region 1 with (first
        | fail)
      go_upto_region 2 with (first
        | (go_at_call 13; (try clear hnew); refine (H0.out _ (HT.out.of hst)).mono ?_; rintro e Wk1 ⟨rfl, hnew⟩; replace hst := hst.keep hnew)
        | (refine L_allocA (d := some 7) rfl rfl rfl el_api_Digest ?_; (try clear hnew); intro g7 W7 hnew; replace hst := hst.trans hnew; simp only [List.cons_append, List.nil_append] at hst)
        | (refine wpl_at (.store 23 (.tmp 7) (.tmp 14)) rfl ?_; first | (refine L_storeA rfl rfl hst rfl (by rfl) (ev_tmp rfl) (by first | rfl | exact Dig.one _ | (simp; done)) el_api_Digest (by first | rfl | exact Dig.size _ | (simp; done)) 0 rfl (by first | rfl | exact Dig.size _ | (simp; done)) ?_; clear hst; intro WS2 hst; simp only [List.set_cons_zero, List.set_cons_succ] at hst) | (refine L_storeM rfl rfl hst rfl (by rfl) (ev_tmp rfl) (by first | rfl | exact Dig.one _ | (simp; done)) el_api_Digest (by first | rfl | exact Dig.size _ | (simp; done)) 0 rfl (by first | exact of_decide_eq_true rfl | (simp; done)) ?_; clear hst; intro WS2 hst; simp only [List.set_cons_zero, List.set_cons_succ] at hst))
        | fail)
      go_upto_region 4 with (first
        | (go_at_call 13; (try clear hnew); refine (H1.out _ (HT.out.of hst) (hst.old (by decide) hk) (hst.old (by decide) hx)).mono ?_; rintro e Wk2 ⟨rfl, hnew⟩; replace hst := hst.keep hnew)
        | (go_at_call 14; (try clear hnew); refine (H2.out _ (hst.old (by decide) hk) (hst.old (by decide) hx)).mono ?_; rintro e Wk3 ⟨rfl, hnew⟩; replace hst := hst.keep hnew)
        | (first | (refine L_loadA (d := some 15) rfl rfl rfl (by rfl) Tryd.underlying23 rfl el_api_Digest (by first | exact hst.get 0 rfl) (by first | rfl | exact Dig.size _ | (simp; done)) ?_) | (refine L_loadM (d := some 15) rfl rfl rfl (by rfl) Tryd.underlying23 rfl el_api_Digest (by first | assumption) (by first | rfl | exact Dig.size _ | (simp; done)) ?_))
        | (refine L_build0 (d := some 16) rfl rfl rfl Tryd.underlying23 el_uint8 el_api_Digest ?_)
        | (refine L_eqD (d := some 17) rfl rfl rfl Tryd.underlying23 Tryd.underlying5 el_uint8 eqG_D (ev_tmp rfl) (ev_tmp rfl) ?_; (try rw [HN.out]))
        | (refine L_neD (d := some 25) rfl rfl rfl Tryd.underlying23 Tryd.underlying5 el_uint8 eqG_D (ev_tmp rfl) (ev_tmp rfl) ?_; (try rw [HX.out]))
        | fail)
      go_upto_region 5 with (first
        | fail)
      go_upto_region 6 with (first
        | fail)
      go_upto_region 7 with (first
        | fail)
      go_upto_region 9 with (first
        | fail)
      go_upto_region 10 with (first
        | (go_at_call 16; (try clear hnew); refine (H3.out _).mono ?_; rintro e Wk4 ⟨rfl, hnew⟩; replace hst := hst.keep hnew)
        | fail)
      go_upto_region 11 with (first
        | (go_at_call 11; (try clear hnew); refine (sError_any 2 _ (HE.out.of hst)).mono ?_; rintro e Wk5 ⟨rfl, hnew⟩; replace hst := hst.keep hnew)
        | fail)
      go_upto_region 12 with (first
        | (go_at_call 17; (try clear hnew); refine (sameB_any [] [] none none 0 0 0 0 _ (SlR.nil_ _ 1) (SlR.nil_ _ 1)).mono ?_; rintro e Wk6 ⟨rfl, hnew⟩; replace hst := hst.keep hnew)
        | fail)
      go_wp2_with (first
        | fail)
      go_ret
      exact ⟨rfl, hst.forget⟩
  case pos =>
    obtain ⟨h0, hz⟩ := hin
    obtain ⟨k, rfl⟩ : ∃ k : Nat, z = (k : Int) := ⟨z.toNat, by omega⟩
    have h1 : ¬ (k : Int) < 0 := by omega
    have h2 : ¬ 2000 < (k : Int) := by omega
    have H3 := Lib.hid (fun w hT h1 h2 => expand_any key b K A m mc n c k w hT h1 h2 (by omega) (by omega) (by omega))
    have H4 := Lib.hid (fun w h1 h2 => rexp_any key b K A m mc n c k w h1 h2 (by omega) (by omega) (by omega))
    generalize expN key b k = y at H3 H4
    have HS := Lib.hid (show (y == y) = true by simp)
    go_enter Tryd.func4, Tryd.ntmps4
    go_upto_region 1 with (first
      | fail)
    go_upto_region 2 with (first
      | (go_at_call 13; (try clear hnew); refine (H0.out _ (HT.out.of hst)).mono ?_; rintro e Wk7 ⟨rfl, hnew⟩; replace hst := hst.keep hnew)
      | (refine L_allocA (d := some 7) rfl rfl rfl el_api_Digest ?_; (try clear hnew); intro g7 W7 hnew; replace hst := hst.trans hnew; simp only [List.cons_append, List.nil_append] at hst)
      | (refine wpl_at (.store 23 (.tmp 7) (.tmp 14)) rfl ?_; first | (refine L_storeA rfl rfl hst rfl (by rfl) (ev_tmp rfl) (by first | rfl | exact Dig.one _ | (simp; done)) el_api_Digest (by first | rfl | exact Dig.size _ | (simp; done)) 0 rfl (by first | rfl | exact Dig.size _ | (simp; done)) ?_; clear hst; intro WS2 hst; simp only [List.set_cons_zero, List.set_cons_succ] at hst) | (refine L_storeM rfl rfl hst rfl (by rfl) (ev_tmp rfl) (by first | rfl | exact Dig.one _ | (simp; done)) el_api_Digest (by first | rfl | exact Dig.size _ | (simp; done)) 0 rfl (by first | exact of_decide_eq_true rfl | (simp; done)) ?_; clear hst; intro WS2 hst; simp only [List.set_cons_zero, List.set_cons_succ] at hst))
      | fail)
    go_upto_region 4 with (first
      | (go_at_call 13; (try clear hnew); refine (H1.out _ (HT.out.of hst) (hst.old (by decide) hk) (hst.old (by decide) hx)).mono ?_; rintro e Wk8 ⟨rfl, hnew⟩; replace hst := hst.keep hnew)
      | (go_at_call 14; (try clear hnew); refine (H2.out _ (hst.old (by decide) hk) (hst.old (by decide) hx)).mono ?_; rintro e Wk9 ⟨rfl, hnew⟩; replace hst := hst.keep hnew)
      | (first | (refine L_loadA (d := some 15) rfl rfl rfl (by rfl) Tryd.underlying23 rfl el_api_Digest (by first | exact hst.get 0 rfl | exact hst.get 1 rfl | exact hst.get 2 rfl) (by first | rfl | exact Dig.size _ | (simp; done)) ?_) | (refine L_loadM (d := some 15) rfl rfl rfl (by rfl) Tryd.underlying23 rfl el_api_Digest (by first | assumption) (by first | rfl | exact Dig.size _ | (simp; done)) ?_))
      | (refine L_build0 (d := some 16) rfl rfl rfl Tryd.underlying23 el_uint8 el_api_Digest ?_)
      | (refine L_eqD (d := some 17) rfl rfl rfl Tryd.underlying23 Tryd.underlying5 el_uint8 eqG_D (ev_tmp rfl) (ev_tmp rfl) ?_; (try rw [HN.out]))
      | (refine L_neD (d := some 25) rfl rfl rfl Tryd.underlying23 Tryd.underlying5 el_uint8 eqG_D (ev_tmp rfl) (ev_tmp rfl) ?_; (try rw [HX.out]))
      | fail)
    go_upto_region 5 with (first
      | fail)
    go_upto_region 6 with (first
      | fail)
    go_upto_region 8 with (first
      | fail)
    go_upto_region 9 with (first
      | (go_at_call 15; (try clear hnew); refine (H4.out _ (hst.old (by decide) hk) (hst.old (by decide) hx)).mono ?_; rintro e Wk10 ⟨A36, c36, rfl, hnew⟩; replace hst := hst.trans hnew; simp only [List.cons_append, List.nil_append] at hst)
      | fail)
    go_upto_region 10 with (first
      | (go_at_call 16; (try clear hnew); refine (H3.out _ (HT.out.of hst) (hst.old (by decide) hk) (hst.old (by decide) hx)).mono ?_; rintro e Wk11 ⟨A41, c41, rfl, hnew⟩; replace hst := hst.trans hnew; simp only [List.cons_append, List.nil_append] at hst)
      | fail)
    go_upto_region 11 with (first
      | (go_at_call 11; (try clear hnew); refine (sError_nil _).mono ?_; rintro e Wk12 ⟨rfl, hnew⟩; replace hst := hst.keep hnew)
      | fail)
    go_upto_region 12 with (first
      | (go_at_call 17; (try clear hnew); refine (sameB_any y y A41 A36 k c41 k c36 _ (hst.sl 0 rfl) (hst.sl 1 rfl)).mono ?_; rw [HS.out]; rintro e Ws ⟨rfl, hnew⟩; replace hst := hst.keep hnew)
      | fail)
    go_wp2_with (first
      | fail)
    go_ret
    exact ⟨rfl, hst.forget⟩
end Go.Proofs.YtplpmfmnlgepoaaDoor
