/-
  Proved here: the walk of the law TreeProves: it returns true. No condition.
-/
import Derived.Test.YtfpppmamkmaneaaDoorRooted
import Derived.Test.YtfpppmamkmaneaaDoorPath
namespace Go.Proofs.YtfpppmamkmaneaaDoor
open Go.RowKit

set_option maxHeartbeats 4000000 in
set_option maxRecDepth 100000 in
theorem treeProves_any (w : World) (hT : Tb w) (ls : List Dig) (A : Option Addr) (n c : Nat) (hx : SlR w A n c 32 (digsL ls)) (hn : n * 32 ≤ 140737488351232) (i : Int) (lo : -9223372036854775808 ≤ i) (hi : i ≤ 9223372036854775807) :
    Calls Tryd.prog 5 #[.slice A n c, .int .i64 i] w fun e w' => e = .returned (.bool true) ∧ St w w' [] := by
  have hst := St.refl w
  have HT := Lib.hid hT
  have hl : ls.length = n := by have := hx.1; rw [length_digsL] at this; omega
  have hcap := hx.2.1
  clear hT
  by_cases hin : n ≤ 256 ∧ 0 ≤ i ∧ i < (n : Int)
  case neg =>
    have h : (256 : Int) < (n : Int) ∨ ¬ (256 : Int) < (n : Int) ∧ i < 0 ∨ ¬ (256 : Int) < (n : Int) ∧ ¬ i < 0 ∧ (n : Int) ≤ i := by omega
    clear hin
    rcases h with h1 | ⟨h1, h2⟩ | ⟨h1, h2, h3⟩
    all_goals
      go_enter Tryd.func5, Tryd.ntmps5
      go_wp2_with (first
        | (go_at_call 15; refine (rooted_any _ (HT.out.of hst)).mono ?_; rintro e W13 ⟨rfl, hnew⟩; replace hst := hst.keep hnew; clear hnew)
        | fail)
      go_ret
      exact ⟨rfl, hst⟩
  case pos =>
    obtain ⟨h256, h0, hin⟩ := hin
    obtain ⟨k, rfl⟩ : ∃ k : Nat, i = (k : Int) := ⟨i.toNat, by omega⟩
    have hkn : k < n := by omega
    have h1 : ¬ (256 : Int) < (n : Int) := by omega
    have h2 : ¬ (k : Int) < 0 := by omega
    have h3 : ¬ (n : Int) ≤ (k : Int) := by omega
    have hle := long_le n k
    obtain ⟨x, hxk⟩ : ∃ x, x = ls[k]'(by omega) := ⟨_, rfl⟩
    have hfold := folded_path n ls k hl hkn
    rw [← hxk] at hfold
    have HD := Lib.hid (show decide (foldedN x k n (pathN ls k) = rootN ls) = true by rw [hfold]; simp)
    have HX := Lib.hid (show ((digsL ls).drop ((k : Int).toNat * 32)).take 32 = x.arr.toList by rw [Dig.toList, hxk]; exact digsL_at ls k (by omega))
    clear hin hfold hxk hl lo hi
    go_enter Tryd.func5, Tryd.ntmps5
    go_wp2_with (first
      | (go_at_call 15; refine (rooted_any _ (HT.out.of hst)).mono ?_; rintro e W13 ⟨rfl, hnew⟩; replace hst := hst.keep hnew; clear hnew)
      | (go_at_call 16; (try clear hnew); with_reducible refine (tRoot_any ls _ _ _ _ (HT.out.of hst) (hst.old (by decide) hx) h256).mono ?_; rintro e Wk11 ⟨rfl, hnew⟩; replace hst := hst.keep hnew)
      | (go_at_call 17; (try clear hnew); refine (tPath_any ls A n c k _ (HT.out.of hst) (hst.old (by decide) hx) h256 hkn).mono ?_; rintro e Wk12 ⟨A38, c38, rfl, hnew⟩; replace hst := hst.trans hnew; simp only [List.cons_append, List.nil_append] at hst)
      | (refine L_loadM (d := some 45) rfl rfl rfl (by rfl) Tryd.underlying25 rfl el_api_Digest (cs := x.arr) (by rw [← HX.out]; exact hr44) (Dig.size _) ?_)
      | (go_at_call 20; (try clear hnew); refine (tFold_any x (pathN ls k) A38 (longN k n) c38 k n _ (HT.out.of hst) (by first | exact hst.sl 0 rfl | exact hst.sl 1 rfl) h256 hkn rfl).mono ?_; rintro e Wk13 ⟨rfl, hnew⟩; replace hst := hst.keep hnew)
      | (refine L_allocA (d := some 6) rfl rfl rfl el_api_Digest ?_; (try clear hnew); intro g6 W6 hnew; replace hst := hst.trans hnew; simp only [List.cons_append, List.nil_append] at hst)
      | (refine wpl_at (.store 25 (.tmp 6) (.tmp 33)) rfl ?_; first | (refine L_storeA rfl rfl hst rfl (by rfl) (ev_tmp rfl) (by first | rfl | exact Dig.one _ | (simp; done)) el_api_Digest (by first | rfl | exact Dig.size _ | (simp; done)) 0 rfl (by first | rfl | exact Dig.size _ | (simp; done)) ?_; clear hst; intro WS6 hst; simp only [List.set_cons_zero, List.set_cons_succ] at hst) | (refine L_storeA rfl rfl hst rfl (by rfl) (ev_tmp rfl) (by first | rfl | exact Dig.one _ | (simp; done)) el_api_Digest (by first | rfl | exact Dig.size _ | (simp; done)) 1 rfl (by first | rfl | exact Dig.size _ | (simp; done)) ?_; clear hst; intro WS6 hst; simp only [List.set_cons_zero, List.set_cons_succ] at hst) | (refine L_storeA rfl rfl hst rfl (by rfl) (ev_tmp rfl) (by first | rfl | exact Dig.one _ | (simp; done)) el_api_Digest (by first | rfl | exact Dig.size _ | (simp; done)) 2 rfl (by first | rfl | exact Dig.size _ | (simp; done)) ?_; clear hst; intro WS6 hst; simp only [List.set_cons_zero, List.set_cons_succ] at hst) | (refine L_storeA rfl rfl hst rfl (by rfl) (ev_tmp rfl) (by first | rfl | exact Dig.one _ | (simp; done)) el_api_Digest (by first | rfl | exact Dig.size _ | (simp; done)) 3 rfl (by first | rfl | exact Dig.size _ | (simp; done)) ?_; clear hst; intro WS6 hst; simp only [List.set_cons_zero, List.set_cons_succ] at hst) | (refine L_storeM rfl rfl hst rfl (by rfl) (ev_tmp rfl) (by first | rfl | exact Dig.one _ | (simp; done)) el_api_Digest (by first | rfl | exact Dig.size _ | (simp; done)) 0 rfl (by first | exact of_decide_eq_true rfl | (simp; done)) ?_; clear hst; intro WS6 hst; simp only [List.set_cons_zero, List.set_cons_succ] at hst)  | (refine L_storeM rfl rfl hst rfl (by rfl) (ev_tmp rfl) (by first | rfl | exact Dig.one _ | (simp; done)) el_api_Digest (by first | rfl | exact Dig.size _ | (simp; done)) 1 rfl (by first | exact of_decide_eq_true rfl | (simp; done)) ?_; clear hst; intro WS6 hst; simp only [List.set_cons_zero, List.set_cons_succ] at hst)  | (refine L_storeM rfl rfl hst rfl (by rfl) (ev_tmp rfl) (by first | rfl | exact Dig.one _ | (simp; done)) el_api_Digest (by first | rfl | exact Dig.size _ | (simp; done)) 2 rfl (by first | exact of_decide_eq_true rfl | (simp; done)) ?_; clear hst; intro WS6 hst; simp only [List.set_cons_zero, List.set_cons_succ] at hst)  | (refine L_storeM rfl rfl hst rfl (by rfl) (ev_tmp rfl) (by first | rfl | exact Dig.one _ | (simp; done)) el_api_Digest (by first | rfl | exact Dig.size _ | (simp; done)) 3 rfl (by first | exact of_decide_eq_true rfl | (simp; done)) ?_; clear hst; intro WS6 hst; simp only [List.set_cons_zero, List.set_cons_succ] at hst))
      | (refine L_idxS (d := some 44) rfl rfl rfl (by rfl) (by rfl) Tryd.underlying22 el_api_Digest (by first | exact hst.old (by decide) hx | assumption | exact hst.sl 0 rfl | exact hst.sl 1 rfl | exact hst.sl 2 rfl | exact hst.sl 3 rfl | exact hst.old (by decide) (by assumption)) (by omega) (by omega) ?_; intro o44 p44 ha44 hr44; (first | subst ha44 | (obtain ⟨h1, h2⟩ := some_addr ha44; subst h1; subst h2; clear ha44) | skip))
      | (first | (refine L_loadA (d := some 45) rfl rfl rfl (by rfl) Tryd.underlying25 rfl el_api_Digest (by first | exact hst.get 0 rfl | exact hst.get 1 rfl | exact hst.get 2 rfl | exact hst.get 3 rfl) (by first | rfl | exact Dig.size _ | (simp; done)) ?_) | (refine L_loadM (d := some 45) rfl rfl rfl (by rfl) Tryd.underlying25 rfl el_api_Digest (by first | assumption) (by first | rfl | exact Dig.size _ | (simp; done)) ?_))
      | (refine L_allocA (d := some 10) rfl rfl rfl el_api_Digest ?_; (try clear hnew); intro g10 W10 hnew; replace hst := hst.trans hnew; simp only [List.cons_append, List.nil_append] at hst)
      | (refine wpl_at (.store 25 (.tmp 10) (.tmp 51)) rfl ?_; first | (refine L_storeA rfl rfl hst rfl (by rfl) (ev_tmp rfl) (by first | rfl | exact Dig.one _ | (simp; done)) el_api_Digest (by first | rfl | exact Dig.size _ | (simp; done)) 0 rfl (by first | rfl | exact Dig.size _ | (simp; done)) ?_; clear hst; intro WS13 hst; simp only [List.set_cons_zero, List.set_cons_succ] at hst) | (refine L_storeA rfl rfl hst rfl (by rfl) (ev_tmp rfl) (by first | rfl | exact Dig.one _ | (simp; done)) el_api_Digest (by first | rfl | exact Dig.size _ | (simp; done)) 1 rfl (by first | rfl | exact Dig.size _ | (simp; done)) ?_; clear hst; intro WS13 hst; simp only [List.set_cons_zero, List.set_cons_succ] at hst) | (refine L_storeA rfl rfl hst rfl (by rfl) (ev_tmp rfl) (by first | rfl | exact Dig.one _ | (simp; done)) el_api_Digest (by first | rfl | exact Dig.size _ | (simp; done)) 2 rfl (by first | rfl | exact Dig.size _ | (simp; done)) ?_; clear hst; intro WS13 hst; simp only [List.set_cons_zero, List.set_cons_succ] at hst) | (refine L_storeA rfl rfl hst rfl (by rfl) (ev_tmp rfl) (by first | rfl | exact Dig.one _ | (simp; done)) el_api_Digest (by first | rfl | exact Dig.size _ | (simp; done)) 3 rfl (by first | rfl | exact Dig.size _ | (simp; done)) ?_; clear hst; intro WS13 hst; simp only [List.set_cons_zero, List.set_cons_succ] at hst) | (refine L_storeM rfl rfl hst rfl (by rfl) (ev_tmp rfl) (by first | rfl | exact Dig.one _ | (simp; done)) el_api_Digest (by first | rfl | exact Dig.size _ | (simp; done)) 0 rfl (by first | exact of_decide_eq_true rfl | (simp; done)) ?_; clear hst; intro WS13 hst; simp only [List.set_cons_zero, List.set_cons_succ] at hst)  | (refine L_storeM rfl rfl hst rfl (by rfl) (ev_tmp rfl) (by first | rfl | exact Dig.one _ | (simp; done)) el_api_Digest (by first | rfl | exact Dig.size _ | (simp; done)) 1 rfl (by first | exact of_decide_eq_true rfl | (simp; done)) ?_; clear hst; intro WS13 hst; simp only [List.set_cons_zero, List.set_cons_succ] at hst)  | (refine L_storeM rfl rfl hst rfl (by rfl) (ev_tmp rfl) (by first | rfl | exact Dig.one _ | (simp; done)) el_api_Digest (by first | rfl | exact Dig.size _ | (simp; done)) 2 rfl (by first | exact of_decide_eq_true rfl | (simp; done)) ?_; clear hst; intro WS13 hst; simp only [List.set_cons_zero, List.set_cons_succ] at hst)  | (refine L_storeM rfl rfl hst rfl (by rfl) (ev_tmp rfl) (by first | rfl | exact Dig.one _ | (simp; done)) el_api_Digest (by first | rfl | exact Dig.size _ | (simp; done)) 3 rfl (by first | exact of_decide_eq_true rfl | (simp; done)) ?_; clear hst; intro WS13 hst; simp only [List.set_cons_zero, List.set_cons_succ] at hst))
      | fail)
    clear h0 h1 h2 h3
    go_loopg [12, 13] (n - 1) (fun gk s12 s13 wr => ∃ most : Nat, Hid (most + hvN gk = hvN (n - 1)) ∧ most + gk ≤ n ∧ s12 = .int .i64 (most : Int) ∧ s13 = .int .i64 (gk : Int) ∧ St w wr [.blk g10 25 (foldedN x k n (pathN ls k)).arr, .row A38 (longN k n) c38 25 32 (digsL (pathN ls k)), .blk g6 25 (rootN ls).arr])
    case atStart => exact ⟨0, Lib.hid (by omega), by omega, rfl, by congr 1; omega, hst⟩
    case round =>
      clear hst
      obtain ⟨most, HM, hmn, rfl, rfl, hst⟩ := hrel
      by_cases hg : 0 < gk
      · have HN := Lib.hid (show most + 1 + hvN (gk / 2) = hvN (n - 1) by rw [← HM.out, hvN_pos (n := gk) (by omega)]; omega)
        clear hle
        go_wp2_with (first
          | fail)
        go_roundg (gk / 2)
        case measure => omega
        case rel => exact ⟨most + 1, HN, by omega, by go_num, by first | rfl | (congr 1; omega), hst⟩
      · obtain rfl : gk = 0 := by omega
        have hm := HM.out
        rw [hvN_zero] at hm
        have hl2 : (longN k n : Int) ≤ (most : Int) := by omega
        clear hm hle HM
        go_wp2_with (first
          | (first | (refine L_loadA (d := some 73) rfl rfl rfl (by rfl) Tryd.underlying25 rfl el_api_Digest (by first | exact hst.get 0 rfl | exact hst.get 1 rfl | exact hst.get 2 rfl) (by first | rfl | exact Dig.size _ | (simp; done)) ?_) | (refine L_loadM (d := some 73) rfl rfl rfl (by rfl) Tryd.underlying25 rfl el_api_Digest (by first | assumption) (by first | rfl | exact Dig.size _ | (simp; done)) ?_))
          | (first | (refine L_loadA (d := some 74) rfl rfl rfl (by rfl) Tryd.underlying25 rfl el_api_Digest (by first | exact hst.get 0 rfl | exact hst.get 1 rfl | exact hst.get 2 rfl) (by first | rfl | exact Dig.size _ | (simp; done)) ?_) | (refine L_loadM (d := some 74) rfl rfl rfl (by rfl) Tryd.underlying25 rfl el_api_Digest (by first | assumption) (by first | rfl | exact Dig.size _ | (simp; done)) ?_))
          | (refine L_eqD (d := some 75) rfl rfl rfl Tryd.underlying25 Tryd.underlying5 el_uint8 eqG_D (ev_tmp rfl) (ev_tmp rfl) ?_; (try rw [HD.out]))
          | fail)
        go_ret
        exact ⟨rfl, hst.forget⟩
end Go.Proofs.YtfpppmamkmaneaaDoor
