/-
  Proved here: the walk of the law GrowProves: it returns true. No condition.
-/
import Derived.Test.YtfpppmamkmaneaaDoorGrowTop
set_option maxRecDepth 20000
set_option linter.unusedSimpArgs false
set_option linter.unusedVariables false
namespace Go.Proofs.YtfpppmamkmaneaaDoor
open Go.RowKit

theorem gp12 : gpN [tagD 1, tagD 2] 1 true = [tagD 2] := by
  have h2 : halfN [tagD 1, tagD 2].length = 1 := by decide
  rw [gpN_left (by decide) (by decide) (by rw [h2]; exact Nat.le_refl _), h2]
  show gpN [tagD 1] 1 true ++ [rootN [tagD 2]] = _
  rw [gpN_all [tagD 1] (m := 1) true rfl, rootN_one (tagD 2)]
  rfl
theorem pl12 : plN 2 1 true = 1 := by
  have := length_gpN 2 [tagD 1, tagD 2] 1 true rfl
  rw [gp12] at this
  exact this.symm

set_option maxHeartbeats 2000000 in
set_option maxRecDepth 100000 in
theorem grown_any (w : World) (hT : Tb w) : Calls Tryd.prog 21 #[] w fun e w' => e = .returned (.bool true) ∧ St w w' [] := by
  have hst := St.refl w
  have HT := Lib.hid hT
  have HD := Lib.hid (show digsL [tagD 1, tagD 2] = (tagD 1).arr.toList ++ (tagD 2).arr.toList by simp [digsL, Dig.toList])
  have HP := Lib.hid (show ∀ A c w, Tb w → SlR w A 2 c 32 (digsL [tagD 1, tagD 2]) → Calls Tryd.prog 22 #[.slice A 2 c, .int .i64 ((1 : Nat) : Int)] w fun e w' => ∃ O oc, e = .returned (.tuple #[.slice O 1 oc, .nilIface]) ∧ St w w' [.row O 1 oc 25 32 (tagD 2).arr.toList] from fun A c w hT hs => by
    have := gProof_any [tagD 1, tagD 2] A 2 c 1 w hT hs (by decide) (by decide) (by decide)
    rw [gp12, pl12, digsL_single] at this
    exact this)
  have HX := Lib.hid (show ((tagD 2).arr.toList.drop ((0 : Int).toNat * 32)).take 32 = (tagD 2).arr.toList by
    show ((tagD 2).arr.toList.drop 0).take 32 = _
    rw [List.drop_zero, List.take_of_length_le (by rw [Array.length_toList, Dig.size]; exact Nat.le_refl _)])
  clear hT
  go_enter Tryd.func21, Tryd.ntmps21
  go_upto_region 1 with (first
    | fail)
  go_upto_region 2 with (first
    | (refine L_build1 (d := some 4) rfl rfl rfl Tryd.underlying25 el_uint8 el_api_Digest ev_const rfl (by decide) ?_; rw [tag_1])
    | (refine L_build1 (d := some 5) rfl rfl rfl Tryd.underlying25 el_uint8 el_api_Digest ev_const rfl (by decide) ?_; rw [tag_2])
    | (go_at_call 22; (try clear hnew); refine (HP.out _ _ _ (HT.out.of hst) (by rw [HD.out]; exact hst.sl 0 rfl)).mono ?_; rintro e Wk1 ⟨O7, c7, rfl, hnew⟩; replace hst := hst.trans hnew; simp only [List.cons_append, List.nil_append] at hst)
    | (refine L_build1 (d := some 4) rfl rfl rfl Tryd.underlying25 el_uint8 el_api_Digest ev_const rfl (by decide) ?_)
    | (refine L_build1 (d := some 5) rfl rfl rfl Tryd.underlying25 el_uint8 el_api_Digest ev_const rfl (by decide) ?_)
    | (refine L_buildS (d := some 6) rfl rfl rfl [_, _] (bs_2 (ev_tmp rfl) (ev_tmp rfl)) rfl Tryd.underlying22 el_api_Digest rfl (by first | (simp [Value.cells]; done) | (simp [Value.cells, Dig.size]; done)) (by decide) (by decide) ?_; (try clear hnew); intro g6 W6 hnew; replace hst := hst.trans hnew; simp only [List.cons_append, List.nil_append] at hst; simp only [List.flatMap_cons, List.flatMap_nil, List.append_nil, Value.cells, List.toList_toArray] at hst)
    | fail)
  (try clear hnew)
  have HB2 := Lib.hid tag_2
  clear HP HD
  generalize tagD 2 = d2 at *
  go_wp2_with (first
    | (refine L_loadM (d := some 20) rfl rfl rfl (by rfl) Tryd.underlying25 rfl el_api_Digest (cs := d2.arr) (by rw [← HX.out]; exact hr19) (Dig.size _) ?_)
    | (refine L_build1 (d := some 21) rfl rfl rfl Tryd.underlying25 el_uint8 el_api_Digest ev_const rfl (by decide) ?_; rw [HB2.out])
    | (first | (refine L_pickF (d := some 16) rfl rfl rfl (ev_tmp rfl) ev_const ?_) | (refine L_pickT (d := some 16) rfl rfl rfl (ev_tmp rfl) (ev_tmp rfl) ?_))
    | (refine L_idxS (d := some 19) rfl rfl rfl (by rfl) (by rfl) Tryd.underlying22 el_api_Digest (by first | assumption | exact hst.sl 0 rfl | exact hst.sl 1 rfl | exact hst.sl 2 rfl | exact hst.old (by decide) (by assumption)) (by omega) (by omega) ?_; intro o19 p19 ha19 hr19; (first | subst ha19 | (obtain ⟨h1, h2⟩ := some_addr ha19; subst h1; subst h2; clear ha19) | skip))
    | (first | (refine L_loadA (d := some 20) rfl rfl rfl (by rfl) Tryd.underlying25 rfl el_api_Digest (by first | exact hst.get 0 rfl | exact hst.get 1 rfl | exact hst.get 2 rfl) (by first | rfl | exact Dig.size _ | (simp; done)) ?_) | (refine L_loadM (d := some 20) rfl rfl rfl (by rfl) Tryd.underlying25 rfl el_api_Digest (by first | assumption) (by first | rfl | exact Dig.size _ | (simp; done)) ?_))
    | (refine L_build1 (d := some 21) rfl rfl rfl Tryd.underlying25 el_uint8 el_api_Digest ev_const rfl (by decide) ?_)
    | (refine L_eqD (d := some 22) rfl rfl rfl Tryd.underlying25 Tryd.underlying5 el_uint8 eqG_D (ev_tmp rfl) (ev_tmp rfl) ?_; (try rw [dEq _]))
    | (first | (refine L_pickF (d := some 23) rfl rfl rfl (ev_tmp rfl) ev_const ?_) | (refine L_pickT (d := some 23) rfl rfl rfl (ev_tmp rfl) (ev_tmp rfl) ?_))
    | fail)
  go_ret
  exact ⟨rfl, hst.forget⟩

set_option maxHeartbeats 4000000 in
set_option maxRecDepth 100000 in
theorem growProves_any (w : World) (hT : Tb w) (ls : List Dig) (A : Option Addr) (n c : Nat) (hx : SlR w A n c 32 (digsL ls)) (_ : n * 32 ≤ 140737488351232) (m : Int) (_ : -9223372036854775808 ≤ m) (_ : m ≤ 9223372036854775807) :
    Calls Tryd.prog 6 #[.slice A n c, .int .i64 m] w fun e w' => e = .returned (.bool true) ∧ St w w' [] := by
  have hst := St.refl w
  have HT := Lib.hid hT
  have hl : ls.length = n := by have := hx.1; rw [length_digsL] at this; omega
  have hcap := hx.2.1
  clear hT
  by_cases hin : 1 ≤ m ∧ m ≤ (n : Int) ∧ n ≤ 256
  case neg =>
    have h : m < 1 ∨ ¬ m < 1 ∧ (n : Int) < m ∨ ¬ m < 1 ∧ ¬ (n : Int) < m ∧ 256 < (n : Int) := by omega
    clear hin hl
    rcases h with h1 | ⟨h1, h2⟩ | ⟨h1, h2, h3⟩
    all_goals
      go_enter Tryd.func6, Tryd.ntmps6
      go_upto_region 1 with (first
        | fail)
      go_upto_region 2 with (first
        | (go_at_call 21; refine (grown_any _ (HT.out.of hst)).mono ?_; rintro e W12 ⟨rfl, hnew⟩; replace hst := hst.keep hnew; clear hnew)
        | fail)
      go_upto_region 4 with (first
        | fail)
      go_upto_region 5 with (first
        | fail)
      go_wp2_with (first
        | fail)
      go_ret
      exact ⟨rfl, hst⟩
  case pos =>
    obtain ⟨h0, hmn, hn⟩ := hin
    obtain ⟨k, rfl⟩ : ∃ k : Nat, m = (k : Int) := ⟨m.toNat, by omega⟩
    have g1 : 1 ≤ k := by omega
    have g2 : k ≤ n := by omega
    have t1 : ¬ (k : Int) < 1 := by omega
    have t2 : ¬ (n : Int) < (k : Int) := by omega
    have t3 : ¬ 256 < (n : Int) := by omega
    have H1 := Lib.hid (show ((digsL ls).drop (0 * 32)).take ((k - 0) * 32) = digsL (ls.take k) by rw [digsL_cut]; rfl)
    have HP := Lib.hid (fun w hT hs => gProof_any ls A n c k w hT hs g1 g2 hn)
    have HA := Lib.hid (fun A c w hT hs => tRoot_any (ls.take k) A k c w hT hs (by omega))
    have HB := Lib.hid (fun w hT hs => tRoot_any ls A n c w hT hs hn)
    have HC := Lib.hid (show ∀ O oc w, Tb w → SlR w O (plN n k true) oc 32 (digsL (gpN ls k true)) → Calls Tryd.prog 23 #[.int .i64 (k : Int), .int .i64 (n : Int), (rootN (ls.take k)).v, (rootN ls).v, .slice O (plN n k true) oc] w fun e w' => e = .returned (.bool true) ∧ St w w' [] from fun O oc w hT hs => by
      have := gCheck_any n k (rootN (ls.take k)) (rootN ls) (gpN ls k true) O _ oc w hT hs rfl g1 g2 hn
      rw [grow_proves n ls k true (rootN (ls.take k)) hl g1 g2 (fun _ => rfl)] at this
      simpa using this)
    clear h0 hmn hl
    generalize rootN (ls.take k) = x at *
    generalize rootN ls = y at *
    generalize digsL (gpN ls k true) = lp at *
    generalize plN n k true = pl at *
    generalize digsL (ls.take k) = lk at *
    go_enter Tryd.func6, Tryd.ntmps6
    go_upto_region 1 with (first
      | fail)
    go_upto_region 2 with (first
      | (go_at_call 21; refine (grown_any _ (HT.out.of hst)).mono ?_; rintro e W12 ⟨rfl, hnew⟩; replace hst := hst.keep hnew; clear hnew)
      | fail)
    go_upto_region 4 with (first
      | fail)
    go_upto_region 6 with (first
      | fail)
    go_upto_region 7 with (first
      | (go_at_call 22; (try clear hnew); refine (HP.out _ (HT.out.of hst) (hst.old (by decide) hx)).mono ?_; rintro e Wk2 ⟨O31, c31, rfl, hnew⟩; replace hst := hst.trans hnew; simp only [List.cons_append, List.nil_append] at hst)
      | fail)
    (try clear hnew)
    go_upto_region 8 with (first
      | (go_at_call 16; (try clear hnew); refine (HA.out A37 c37 _ (HT.out.of hst) (by rw [← H1.out]; exact hst.old (by decide) hs37)).mono ?_; rintro e Wk3 ⟨rfl, hnew⟩; replace hst := hst.keep hnew)
      | (first | (refine L_cutV (d := some 37) rfl rfl rfl (by rfl) Tryd.underlying22 el_api_Digest (by decide) hx 0 k _ (Or.inl ⟨rfl, rfl⟩) (Or.inr ⟨_, _, rfl, by first | exact ev_tmp rfl | (rw [ev_tmp rfl]; congr 1; omega)⟩) (Or.inl ⟨rfl, rfl⟩) (by omega) (by omega) (by omega) (by omega) ?_; intro A37 c37 hs37) | (refine L_cutO (d := some 37) rfl rfl hst rfl (by rfl) Tryd.underlying22 el_api_Digest 0 rfl (by first | rfl | omega) 0 k _ (Or.inl ⟨rfl, rfl⟩) (Or.inr ⟨_, _, rfl, by first | exact ev_tmp rfl | (rw [ev_tmp rfl]; congr 1; omega)⟩) (Or.inl ⟨rfl, rfl⟩) (by omega) (by omega) (by omega) (by omega) ?_; clear hst; intro A37 c37 hst; simp only [List.set_cons_zero, List.set_cons_succ] at hst) | (refine L_cutO (d := some 37) rfl rfl hst rfl (by rfl) Tryd.underlying22 el_api_Digest 1 rfl (by first | rfl | omega) 0 k _ (Or.inl ⟨rfl, rfl⟩) (Or.inr ⟨_, _, rfl, by first | exact ev_tmp rfl | (rw [ev_tmp rfl]; congr 1; omega)⟩) (Or.inl ⟨rfl, rfl⟩) (by omega) (by omega) (by omega) (by omega) ?_; clear hst; intro A37 c37 hst; simp only [List.set_cons_zero, List.set_cons_succ] at hst) | (refine L_cutO (d := some 37) rfl rfl hst rfl (by rfl) Tryd.underlying22 el_api_Digest 2 rfl (by first | rfl | omega) 0 k _ (Or.inl ⟨rfl, rfl⟩) (Or.inr ⟨_, _, rfl, by first | exact ev_tmp rfl | (rw [ev_tmp rfl]; congr 1; omega)⟩) (Or.inl ⟨rfl, rfl⟩) (by omega) (by omega) (by omega) (by omega) ?_; clear hst; intro A37 c37 hst; simp only [List.set_cons_zero, List.set_cons_succ] at hst) | (refine L_cutS (d := some 37) rfl rfl rfl (by rfl) Tryd.underlying22 el_api_Digest (by decide) (by first | assumption | exact hst.old (by decide) (by assumption) | exact hst.sl 0 rfl | exact hst.sl 1 rfl | exact hst.sl 2 rfl) 0 k _ (Or.inl ⟨rfl, rfl⟩) (Or.inr ⟨_, _, rfl, by first | exact ev_tmp rfl | (rw [ev_tmp rfl]; congr 1; omega)⟩) (Or.inl ⟨rfl, rfl⟩) (by omega) (by omega) (by omega) (by omega) ?_; intro A37 c37 hs37))
      | (refine L_allocA (d := some 8) rfl rfl rfl el_api_Digest ?_; (try clear hnew); intro g8 W8 hnew; replace hst := hst.trans hnew; simp only [List.cons_append, List.nil_append] at hst)
      | (refine wpl_at (.store 25 (.tmp 8) (.tmp 39)) rfl ?_; first | (refine L_storeA rfl rfl hst rfl (by rfl) (ev_tmp rfl) (by first | rfl | exact Dig.one _ | (simp; done)) el_api_Digest (by first | rfl | exact Dig.size _ | (simp; done)) 0 rfl (by first | rfl | exact Dig.size _ | (simp; done)) ?_; clear hst; intro WS8 hst; simp only [List.set_cons_zero, List.set_cons_succ] at hst) | (refine L_storeA rfl rfl hst rfl (by rfl) (ev_tmp rfl) (by first | rfl | exact Dig.one _ | (simp; done)) el_api_Digest (by first | rfl | exact Dig.size _ | (simp; done)) 1 rfl (by first | rfl | exact Dig.size _ | (simp; done)) ?_; clear hst; intro WS8 hst; simp only [List.set_cons_zero, List.set_cons_succ] at hst) | (refine L_storeA rfl rfl hst rfl (by rfl) (ev_tmp rfl) (by first | rfl | exact Dig.one _ | (simp; done)) el_api_Digest (by first | rfl | exact Dig.size _ | (simp; done)) 2 rfl (by first | rfl | exact Dig.size _ | (simp; done)) ?_; clear hst; intro WS8 hst; simp only [List.set_cons_zero, List.set_cons_succ] at hst) | (refine L_storeM rfl rfl hst rfl (by rfl) (ev_tmp rfl) (by first | rfl | exact Dig.one _ | (simp; done)) el_api_Digest (by first | rfl | exact Dig.size _ | (simp; done)) 0 rfl (by first | exact of_decide_eq_true rfl | (simp; done)) ?_; clear hst; intro WS8 hst; simp only [List.set_cons_zero, List.set_cons_succ] at hst)  | (refine L_storeM rfl rfl hst rfl (by rfl) (ev_tmp rfl) (by first | rfl | exact Dig.one _ | (simp; done)) el_api_Digest (by first | rfl | exact Dig.size _ | (simp; done)) 1 rfl (by first | exact of_decide_eq_true rfl | (simp; done)) ?_; clear hst; intro WS8 hst; simp only [List.set_cons_zero, List.set_cons_succ] at hst)  | (refine L_storeM rfl rfl hst rfl (by rfl) (ev_tmp rfl) (by first | rfl | exact Dig.one _ | (simp; done)) el_api_Digest (by first | rfl | exact Dig.size _ | (simp; done)) 2 rfl (by first | exact of_decide_eq_true rfl | (simp; done)) ?_; clear hst; intro WS8 hst; simp only [List.set_cons_zero, List.set_cons_succ] at hst))
      | fail)
    (try clear hnew)
    go_upto_region 9 with (first
      | (go_at_call 16; (try clear hnew); refine (HB.out _ (HT.out.of hst) (hst.old (by decide) hx)).mono ?_; rintro e Wk4 ⟨rfl, hnew⟩; replace hst := hst.keep hnew)
      | (refine L_allocA (d := some 10) rfl rfl rfl el_api_Digest ?_; (try clear hnew); intro g10 W10 hnew; replace hst := hst.trans hnew; simp only [List.cons_append, List.nil_append] at hst)
      | (refine wpl_at (.store 25 (.tmp 10) (.tmp 44)) rfl ?_; first | (refine L_storeA rfl rfl hst rfl (by rfl) (ev_tmp rfl) (by first | rfl | exact Dig.one _ | (simp; done)) el_api_Digest (by first | rfl | exact Dig.size _ | (simp; done)) 0 rfl (by first | rfl | exact Dig.size _ | (simp; done)) ?_; clear hst; intro WS6 hst; simp only [List.set_cons_zero, List.set_cons_succ] at hst) | (refine L_storeA rfl rfl hst rfl (by rfl) (ev_tmp rfl) (by first | rfl | exact Dig.one _ | (simp; done)) el_api_Digest (by first | rfl | exact Dig.size _ | (simp; done)) 1 rfl (by first | rfl | exact Dig.size _ | (simp; done)) ?_; clear hst; intro WS6 hst; simp only [List.set_cons_zero, List.set_cons_succ] at hst) | (refine L_storeA rfl rfl hst rfl (by rfl) (ev_tmp rfl) (by first | rfl | exact Dig.one _ | (simp; done)) el_api_Digest (by first | rfl | exact Dig.size _ | (simp; done)) 2 rfl (by first | rfl | exact Dig.size _ | (simp; done)) ?_; clear hst; intro WS6 hst; simp only [List.set_cons_zero, List.set_cons_succ] at hst) | (refine L_storeM rfl rfl hst rfl (by rfl) (ev_tmp rfl) (by first | rfl | exact Dig.one _ | (simp; done)) el_api_Digest (by first | rfl | exact Dig.size _ | (simp; done)) 0 rfl (by first | exact of_decide_eq_true rfl | (simp; done)) ?_; clear hst; intro WS6 hst; simp only [List.set_cons_zero, List.set_cons_succ] at hst)  | (refine L_storeM rfl rfl hst rfl (by rfl) (ev_tmp rfl) (by first | rfl | exact Dig.one _ | (simp; done)) el_api_Digest (by first | rfl | exact Dig.size _ | (simp; done)) 1 rfl (by first | exact of_decide_eq_true rfl | (simp; done)) ?_; clear hst; intro WS6 hst; simp only [List.set_cons_zero, List.set_cons_succ] at hst)  | (refine L_storeM rfl rfl hst rfl (by rfl) (ev_tmp rfl) (by first | rfl | exact Dig.one _ | (simp; done)) el_api_Digest (by first | rfl | exact Dig.size _ | (simp; done)) 2 rfl (by first | exact of_decide_eq_true rfl | (simp; done)) ?_; clear hst; intro WS6 hst; simp only [List.set_cons_zero, List.set_cons_succ] at hst))
      | fail)
    go_wp2_with (first
      | (go_at_call 23; (try clear hnew); refine (HC.out _ _ _ (HT.out.of hst) (hst.sl 2 rfl)).mono ?_; rintro e Wk5 ⟨rfl, hnew⟩; replace hst := hst.keep hnew)
      | (first | (refine L_pickF (d := some 51) rfl rfl rfl (ev_tmp rfl) ev_const ?_) | (refine L_pickT (d := some 51) rfl rfl rfl (ev_tmp rfl) (ev_tmp rfl) ?_))
      | (first | (refine L_pickF (d := some 55) rfl rfl rfl (ev_tmp rfl) ev_const ?_) | (refine L_pickT (d := some 55) rfl rfl rfl (ev_tmp rfl) (ev_tmp rfl) ?_))
      | (first | (refine L_loadA (d := some 60) rfl rfl rfl (by rfl) Tryd.underlying25 rfl el_api_Digest (by first | exact hst.get 0 rfl | exact hst.get 1 rfl | exact hst.get 2 rfl) (by first | rfl | exact Dig.size _ | (simp; done)) ?_) | (refine L_loadM (d := some 60) rfl rfl rfl (by rfl) Tryd.underlying25 rfl el_api_Digest (by first | assumption) (by first | rfl | exact Dig.size _ | (simp; done)) ?_))
      | (first | (refine L_loadA (d := some 61) rfl rfl rfl (by rfl) Tryd.underlying25 rfl el_api_Digest (by first | exact hst.get 0 rfl | exact hst.get 1 rfl | exact hst.get 2 rfl) (by first | rfl | exact Dig.size _ | (simp; done)) ?_) | (refine L_loadM (d := some 61) rfl rfl rfl (by rfl) Tryd.underlying25 rfl el_api_Digest (by first | assumption) (by first | rfl | exact Dig.size _ | (simp; done)) ?_))
      | (first | (refine L_pickF (d := some 64) rfl rfl rfl (ev_tmp rfl) ev_const ?_) | (refine L_pickT (d := some 64) rfl rfl rfl (ev_tmp rfl) (ev_tmp rfl) ?_))
      | fail)
    go_ret
    exact ⟨rfl, hst.forget⟩
end Go.Proofs.YtfpppmamkmaneaaDoor
