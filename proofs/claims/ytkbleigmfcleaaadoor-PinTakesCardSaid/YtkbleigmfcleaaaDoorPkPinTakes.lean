/-
  Proved here: PinTakes: the law returns true for every input, and leaves its arguments as they were.
-/
import Derived.Test.YtkbleigmfcleaaaDoorPkPinTakesA
import Derived.Test.YtkbleigmfcleaaaDoorPkPinTakesB
import Derived.Test.YtkbleigmfcleaaaDoorDigsL
import Derived.Test.YtkbleigmfcleaaaDoorPick
import Derived.Test.YtkbleigmfcleaaaDoorSkip
import Derived.Test.YtkbleigmfcleaaaDoorOpenG
import Derived.Test.YtkbleigmfcleaaaDoorMac
import Derived.Test.YtkbleigmfcleaaaDoorTold
import Derived.Test.YtkbleigmfcleaaaDoorSameD
import Derived.Test.YtkbleigmfcleaaaDoorForkM
import Derived.Deep.LoopGhost
import Derived.Test.YtkbleigmfcleaaaDoorRows
import Derived.LaidHandle
import Derived.LaidLaws
import Derived.ChangeSame
import Derived.ChangeVars
import Derived.JoinedOf
import Derived.RowKit
import Derived.RowKitTokens
import Derived.Stop.Joined
import Derived.Test.YtkbleigmfcleaaaDoorOpenB
import Derived.Test.YtkbleigmfcleaaaDoorCards
import Derived.Test.YtkbleigmfcleaaaDoorTie
import Derived.Deep.DeepHandedRow
import Derived.ProofKit
import Derived.OpenShut
set_option maxRecDepth 20000
set_option linter.unusedSimpArgs false
set_option linter.unusedVariables false
namespace Go.Proofs.YtkbleigmfcleaaaDoor
open Go.RowKit
theorem dig_oneQ (d : Dig) : ∀ u ∈ d.arr.toList, u.oneCell' = true := by
 rw [Dig.toList]
 exact oneCell_bytes
set_option maxHeartbeats 2000000 in
theorem rplong_any : ∀ (n m : Nat) (own : Bool) (w : World), 1 ≤ m → m ≤ n → n ≤ 256 →
  Calls Tryd.prog 81 #[.int .i64 (m : Int), .int .i64 (n : Int), .bool own] w fun e w' => e = .returned (.int .i64 (plN n m own : Int)) ∧ St w w' [] := by
 intro n
 induction n using Nat.strongRecOn with
 | ind n ih =>
 intro m own w hm1 hmn hn
 have hst := St.refl w
 by_cases h : m = n
 ·subst h
  clear ih
  rw [plN_all]
  cases own with
  | true =>
   go_enter Tryd.func81, Tryd.ntmps81
   go_wp2_with (first
    | (first | (refine L_pickF (d := some 13) rfl rfl rfl (ev_tmp rfl) ev_const ?_) | (refine L_pickT (d := some 13) rfl rfl rfl (ev_tmp rfl) (ev_tmp rfl) ?_))
    | fail)
   go_ret
   exact ⟨rfl, hst⟩
  | false =>
   go_enter Tryd.func81, Tryd.ntmps81
   go_wp2_with (first
    | (first | (refine L_pickF (d := some 13) rfl rfl rfl (ev_tmp rfl) ev_const ?_) | (refine L_pickT (d := some 13) rfl rfl rfl (ev_tmp rfl) (ev_tmp rfl) ?_))
    | fail)
   go_ret
   exact ⟨rfl, hst⟩
 ·have hlt := halfN_lt n (by omega)
  have hps := halfN_pos n
  have h' : ((m : Int) == (n : Int)) = false := by rw [beq_eq_false_iff_ne]; omega
  have HF := Lib.hid (fun w => rhalf_any n (by omega) (by omega) w)
  by_cases hk : m ≤ halfN n
  ·have hle := plN_le (halfN n) m own
   rw [plN_left h (by omega) hk]
   have HI := Lib.hid (fun w => ih (halfN n) hlt m own w hm1 hk (by omega))
   have hk' : (m : Int) ≤ (halfN n : Int) := by omega
   clear ih h
   generalize plN (halfN n) m own = r at *
   generalize halfN n = k at *
   go_enter Tryd.func81, Tryd.ntmps81
   go_wp2_with (first
    | (go_at_call 91; (try clear hnew); refine (HF.out _).mono ?_; rintro e Wk1 ⟨rfl, hnew⟩; replace hst := hst.keep hnew)
    | (go_at_call 81; (try clear hnew); refine (HI.out _).mono ?_; rintro e Wk2 ⟨rfl, hnew⟩; replace hst := hst.keep hnew)
    | (first | (refine L_pickF (d := some 13) rfl rfl rfl (ev_tmp rfl) ev_const ?_) | (refine L_pickT (d := some 13) rfl rfl rfl (ev_tmp rfl) (ev_tmp rfl) ?_))
    | fail)
   go_ret
   exact ⟨congrArg Ending.returned (by go_num), hst⟩
  ·have hle := plN_le (n - halfN n) (m - halfN n) false
   rw [plN_right h (by omega) hk]
   have HI := Lib.hid (fun w => ih (n - halfN n) (by omega) (m - halfN n) false w (by omega) (by omega) (by omega))
   have e1 : (((m - halfN n : Nat)) : Int) = (m : Int) - (halfN n : Int) := by omega
   have e2 : (((n - halfN n : Nat)) : Int) = (n : Int) - (halfN n : Int) := by omega
   rw [e1, e2] at HI
   have hk' : ¬ (m : Int) ≤ (halfN n : Int) := by omega
   clear ih h e1 e2
   generalize plN (n - halfN n) (m - halfN n) false = r at *
   generalize halfN n = k at *
   go_enter Tryd.func81, Tryd.ntmps81
   go_wp2_with (first
    | (go_at_call 91; (try clear hnew); refine (HF.out _).mono ?_; rintro e Wk3 ⟨rfl, hnew⟩; replace hst := hst.keep hnew)
    | (go_at_call 81; (try clear hnew); refine (HI.out _).mono ?_; rintro e Wk4 ⟨rfl, hnew⟩; replace hst := hst.keep hnew)
    | (first | (refine L_pickF (d := some 13) rfl rfl rfl (ev_tmp rfl) ev_const ?_) | (refine L_pickT (d := some 13) rfl rfl rfl (ev_tmp rfl) (ev_tmp rfl) ?_))
    | fail)
   go_ret
   exact ⟨congrArg Ending.returned (by go_num), hst⟩
theorem two_at (a b : Dig) : Hid (((digsL [a, b]).drop ((0 : Int).toNat * 32)).take 32 = a.arr.toList) ∧ Hid (((digsL [a, b]).drop ((1 : Int).toNat * 32)).take 32 = b.arr.toList) :=
 ⟨Lib.hid (by rw [Dig.toList]; exact digsL_at [a, b] 0 (by decide : 0 < 2)), Lib.hid (by rw [Dig.toList]; exact digsL_at [a, b] 1 (by decide : 1 < 2))⟩
set_option maxHeartbeats 4000000 in
theorem rroots_any : ∀ (n m : Nat) (own : Bool) (old : Dig) (p : List Dig) (A : Option Addr) (k c : Nat) (w : World), SlR w A k c 32 (digsL p) → k = plN n m own → 1 ≤ m → m ≤ n → n ≤ 256 →
  Calls Tryd.prog 82 #[.int .i64 (m : Int), .int .i64 (n : Int), .bool own, old.v, .slice A k c] w fun e w' => ∃ O oc, e = .returned (.slice O 2 oc) ∧ St w w' [.row O 2 oc 23 32 (digsL [(grN n m own old p).1, (grN n m own old p).2])] := by
 intro n
 induction n using Nat.strongRecOn with
 | ind n ih =>
 intro m own old p A k c w hx hk hm1 hmn hn
 have hst := St.refl w
 have hl : p.length = k := by have := hx.1; rw [length_digsL] at this; omega
 have hcap := hx.2.1
 have hmax := hx.2.2.1
 simp only [maxLen] at hmax
 by_cases h : m = n
 ·subst h
  clear ih
  rw [plN_all] at hk
  cases own with
  | true =>
   rw [grN_all]
   simp only [if_true]
   rw [digsL_two]
   go_enter Tryd.func82, Tryd.ntmps82
   go_upto_region 1 with (first
    | (refine L_boxA (d := some 8) rfl rfl rfl (ev_tmp rfl) ?_; (try clear hnew); intro g8 W8 hnew; replace hst := hst.trans hnew; simp only [List.cons_append, List.nil_append] at hst)
    | fail)
   go_upto_region 2 with (first
    | (first | (refine L_pickF (d := some 21) rfl rfl rfl (ev_tmp rfl) ev_const ?_) | (refine L_pickT (d := some 21) rfl rfl rfl (ev_tmp rfl) (ev_tmp rfl) ?_))
    | fail)
   go_wp2_with (first
    | (first | (refine L_loadA (d := some 22) rfl rfl rfl (by rfl) Tryd.underlying23 rfl el_api_Digest (by first | exact hst.get 0 rfl | exact hst.get 1 rfl) (by first | rfl | exact Dig.size _ | (simp; done)) ?_) | (refine L_loadM (d := some 22) rfl rfl rfl (by rfl) Tryd.underlying23 rfl el_api_Digest (by first | assumption) (by first | rfl | exact Dig.size _ | (simp; done)) ?_))
    | (first | (refine L_loadA (d := some 23) rfl rfl rfl (by rfl) Tryd.underlying23 rfl el_api_Digest (by first | exact hst.get 0 rfl | exact hst.get 1 rfl) (by first | rfl | exact Dig.size _ | (simp; done)) ?_) | (refine L_loadM (d := some 23) rfl rfl rfl (by rfl) Tryd.underlying23 rfl el_api_Digest (by first | assumption) (by first | rfl | exact Dig.size _ | (simp; done)) ?_))
    | (refine L_buildS (d := some 24) rfl rfl rfl [_, _] (bs_2 (ev_tmp rfl) (ev_tmp rfl)) rfl Tryd.underlying74 el_api_Digest rfl (by first | (simp [Value.cells]; done) | (simp [Value.cells, Dig.size]; done)) (by decide) (by decide) ?_; (try clear hnew); intro g24 W24 hnew; replace hst := hst.trans hnew; simp only [List.cons_append, List.nil_append] at hst; simp only [List.flatMap_cons, List.flatMap_nil, List.append_nil, Value.cells, List.toList_toArray] at hst)
    | fail)
   go_ret
   exact ⟨_, _, rfl, hst.pick [0] (by decide)⟩
  | false =>
   simp only [Bool.false_eq_true, if_false] at hk
   subst hk
   obtain ⟨q, d, rfl, hq, hp, hc⟩ := path_last p 0 hl
   obtain rfl : q = [] := List.eq_nil_of_length_eq_zero hq
   rw [List.nil_append] at *
   have HP := Lib.hid (show ((digsL [d]).drop ((0 : Int).toNat * 32)).take 32 = d.arr.toList from hp)
   have HG := Lib.hid (show grN m m false old [d] = (d, d) by rw [grN_all]; rfl)
   rw [HG.out, digsL_two]
   clear hp hc hq hl HG
   generalize digsL [d] = lx at *
   go_enter Tryd.func82, Tryd.ntmps82
   go_upto_region 1 with (first
    | (refine L_boxA (d := some 8) rfl rfl rfl (ev_tmp rfl) ?_; (try clear hnew); intro g8 W8 hnew; replace hst := hst.trans hnew; simp only [List.cons_append, List.nil_append] at hst)
    | fail)
   go_upto_region 3 with (first
    | (first | (refine L_pickF (d := some 21) rfl rfl rfl (ev_tmp rfl) ev_const ?_) | (refine L_pickT (d := some 21) rfl rfl rfl (ev_tmp rfl) (ev_tmp rfl) ?_))
    | fail)
   go_upto_region 4 with (first
    | (refine L_loadM (d := some 30) rfl rfl rfl (by rfl) Tryd.underlying23 rfl el_api_Digest (cs := d.arr) (by rw [← HP.out]; exact hr29) (Dig.size _) ?_)
    | (refine L_idxS (d := some 29) rfl rfl rfl (by rfl) (by rfl) Tryd.underlying74 el_api_Digest (by first | exact hst.old (by decide) hx | assumption | exact hst.sl 0 rfl | exact hst.sl 1 rfl | exact hst.sl 2 rfl | exact hst.old (by decide) (by assumption)) (by omega) (by omega) ?_; intro o29 p29 ha29 hr29; (first | subst ha29 | (obtain ⟨h1, h2⟩ := some_addr ha29; subst h1; subst h2; clear ha29) | skip))
    | (first | (refine L_loadA (d := some 30) rfl rfl rfl (by rfl) Tryd.underlying23 rfl el_api_Digest (by first | exact hst.get 0 rfl | exact hst.get 1 rfl | exact hst.get 2 rfl) (by first | rfl | exact Dig.size _ | (simp; done)) ?_) | (refine L_loadM (d := some 30) rfl rfl rfl (by rfl) Tryd.underlying23 rfl el_api_Digest (by first | assumption) (by first | rfl | exact Dig.size _ | (simp; done)) ?_))
    | (refine L_allocA (d := some 11) rfl rfl rfl el_api_Digest ?_; (try clear hnew); intro g11 W11 hnew; replace hst := hst.trans hnew; simp only [List.cons_append, List.nil_append] at hst)
    | (refine wpl_at (.store 23 (.tmp 11) (.tmp 30)) rfl ?_; first | (refine L_storeA rfl rfl hst rfl (by rfl) (ev_tmp rfl) (by first | rfl | exact Dig.one _ | (simp; done)) el_api_Digest (by first | rfl | exact Dig.size _ | (simp; done)) 0 rfl (by first | rfl | exact Dig.size _ | (simp; done)) ?_; clear hst; intro WS7 hst; simp only [List.set_cons_zero, List.set_cons_succ] at hst) | (refine L_storeA rfl rfl hst rfl (by rfl) (ev_tmp rfl) (by first | rfl | exact Dig.one _ | (simp; done)) el_api_Digest (by first | rfl | exact Dig.size _ | (simp; done)) 1 rfl (by first | rfl | exact Dig.size _ | (simp; done)) ?_; clear hst; intro WS7 hst; simp only [List.set_cons_zero, List.set_cons_succ] at hst) | (refine L_storeA rfl rfl hst rfl (by rfl) (ev_tmp rfl) (by first | rfl | exact Dig.one _ | (simp; done)) el_api_Digest (by first | rfl | exact Dig.size _ | (simp; done)) 2 rfl (by first | rfl | exact Dig.size _ | (simp; done)) ?_; clear hst; intro WS7 hst; simp only [List.set_cons_zero, List.set_cons_succ] at hst) | (refine L_storeM rfl rfl hst rfl (by rfl) (ev_tmp rfl) (by first | rfl | exact Dig.one _ | (simp; done)) el_api_Digest (by first | rfl | exact Dig.size _ | (simp; done)) 0 rfl (by first | exact of_decide_eq_true rfl | (simp; done)) ?_; clear hst; intro WS7 hst; simp only [List.set_cons_zero, List.set_cons_succ] at hst)  | (refine L_storeM rfl rfl hst rfl (by rfl) (ev_tmp rfl) (by first | rfl | exact Dig.one _ | (simp; done)) el_api_Digest (by first | rfl | exact Dig.size _ | (simp; done)) 1 rfl (by first | exact of_decide_eq_true rfl | (simp; done)) ?_; clear hst; intro WS7 hst; simp only [List.set_cons_zero, List.set_cons_succ] at hst)  | (refine L_storeM rfl rfl hst rfl (by rfl) (ev_tmp rfl) (by first | rfl | exact Dig.one _ | (simp; done)) el_api_Digest (by first | rfl | exact Dig.size _ | (simp; done)) 2 rfl (by first | exact of_decide_eq_true rfl | (simp; done)) ?_; clear hst; intro WS7 hst; simp only [List.set_cons_zero, List.set_cons_succ] at hst))
    | fail)
   go_upto_region 5 with (first
    | (first | (refine L_cutV (d := some 35) rfl rfl rfl (by rfl) Tryd.underlying74 el_api_Digest (by decide) hx 0 0 _ (Or.inl ⟨rfl, rfl⟩) (Or.inr ⟨_, _, rfl, by first | exact ev_tmp rfl | (rw [ev_tmp rfl]; congr 1; omega)⟩) (Or.inl ⟨rfl, rfl⟩) (by omega) (by omega) (by omega) (by omega) ?_; intro A35 c35 hs35) | (refine L_cutO (d := some 35) rfl rfl hst rfl (by rfl) Tryd.underlying74 el_api_Digest 0 rfl (by first | rfl | omega) 0 0 _ (Or.inl ⟨rfl, rfl⟩) (Or.inr ⟨_, _, rfl, by first | exact ev_tmp rfl | (rw [ev_tmp rfl]; congr 1; omega)⟩) (Or.inl ⟨rfl, rfl⟩) (by omega) (by omega) (by omega) (by omega) ?_; clear hst; intro A35 c35 hst; simp only [List.set_cons_zero, List.set_cons_succ] at hst) | (refine L_cutO (d := some 35) rfl rfl hst rfl (by rfl) Tryd.underlying74 el_api_Digest 1 rfl (by first | rfl | omega) 0 0 _ (Or.inl ⟨rfl, rfl⟩) (Or.inr ⟨_, _, rfl, by first | exact ev_tmp rfl | (rw [ev_tmp rfl]; congr 1; omega)⟩) (Or.inl ⟨rfl, rfl⟩) (by omega) (by omega) (by omega) (by omega) ?_; clear hst; intro A35 c35 hst; simp only [List.set_cons_zero, List.set_cons_succ] at hst) | (refine L_cutO (d := some 35) rfl rfl hst rfl (by rfl) Tryd.underlying74 el_api_Digest 2 rfl (by first | rfl | omega) 0 0 _ (Or.inl ⟨rfl, rfl⟩) (Or.inr ⟨_, _, rfl, by first | exact ev_tmp rfl | (rw [ev_tmp rfl]; congr 1; omega)⟩) (Or.inl ⟨rfl, rfl⟩) (by omega) (by omega) (by omega) (by omega) ?_; clear hst; intro A35 c35 hst; simp only [List.set_cons_zero, List.set_cons_succ] at hst) | (refine L_cutS (d := some 35) rfl rfl rfl (by rfl) Tryd.underlying74 el_api_Digest (by decide) (by first | exact hst.old (by decide) hx | assumption | exact hst.old (by decide) (by assumption) | exact hst.sl 0 rfl | exact hst.sl 1 rfl | exact hst.sl 2 rfl) 0 0 _ (Or.inl ⟨rfl, rfl⟩) (Or.inr ⟨_, _, rfl, by first | exact ev_tmp rfl | (rw [ev_tmp rfl]; congr 1; omega)⟩) (Or.inl ⟨rfl, rfl⟩) (by omega) (by omega) (by omega) (by omega) ?_; intro A35 c35 hs35))
    | fail)
   go_upto_region 6 with (first
    | fail)
   go_wp2_with (first
    | (first | (refine L_loadA (d := some 39) rfl rfl rfl (by rfl) Tryd.underlying23 rfl el_api_Digest (by first | exact hst.get 0 rfl | exact hst.get 1 rfl | exact hst.get 2 rfl) (by first | rfl | exact Dig.size _ | (simp; done)) ?_) | (refine L_loadM (d := some 39) rfl rfl rfl (by rfl) Tryd.underlying23 rfl el_api_Digest (by first | assumption) (by first | rfl | exact Dig.size _ | (simp; done)) ?_))
    | (first | (refine L_loadA (d := some 40) rfl rfl rfl (by rfl) Tryd.underlying23 rfl el_api_Digest (by first | exact hst.get 0 rfl | exact hst.get 1 rfl | exact hst.get 2 rfl) (by first | rfl | exact Dig.size _ | (simp; done)) ?_) | (refine L_loadM (d := some 40) rfl rfl rfl (by rfl) Tryd.underlying23 rfl el_api_Digest (by first | assumption) (by first | rfl | exact Dig.size _ | (simp; done)) ?_))
    | (refine L_buildS (d := some 41) rfl rfl rfl [_, _] (bs_2 (ev_tmp rfl) (ev_tmp rfl)) rfl Tryd.underlying74 el_api_Digest rfl (by first | (simp [Value.cells]; done) | (simp [Value.cells, Dig.size]; done)) (by decide) (by decide) ?_; (try clear hnew); intro g41 W41 hnew; replace hst := hst.trans hnew; simp only [List.cons_append, List.nil_append] at hst; simp only [List.flatMap_cons, List.flatMap_nil, List.append_nil, Value.cells, List.toList_toArray] at hst)
    | fail)
   go_ret
   exact ⟨_, _, rfl, hst.pick [0] (by decide)⟩
 ·have hlt := halfN_lt n (by omega)
  have hps := halfN_pos n
  have h' : ((m : Int) == (n : Int)) = false := by rw [beq_eq_false_iff_ne]; omega
  have HF := Lib.hid (fun w => rhalf_any n (by omega) (by omega) w)
  by_cases hk2 : m ≤ halfN n
  ·rw [plN_left h (by omega) hk2] at hk
   have hk' : (m : Int) ≤ (halfN n : Int) := by omega
   obtain ⟨r, hr'⟩ : ∃ r, r = plN (halfN n) m own := ⟨_, rfl⟩
   rw [← hr'] at hk
   subst hk
   obtain ⟨q, d, rfl, hq, hp, hc⟩ := path_last p r hl
   rw [grN_left h (by omega) hk2]
   have HP := Lib.hid (show ((digsL (q ++ [d])).drop ((r : Int).toNat * 32)).take 32 = d.arr.toList from hp)
   have HC := Lib.hid hc
   have HI := Lib.hid (fun A c w hs => ih (halfN n) hlt m own old q A r c w hs hr' hm1 hk2 (by omega))
   have H2 := two_at (grN (halfN n) m own old q).1 (grN (halfN n) m own old q).2
   clear hp hc hq hl ih hr' h
   generalize (grN (halfN n) m own old q).1 = x at *
   generalize (grN (halfN n) m own old q).2 = y at *
   generalize halfN n = hf at *
   obtain ⟨HX, HY⟩ := H2
   rw [digsL_two x (nodeN y d)]
   generalize digsL [x, y] = lxy at *
   generalize digsL (q ++ [d]) = lx at *
   go_enter Tryd.func82, Tryd.ntmps82
   go_upto_region 1 with (first
    | (refine L_boxA (d := some 8) rfl rfl rfl (ev_tmp rfl) ?_; (try clear hnew); intro g8 W8 hnew; replace hst := hst.trans hnew; simp only [List.cons_append, List.nil_append] at hst)
    | fail)
   go_upto_region 3 with (first
    | (first | (refine L_pickF (d := some 21) rfl rfl rfl (ev_tmp rfl) ev_const ?_) | (refine L_pickT (d := some 21) rfl rfl rfl (ev_tmp rfl) (ev_tmp rfl) ?_))
    | fail)
   go_upto_region 4 with (first
    | (refine L_loadM (d := some 30) rfl rfl rfl (by rfl) Tryd.underlying23 rfl el_api_Digest (cs := d.arr) (by rw [← HP.out]; exact hr29) (Dig.size _) ?_)
    | (refine L_idxS (d := some 29) rfl rfl rfl (by rfl) (by rfl) Tryd.underlying74 el_api_Digest (by first | exact hst.old (by decide) hx | assumption | exact hst.sl 0 rfl | exact hst.sl 1 rfl | exact hst.sl 2 rfl | exact hst.old (by decide) (by assumption)) (by omega) (by omega) ?_; intro o29 p29 ha29 hr29; (first | subst ha29 | (obtain ⟨h1, h2⟩ := some_addr ha29; subst h1; subst h2; clear ha29) | skip))
    | (first | (refine L_loadA (d := some 30) rfl rfl rfl (by rfl) Tryd.underlying23 rfl el_api_Digest (by first | exact hst.get 0 rfl | exact hst.get 1 rfl | exact hst.get 2 rfl) (by first | rfl | exact Dig.size _ | (simp; done)) ?_) | (refine L_loadM (d := some 30) rfl rfl rfl (by rfl) Tryd.underlying23 rfl el_api_Digest (by first | assumption) (by first | rfl | exact Dig.size _ | (simp; done)) ?_))
    | (refine L_allocA (d := some 11) rfl rfl rfl el_api_Digest ?_; (try clear hnew); intro g11 W11 hnew; replace hst := hst.trans hnew; simp only [List.cons_append, List.nil_append] at hst)
    | (refine wpl_at (.store 23 (.tmp 11) (.tmp 30)) rfl ?_; first | (refine L_storeA rfl rfl hst rfl (by rfl) (ev_tmp rfl) (by first | rfl | exact Dig.one _ | (simp; done)) el_api_Digest (by first | rfl | exact Dig.size _ | (simp; done)) 0 rfl (by first | rfl | exact Dig.size _ | (simp; done)) ?_; clear hst; intro WS7 hst; simp only [List.set_cons_zero, List.set_cons_succ] at hst) | (refine L_storeA rfl rfl hst rfl (by rfl) (ev_tmp rfl) (by first | rfl | exact Dig.one _ | (simp; done)) el_api_Digest (by first | rfl | exact Dig.size _ | (simp; done)) 1 rfl (by first | rfl | exact Dig.size _ | (simp; done)) ?_; clear hst; intro WS7 hst; simp only [List.set_cons_zero, List.set_cons_succ] at hst) | (refine L_storeA rfl rfl hst rfl (by rfl) (ev_tmp rfl) (by first | rfl | exact Dig.one _ | (simp; done)) el_api_Digest (by first | rfl | exact Dig.size _ | (simp; done)) 2 rfl (by first | rfl | exact Dig.size _ | (simp; done)) ?_; clear hst; intro WS7 hst; simp only [List.set_cons_zero, List.set_cons_succ] at hst) | (refine L_storeM rfl rfl hst rfl (by rfl) (ev_tmp rfl) (by first | rfl | exact Dig.one _ | (simp; done)) el_api_Digest (by first | rfl | exact Dig.size _ | (simp; done)) 0 rfl (by first | exact of_decide_eq_true rfl | (simp; done)) ?_; clear hst; intro WS7 hst; simp only [List.set_cons_zero, List.set_cons_succ] at hst)  | (refine L_storeM rfl rfl hst rfl (by rfl) (ev_tmp rfl) (by first | rfl | exact Dig.one _ | (simp; done)) el_api_Digest (by first | rfl | exact Dig.size _ | (simp; done)) 1 rfl (by first | exact of_decide_eq_true rfl | (simp; done)) ?_; clear hst; intro WS7 hst; simp only [List.set_cons_zero, List.set_cons_succ] at hst)  | (refine L_storeM rfl rfl hst rfl (by rfl) (ev_tmp rfl) (by first | rfl | exact Dig.one _ | (simp; done)) el_api_Digest (by first | rfl | exact Dig.size _ | (simp; done)) 2 rfl (by first | exact of_decide_eq_true rfl | (simp; done)) ?_; clear hst; intro WS7 hst; simp only [List.set_cons_zero, List.set_cons_succ] at hst))
    | fail)
   go_upto_region 5 with (first
    | (first | (refine L_cutV (d := some 35) rfl rfl rfl (by rfl) Tryd.underlying74 el_api_Digest (by decide) hx 0 r _ (Or.inl ⟨rfl, rfl⟩) (Or.inr ⟨_, _, rfl, by first | exact ev_tmp rfl | (rw [ev_tmp rfl]; congr 1; omega)⟩) (Or.inl ⟨rfl, rfl⟩) (by omega) (by omega) (by omega) (by omega) ?_; intro A35 c35 hs35) | (refine L_cutO (d := some 35) rfl rfl hst rfl (by rfl) Tryd.underlying74 el_api_Digest 0 rfl (by first | rfl | omega) 0 r _ (Or.inl ⟨rfl, rfl⟩) (Or.inr ⟨_, _, rfl, by first | exact ev_tmp rfl | (rw [ev_tmp rfl]; congr 1; omega)⟩) (Or.inl ⟨rfl, rfl⟩) (by omega) (by omega) (by omega) (by omega) ?_; clear hst; intro A35 c35 hst; simp only [List.set_cons_zero, List.set_cons_succ] at hst) | (refine L_cutO (d := some 35) rfl rfl hst rfl (by rfl) Tryd.underlying74 el_api_Digest 1 rfl (by first | rfl | omega) 0 r _ (Or.inl ⟨rfl, rfl⟩) (Or.inr ⟨_, _, rfl, by first | exact ev_tmp rfl | (rw [ev_tmp rfl]; congr 1; omega)⟩) (Or.inl ⟨rfl, rfl⟩) (by omega) (by omega) (by omega) (by omega) ?_; clear hst; intro A35 c35 hst; simp only [List.set_cons_zero, List.set_cons_succ] at hst) | (refine L_cutO (d := some 35) rfl rfl hst rfl (by rfl) Tryd.underlying74 el_api_Digest 2 rfl (by first | rfl | omega) 0 r _ (Or.inl ⟨rfl, rfl⟩) (Or.inr ⟨_, _, rfl, by first | exact ev_tmp rfl | (rw [ev_tmp rfl]; congr 1; omega)⟩) (Or.inl ⟨rfl, rfl⟩) (by omega) (by omega) (by omega) (by omega) ?_; clear hst; intro A35 c35 hst; simp only [List.set_cons_zero, List.set_cons_succ] at hst) | (refine L_cutS (d := some 35) rfl rfl rfl (by rfl) Tryd.underlying74 el_api_Digest (by decide) (by first | exact hst.old (by decide) hx | assumption | exact hst.old (by decide) (by assumption) | exact hst.sl 0 rfl | exact hst.sl 1 rfl | exact hst.sl 2 rfl) 0 r _ (Or.inl ⟨rfl, rfl⟩) (Or.inr ⟨_, _, rfl, by first | exact ev_tmp rfl | (rw [ev_tmp rfl]; congr 1; omega)⟩) (Or.inl ⟨rfl, rfl⟩) (by omega) (by omega) (by omega) (by omega) ?_; intro A35 c35 hs35))
    | fail)
   go_upto_region 7 with (first
    | fail)
   go_upto_region 8 with (first
    | (go_at_call 91; (try clear hnew); refine (HF.out _).mono ?_; rintro e Wk5 ⟨rfl, hnew⟩; replace hst := hst.keep hnew)
    | fail)
   go_upto_region 9 with (first
    | fail)
   go_upto_region 10 with (first
    | (go_at_call 82; (try clear hnew); refine (HI.out A35 c35 _ (by rw [← HC.out]; exact hst.old (by decide) hs35)).mono ?_; rintro e Wk6 ⟨O52, c52, rfl, hnew⟩; replace hst := hst.trans hnew; simp only [List.cons_append, List.nil_append] at hst)
    | (first | (refine L_loadA (d := some 50) rfl rfl rfl (by rfl) Tryd.underlying23 rfl el_api_Digest (by first | exact hst.get 0 rfl | exact hst.get 1 rfl | exact hst.get 2 rfl) (by first | rfl | exact Dig.size _ | (simp; done)) ?_) | (refine L_loadM (d := some 50) rfl rfl rfl (by rfl) Tryd.underlying23 rfl el_api_Digest (by first | assumption) (by first | rfl | exact Dig.size _ | (simp; done)) ?_))
    | fail)
   (try clear hnew)
   refine wp_region_idx [(0, 0), (1, 0), (2, 0), (3, 0), (4, 0), (5, 0), (6, 2), (7, 2), (8, 2), (9, 2)] (by kernel_rfl) (by kernel_rfl) ?_
   replace hst := hst.drew
   refine idx_q rfl rfl ?_; go_wp2_with fail
   refine idx_q rfl rfl ?_; go_wp2_with (first | (refine L_idxS (d := some 54) rfl rfl rfl (by rfl) (by rfl) Tryd.underlying74 el_api_Digest (by first | exact hst.sl 0 rfl | assumption | exact hst.sl 0 rfl | exact hst.sl 1 rfl | exact hst.sl 2 rfl | exact hst.sl 3 rfl | exact hst.old (by decide) (by assumption)) (by omega) (by omega) ?_; intro o54 p54 ha54 hr54; (first | subst ha54 | (obtain ⟨h1, h2⟩ := some_addr ha54; subst h1; subst h2; clear ha54) | skip)) | fail)
   refine idx_q rfl rfl ?_; go_wp2_with (first | (refine L_loadM (d := some 55) rfl rfl rfl (by rfl) Tryd.underlying23 rfl el_api_Digest (cs := x.arr) (by rw [← HX.out]; exact hr54) (Dig.size _) ?_) | (first | (refine L_loadA (d := some 55) rfl rfl rfl (by rfl) Tryd.underlying23 rfl el_api_Digest (by first | exact hst.get 0 rfl | exact hst.get 1 rfl | exact hst.get 2 rfl | exact hst.get 3 rfl) (by first | rfl | exact Dig.size _ | (simp; done)) ?_) | (refine L_loadM (d := some 55) rfl rfl rfl (by rfl) Tryd.underlying23 rfl el_api_Digest (by first | assumption) (by first | rfl | exact Dig.size _ | (simp; done)) ?_)) | fail)
   refine idx_q rfl rfl ?_; go_wp2_with fail
   refine idx_q rfl rfl ?_; go_wp2_with (first | (refine L_idxS (d := some 57) rfl rfl rfl (by rfl) (by rfl) Tryd.underlying74 el_api_Digest (by first | exact hst.sl 0 rfl | assumption | exact hst.sl 0 rfl | exact hst.sl 1 rfl | exact hst.sl 2 rfl | exact hst.sl 3 rfl | exact hst.old (by decide) (by assumption)) (by omega) (by omega) ?_; intro o57 p57 ha57 hr57; (first | subst ha57 | (obtain ⟨h1, h2⟩ := some_addr ha57; subst h1; subst h2; clear ha57) | skip)) | fail)
   refine idx_q rfl rfl ?_; go_wp2_with (first | (refine L_loadM (d := some 58) rfl rfl rfl (by rfl) Tryd.underlying23 rfl el_api_Digest (cs := y.arr) (by rw [← HY.out]; exact hr57) (Dig.size _) ?_) | (first | (refine L_loadA (d := some 58) rfl rfl rfl (by rfl) Tryd.underlying23 rfl el_api_Digest (by first | exact hst.get 0 rfl | exact hst.get 1 rfl | exact hst.get 2 rfl | exact hst.get 3 rfl) (by first | rfl | exact Dig.size _ | (simp; done)) ?_) | (refine L_loadM (d := some 58) rfl rfl rfl (by rfl) Tryd.underlying23 rfl el_api_Digest (by first | assumption) (by first | rfl | exact Dig.size _ | (simp; done)) ?_)) | fail)
   refine idx_g rfl ?_; go_wp2_with (first | (first | (refine L_loadA (d := some 59) rfl rfl rfl (by rfl) Tryd.underlying23 rfl el_api_Digest (by first | exact hst.get 0 rfl | exact hst.get 1 rfl | exact hst.get 2 rfl | exact hst.get 3 rfl) (by first | rfl | exact Dig.size _ | (simp; done)) ?_) | (refine L_loadM (d := some 59) rfl rfl rfl (by rfl) Tryd.underlying23 rfl el_api_Digest (by first | assumption) (by first | rfl | exact Dig.size _ | (simp; done)) ?_)) | fail); refine ⟨by first | exact Below.refl _ _ | exact hnew.below, ?_⟩
   refine idx_g rfl ?_; go_wp2_with (first | (refine L_loadM (d := some 55) rfl rfl rfl (by rfl) Tryd.underlying23 rfl el_api_Digest (cs := x.arr) (by rw [← HX.out]; exact hr54) (Dig.size _) ?_) | (refine L_loadM (d := some 58) rfl rfl rfl (by rfl) Tryd.underlying23 rfl el_api_Digest (cs := y.arr) (by rw [← HY.out]; exact hr57) (Dig.size _) ?_) | (go_at_call 92; (try clear hnew); with_reducible refine (rnode_any _ _ _).mono ?_; rintro e Wk7 ⟨rfl, hnew⟩; replace hst := hst.keep hnew) | fail); refine ⟨by first | exact Below.refl _ _ | exact hnew.below, ?_⟩
   refine idx_g rfl ?_; go_wp2_with (first | (refine L_buildS (d := some 61) rfl rfl rfl [_, _] (bs_2 (ev_tmp rfl) (ev_tmp rfl)) rfl Tryd.underlying74 el_api_Digest rfl (by first | (simp [Value.cells]; done) | (simp [Value.cells, Dig.size]; done)) (by decide) (by decide) ?_; (try clear hnew); intro g61 W61 hnew; replace hst := hst.trans hnew; simp only [List.cons_append, List.nil_append] at hst; simp only [List.flatMap_cons, List.flatMap_nil, List.append_nil, Value.cells, List.toList_toArray] at hst) | fail); refine ⟨by first | exact Below.refl _ _ | exact hnew.below, ?_⟩
   refine idx_g rfl ?_; go_wp2_with fail; refine ⟨by first | exact Below.refl _ _ | exact hnew.below, ?_⟩
   refine idx_nil ?_
   go_wp2_with fail
   go_ret
   exact ⟨_, _, rfl, hst.pick [0] (by decide)⟩
  ·rw [plN_right h (by omega) hk2] at hk
   have hk' : ¬ (m : Int) ≤ (halfN n : Int) := by omega
   obtain ⟨r, hr'⟩ : ∃ r, r = plN (n - halfN n) (m - halfN n) false := ⟨_, rfl⟩
   rw [← hr'] at hk
   subst hk
   obtain ⟨q, d, rfl, hq, hp, hc⟩ := path_last p r hl
   rw [grN_right h (by omega) hk2]
   have HP := Lib.hid (show ((digsL (q ++ [d])).drop ((r : Int).toNat * 32)).take 32 = d.arr.toList from hp)
   have HC := Lib.hid hc
   have HI := Lib.hid (fun A c w hs => ih (n - halfN n) (by omega) (m - halfN n) false old q A r c w hs hr' (by omega) (by omega) (by omega))
   have e1 : (((m - halfN n : Nat)) : Int) = (m : Int) - (halfN n : Int) := by omega
   have e2 : (((n - halfN n : Nat)) : Int) = (n : Int) - (halfN n : Int) := by omega
   rw [e1, e2] at HI
   have H2 := two_at (grN (n - halfN n) (m - halfN n) false old q).1 (grN (n - halfN n) (m - halfN n) false old q).2
   clear hp hc hq hl ih hr' h e1 e2
   generalize (grN (n - halfN n) (m - halfN n) false old q).1 = x at *
   generalize (grN (n - halfN n) (m - halfN n) false old q).2 = y at *
   generalize halfN n = hf at *
   obtain ⟨HX, HY⟩ := H2
   rw [digsL_two (nodeN d x) (nodeN d y)]
   generalize digsL [x, y] = lxy at *
   generalize digsL (q ++ [d]) = lx at *
   go_enter Tryd.func82, Tryd.ntmps82
   go_upto_region 1 with (first
    | (refine L_boxA (d := some 8) rfl rfl rfl (ev_tmp rfl) ?_; (try clear hnew); intro g8 W8 hnew; replace hst := hst.trans hnew; simp only [List.cons_append, List.nil_append] at hst)
    | fail)
   go_upto_region 3 with (first
    | (first | (refine L_pickF (d := some 21) rfl rfl rfl (ev_tmp rfl) ev_const ?_) | (refine L_pickT (d := some 21) rfl rfl rfl (ev_tmp rfl) (ev_tmp rfl) ?_))
    | fail)
   go_upto_region 4 with (first
    | (refine L_loadM (d := some 30) rfl rfl rfl (by rfl) Tryd.underlying23 rfl el_api_Digest (cs := d.arr) (by rw [← HP.out]; exact hr29) (Dig.size _) ?_)
    | (refine L_idxS (d := some 29) rfl rfl rfl (by rfl) (by rfl) Tryd.underlying74 el_api_Digest (by first | exact hst.old (by decide) hx | assumption | exact hst.sl 0 rfl | exact hst.sl 1 rfl | exact hst.sl 2 rfl | exact hst.old (by decide) (by assumption)) (by omega) (by omega) ?_; intro o29 p29 ha29 hr29; (first | subst ha29 | (obtain ⟨h1, h2⟩ := some_addr ha29; subst h1; subst h2; clear ha29) | skip))
    | (first | (refine L_loadA (d := some 30) rfl rfl rfl (by rfl) Tryd.underlying23 rfl el_api_Digest (by first | exact hst.get 0 rfl | exact hst.get 1 rfl | exact hst.get 2 rfl) (by first | rfl | exact Dig.size _ | (simp; done)) ?_) | (refine L_loadM (d := some 30) rfl rfl rfl (by rfl) Tryd.underlying23 rfl el_api_Digest (by first | assumption) (by first | rfl | exact Dig.size _ | (simp; done)) ?_))
    | (refine L_allocA (d := some 11) rfl rfl rfl el_api_Digest ?_; (try clear hnew); intro g11 W11 hnew; replace hst := hst.trans hnew; simp only [List.cons_append, List.nil_append] at hst)
    | (refine wpl_at (.store 23 (.tmp 11) (.tmp 30)) rfl ?_; first | (refine L_storeA rfl rfl hst rfl (by rfl) (ev_tmp rfl) (by first | rfl | exact Dig.one _ | (simp; done)) el_api_Digest (by first | rfl | exact Dig.size _ | (simp; done)) 0 rfl (by first | rfl | exact Dig.size _ | (simp; done)) ?_; clear hst; intro WS7 hst; simp only [List.set_cons_zero, List.set_cons_succ] at hst) | (refine L_storeA rfl rfl hst rfl (by rfl) (ev_tmp rfl) (by first | rfl | exact Dig.one _ | (simp; done)) el_api_Digest (by first | rfl | exact Dig.size _ | (simp; done)) 1 rfl (by first | rfl | exact Dig.size _ | (simp; done)) ?_; clear hst; intro WS7 hst; simp only [List.set_cons_zero, List.set_cons_succ] at hst) | (refine L_storeA rfl rfl hst rfl (by rfl) (ev_tmp rfl) (by first | rfl | exact Dig.one _ | (simp; done)) el_api_Digest (by first | rfl | exact Dig.size _ | (simp; done)) 2 rfl (by first | rfl | exact Dig.size _ | (simp; done)) ?_; clear hst; intro WS7 hst; simp only [List.set_cons_zero, List.set_cons_succ] at hst) | (refine L_storeM rfl rfl hst rfl (by rfl) (ev_tmp rfl) (by first | rfl | exact Dig.one _ | (simp; done)) el_api_Digest (by first | rfl | exact Dig.size _ | (simp; done)) 0 rfl (by first | exact of_decide_eq_true rfl | (simp; done)) ?_; clear hst; intro WS7 hst; simp only [List.set_cons_zero, List.set_cons_succ] at hst)  | (refine L_storeM rfl rfl hst rfl (by rfl) (ev_tmp rfl) (by first | rfl | exact Dig.one _ | (simp; done)) el_api_Digest (by first | rfl | exact Dig.size _ | (simp; done)) 1 rfl (by first | exact of_decide_eq_true rfl | (simp; done)) ?_; clear hst; intro WS7 hst; simp only [List.set_cons_zero, List.set_cons_succ] at hst)  | (refine L_storeM rfl rfl hst rfl (by rfl) (ev_tmp rfl) (by first | rfl | exact Dig.one _ | (simp; done)) el_api_Digest (by first | rfl | exact Dig.size _ | (simp; done)) 2 rfl (by first | exact of_decide_eq_true rfl | (simp; done)) ?_; clear hst; intro WS7 hst; simp only [List.set_cons_zero, List.set_cons_succ] at hst))
    | fail)
   go_upto_region 5 with (first
    | (first | (refine L_cutV (d := some 35) rfl rfl rfl (by rfl) Tryd.underlying74 el_api_Digest (by decide) hx 0 r _ (Or.inl ⟨rfl, rfl⟩) (Or.inr ⟨_, _, rfl, by first | exact ev_tmp rfl | (rw [ev_tmp rfl]; congr 1; omega)⟩) (Or.inl ⟨rfl, rfl⟩) (by omega) (by omega) (by omega) (by omega) ?_; intro A35 c35 hs35) | (refine L_cutO (d := some 35) rfl rfl hst rfl (by rfl) Tryd.underlying74 el_api_Digest 0 rfl (by first | rfl | omega) 0 r _ (Or.inl ⟨rfl, rfl⟩) (Or.inr ⟨_, _, rfl, by first | exact ev_tmp rfl | (rw [ev_tmp rfl]; congr 1; omega)⟩) (Or.inl ⟨rfl, rfl⟩) (by omega) (by omega) (by omega) (by omega) ?_; clear hst; intro A35 c35 hst; simp only [List.set_cons_zero, List.set_cons_succ] at hst) | (refine L_cutO (d := some 35) rfl rfl hst rfl (by rfl) Tryd.underlying74 el_api_Digest 1 rfl (by first | rfl | omega) 0 r _ (Or.inl ⟨rfl, rfl⟩) (Or.inr ⟨_, _, rfl, by first | exact ev_tmp rfl | (rw [ev_tmp rfl]; congr 1; omega)⟩) (Or.inl ⟨rfl, rfl⟩) (by omega) (by omega) (by omega) (by omega) ?_; clear hst; intro A35 c35 hst; simp only [List.set_cons_zero, List.set_cons_succ] at hst) | (refine L_cutO (d := some 35) rfl rfl hst rfl (by rfl) Tryd.underlying74 el_api_Digest 2 rfl (by first | rfl | omega) 0 r _ (Or.inl ⟨rfl, rfl⟩) (Or.inr ⟨_, _, rfl, by first | exact ev_tmp rfl | (rw [ev_tmp rfl]; congr 1; omega)⟩) (Or.inl ⟨rfl, rfl⟩) (by omega) (by omega) (by omega) (by omega) ?_; clear hst; intro A35 c35 hst; simp only [List.set_cons_zero, List.set_cons_succ] at hst) | (refine L_cutS (d := some 35) rfl rfl rfl (by rfl) Tryd.underlying74 el_api_Digest (by decide) (by first | exact hst.old (by decide) hx | assumption | exact hst.old (by decide) (by assumption) | exact hst.sl 0 rfl | exact hst.sl 1 rfl | exact hst.sl 2 rfl) 0 r _ (Or.inl ⟨rfl, rfl⟩) (Or.inr ⟨_, _, rfl, by first | exact ev_tmp rfl | (rw [ev_tmp rfl]; congr 1; omega)⟩) (Or.inl ⟨rfl, rfl⟩) (by omega) (by omega) (by omega) (by omega) ?_; intro A35 c35 hs35))
    | fail)
   go_upto_region 7 with (first
    | fail)
   go_upto_region 8 with (first
    | (go_at_call 91; (try clear hnew); refine (HF.out _).mono ?_; rintro e Wk8 ⟨rfl, hnew⟩; replace hst := hst.keep hnew)
    | fail)
   go_upto_region 11 with (first
    | fail)
   go_upto_region 12 with (first
    | (go_at_call 82; (try clear hnew); refine (HI.out A35 c35 _ (by rw [← HC.out]; exact hst.old (by decide) hs35)).mono ?_; rintro e Wk9 ⟨O70, c70, rfl, hnew⟩; replace hst := hst.trans hnew; simp only [List.cons_append, List.nil_append] at hst)
    | (first | (refine L_loadA (d := some 68) rfl rfl rfl (by rfl) Tryd.underlying23 rfl el_api_Digest (by first | exact hst.get 0 rfl | exact hst.get 1 rfl | exact hst.get 2 rfl) (by first | rfl | exact Dig.size _ | (simp; done)) ?_) | (refine L_loadM (d := some 68) rfl rfl rfl (by rfl) Tryd.underlying23 rfl el_api_Digest (by first | assumption) (by first | rfl | exact Dig.size _ | (simp; done)) ?_))
    | fail)
   (try clear hnew)
   refine wp_region_idx [(0, 0), (1, 0), (2, 0), (3, 0), (5, 0), (6, 0), (7, 0), (8, 0), (4, 2), (9, 2), (10, 2), (11, 2)] (by kernel_rfl) (by kernel_rfl) ?_
   replace hst := hst.drew
   refine idx_q rfl rfl ?_; go_wp2_with (first | (first | (refine L_loadA (d := some 71) rfl rfl rfl (by rfl) Tryd.underlying23 rfl el_api_Digest (by first | exact hst.get 0 rfl | exact hst.get 1 rfl | exact hst.get 2 rfl | exact hst.get 3 rfl) (by first | rfl | exact Dig.size _ | (simp; done)) ?_) | (refine L_loadM (d := some 71) rfl rfl rfl (by rfl) Tryd.underlying23 rfl el_api_Digest (by first | assumption) (by first | rfl | exact Dig.size _ | (simp; done)) ?_)) | fail)
   refine idx_q rfl rfl ?_; go_wp2_with fail
   refine idx_q rfl rfl ?_; go_wp2_with (first | (refine L_idxS (d := some 73) rfl rfl rfl (by rfl) (by rfl) Tryd.underlying74 el_api_Digest (by first | exact hst.sl 0 rfl | assumption | exact hst.sl 0 rfl | exact hst.sl 1 rfl | exact hst.sl 2 rfl | exact hst.sl 3 rfl | exact hst.old (by decide) (by assumption)) (by omega) (by omega) ?_; intro o73 p73 ha73 hr73; (first | subst ha73 | (obtain ⟨h1, h2⟩ := some_addr ha73; subst h1; subst h2; clear ha73) | skip)) | fail)
   refine idx_q rfl rfl ?_; go_wp2_with (first | (refine L_loadM (d := some 74) rfl rfl rfl (by rfl) Tryd.underlying23 rfl el_api_Digest (cs := x.arr) (by rw [← HX.out]; exact hr73) (Dig.size _) ?_) | (first | (refine L_loadA (d := some 74) rfl rfl rfl (by rfl) Tryd.underlying23 rfl el_api_Digest (by first | exact hst.get 0 rfl | exact hst.get 1 rfl | exact hst.get 2 rfl | exact hst.get 3 rfl) (by first | rfl | exact Dig.size _ | (simp; done)) ?_) | (refine L_loadM (d := some 74) rfl rfl rfl (by rfl) Tryd.underlying23 rfl el_api_Digest (by first | assumption) (by first | rfl | exact Dig.size _ | (simp; done)) ?_)) | fail)
   refine idx_q rfl rfl ?_; go_wp2_with (first | (first | (refine L_loadA (d := some 76) rfl rfl rfl (by rfl) Tryd.underlying23 rfl el_api_Digest (by first | exact hst.get 0 rfl | exact hst.get 1 rfl | exact hst.get 2 rfl | exact hst.get 3 rfl) (by first | rfl | exact Dig.size _ | (simp; done)) ?_) | (refine L_loadM (d := some 76) rfl rfl rfl (by rfl) Tryd.underlying23 rfl el_api_Digest (by first | assumption) (by first | rfl | exact Dig.size _ | (simp; done)) ?_)) | fail)
   refine idx_q rfl rfl ?_; go_wp2_with fail
   refine idx_q rfl rfl ?_; go_wp2_with (first | (refine L_idxS (d := some 78) rfl rfl rfl (by rfl) (by rfl) Tryd.underlying74 el_api_Digest (by first | exact hst.sl 0 rfl | assumption | exact hst.sl 0 rfl | exact hst.sl 1 rfl | exact hst.sl 2 rfl | exact hst.sl 3 rfl | exact hst.old (by decide) (by assumption)) (by omega) (by omega) ?_; intro o78 p78 ha78 hr78; (first | subst ha78 | (obtain ⟨h1, h2⟩ := some_addr ha78; subst h1; subst h2; clear ha78) | skip)) | fail)
   refine idx_q rfl rfl ?_; go_wp2_with (first | (refine L_loadM (d := some 79) rfl rfl rfl (by rfl) Tryd.underlying23 rfl el_api_Digest (cs := y.arr) (by rw [← HY.out]; exact hr78) (Dig.size _) ?_) | (first | (refine L_loadA (d := some 79) rfl rfl rfl (by rfl) Tryd.underlying23 rfl el_api_Digest (by first | exact hst.get 0 rfl | exact hst.get 1 rfl | exact hst.get 2 rfl | exact hst.get 3 rfl) (by first | rfl | exact Dig.size _ | (simp; done)) ?_) | (refine L_loadM (d := some 79) rfl rfl rfl (by rfl) Tryd.underlying23 rfl el_api_Digest (by first | assumption) (by first | rfl | exact Dig.size _ | (simp; done)) ?_)) | fail)
   refine idx_g rfl ?_; go_wp2_with (first | (refine L_loadM (d := some 74) rfl rfl rfl (by rfl) Tryd.underlying23 rfl el_api_Digest (cs := x.arr) (by rw [← HX.out]; exact hr73) (Dig.size _) ?_) | (refine L_loadM (d := some 79) rfl rfl rfl (by rfl) Tryd.underlying23 rfl el_api_Digest (cs := y.arr) (by rw [← HY.out]; exact hr78) (Dig.size _) ?_) | (go_at_call 92; (try clear hnew); with_reducible refine (rnode_any _ _ _).mono ?_; rintro e Wk10 ⟨rfl, hnew⟩; replace hst := hst.keep hnew) | fail); refine ⟨by first | exact Below.refl _ _ | exact hnew.below, ?_⟩
   refine idx_g rfl ?_; go_wp2_with (first | (refine L_loadM (d := some 74) rfl rfl rfl (by rfl) Tryd.underlying23 rfl el_api_Digest (cs := x.arr) (by rw [← HX.out]; exact hr73) (Dig.size _) ?_) | (refine L_loadM (d := some 79) rfl rfl rfl (by rfl) Tryd.underlying23 rfl el_api_Digest (cs := y.arr) (by rw [← HY.out]; exact hr78) (Dig.size _) ?_) | (go_at_call 92; (try clear hnew); with_reducible refine (rnode_any _ _ _).mono ?_; rintro e Wk10 ⟨rfl, hnew⟩; replace hst := hst.keep hnew) | fail); refine ⟨by first | exact Below.refl _ _ | exact hnew.below, ?_⟩
   refine idx_g rfl ?_; go_wp2_with (first | (refine L_buildS (d := some 81) rfl rfl rfl [_, _] (bs_2 (ev_tmp rfl) (ev_tmp rfl)) rfl Tryd.underlying74 el_api_Digest rfl (by first | (simp [Value.cells]; done) | (simp [Value.cells, Dig.size]; done)) (by decide) (by decide) ?_; (try clear hnew); intro g81 W81 hnew; replace hst := hst.trans hnew; simp only [List.cons_append, List.nil_append] at hst; simp only [List.flatMap_cons, List.flatMap_nil, List.append_nil, Value.cells, List.toList_toArray] at hst) | fail); refine ⟨by first | exact Below.refl _ _ | exact hnew.below, ?_⟩
   refine idx_g rfl ?_; go_wp2_with fail; refine ⟨by first | exact Below.refl _ _ | exact hnew.below, ?_⟩
   refine idx_nil ?_
   go_wp2_with fail
   go_ret
   exact ⟨_, _, rfl, hst.pick [0] (by decide)⟩
end Go.Proofs.YtkbleigmfcleaaaDoor

set_option maxRecDepth 20000
set_option linter.unusedSimpArgs false
set_option linter.unusedVariables false
namespace Go.Proofs.YtkbleigmfcleaaaDoor
open Go.RowKit
theorem growsB_no {m s : Int} {old now : Dig} {p : List Dig} (h : s < 1 ∨ 256 < s ∨ m < 1 ∨ s < m ∨ p.length ≠ plN s.toNat m.toNat true) : growsB m s old now p = false := by
 unfold growsB
 rw [decide_eq_false (by omega), Bool.false_and]
theorem growsB_nat {a b : Nat} {old now : Dig} {p : List Dig} (h1 : 1 ≤ a) (h2 : a ≤ b) (h3 : b ≤ 256) (h4 : p.length = plN b a true) : growsB (a : Int) (b : Int) old now p = (decide ((grN b a true old p).1 = old) && decide ((grN b a true old p).2 = now)) := by
 unfold growsB
 rw [Int.toNat_natCast, Int.toNat_natCast, decide_eq_true ⟨by omega, by omega, by omega, h4⟩, Bool.true_and]
set_option maxHeartbeats 4000000 in
theorem rgrows_any (m s : Int) (old now : Dig) (p : List Dig) (P : Option Addr) (k pc : Nat) (w : World) (hs : SlR w P k pc 32 (digsL p)) :
  Calls Tryd.prog 68 #[.int .i64 m, .int .i64 s, old.v, now.v, .slice P k pc] w fun e w' => e = .returned (.bool (growsB m s old now p)) ∧ St w w' [] := by
 have hst := St.refl w
 have hl : p.length = k := by have := hs.1; rw [length_digsL] at this; omega
 by_cases c1 : s < 1
 ·rw [growsB_no (by omega)]
  clear hl
  go_enter Tryd.func68, Tryd.ntmps68
  go_upto_region 1 with (go_big_may; first
   | (go_skip)
   | (refine L_boxA (d := some 7) rfl rfl rfl (ev_tmp rfl) ?_; (try clear hnew); intro g7 W7 hnew; replace hst := hst.trans hnew; simp only [List.cons_append, List.nil_append] at hst)
   | (refine L_boxA (d := some 8) rfl rfl rfl (ev_tmp rfl) ?_; (try clear hnew); intro g8 W8 hnew; replace hst := hst.trans hnew; simp only [List.cons_append, List.nil_append] at hst)
   | fail)
  go_upto_region 2 with (go_big_may; first
   | (go_skip)
   | fail)
  go_wp2_with (first
   | (go_skip)
   | fail)
  go_ret
  exact ⟨rfl, hst.forget⟩
 by_cases c2 : 256 < s
 ·rw [growsB_no (by omega)]
  clear hl
  go_enter Tryd.func68, Tryd.ntmps68
  go_upto_region 1 with (go_big_may; first
   | (go_skip)
   | (refine L_boxA (d := some 7) rfl rfl rfl (ev_tmp rfl) ?_; (try clear hnew); intro g7 W7 hnew; replace hst := hst.trans hnew; simp only [List.cons_append, List.nil_append] at hst)
   | (refine L_boxA (d := some 8) rfl rfl rfl (ev_tmp rfl) ?_; (try clear hnew); intro g8 W8 hnew; replace hst := hst.trans hnew; simp only [List.cons_append, List.nil_append] at hst)
   | fail)
  go_upto_region 2 with (go_big_may; first
   | (go_skip)
   | fail)
  go_wp2_with (first
   | (go_skip)
   | fail)
  go_ret
  exact ⟨rfl, hst.forget⟩
 by_cases c3 : m < 1
 ·rw [growsB_no (by omega)]
  clear hl
  go_enter Tryd.func68, Tryd.ntmps68
  go_upto_region 1 with (go_big_may; first
   | (go_skip)
   | (refine L_boxA (d := some 7) rfl rfl rfl (ev_tmp rfl) ?_; (try clear hnew); intro g7 W7 hnew; replace hst := hst.trans hnew; simp only [List.cons_append, List.nil_append] at hst)
   | (refine L_boxA (d := some 8) rfl rfl rfl (ev_tmp rfl) ?_; (try clear hnew); intro g8 W8 hnew; replace hst := hst.trans hnew; simp only [List.cons_append, List.nil_append] at hst)
   | fail)
  go_upto_region 2 with (go_big_may; first
   | (go_skip)
   | fail)
  go_wp2_with (first
   | (go_skip)
   | fail)
  go_ret
  exact ⟨rfl, hst.forget⟩
 by_cases c4 : s < m
 ·rw [growsB_no (by omega)]
  clear hl
  go_enter Tryd.func68, Tryd.ntmps68
  go_upto_region 1 with (go_big_may; first
   | (go_skip)
   | (refine L_boxA (d := some 7) rfl rfl rfl (ev_tmp rfl) ?_; (try clear hnew); intro g7 W7 hnew; replace hst := hst.trans hnew; simp only [List.cons_append, List.nil_append] at hst)
   | (refine L_boxA (d := some 8) rfl rfl rfl (ev_tmp rfl) ?_; (try clear hnew); intro g8 W8 hnew; replace hst := hst.trans hnew; simp only [List.cons_append, List.nil_append] at hst)
   | fail)
  go_upto_region 2 with (go_big_may; first
   | (go_skip)
   | fail)
  go_wp2_with (first
   | (go_skip)
   | fail)
  go_ret
  exact ⟨rfl, hst.forget⟩
 obtain ⟨a, rfl⟩ : ∃ a : Nat, m = a := ⟨m.toNat, by omega⟩
 obtain ⟨b, rfl⟩ : ∃ b : Nat, s = b := ⟨s.toNat, by omega⟩
 have HPL := Lib.hid (fun w => rplong_any b a true w (by omega) (by omega) (by omega))
 by_cases c5 : k = plN b a true
 ·rw [growsB_nat (by omega) (by omega) (by omega) (by omega)]
  have HRR := Lib.hid (fun w hs => rroots_any b a true old p P k pc w hs c5 (by omega) (by omega) (by omega))
  rw [← c5] at HPL
  have H2 := two_at (grN b a true old p).1 (grN b a true old p).2
  generalize (grN b a true old p).1 = x at *
  generalize (grN b a true old p).2 = y at *
  obtain ⟨HX, HY⟩ := H2
  generalize digsL [x, y] = lxy at *
  have e5 : ((k : Int) != (k : Int)) = false := by simp
  clear hl c5
  by_cases c6 : x = old
  ·rw [decide_eq_true c6, Bool.true_and]
   have HD := Lib.hid (decide_eq_true c6)
   clear c6
   go_enter Tryd.func68, Tryd.ntmps68
   go_upto_region 1 with (go_big_may; first
    | (go_skip)
    | (refine L_boxA (d := some 7) rfl rfl rfl (ev_tmp rfl) ?_; (try clear hnew); intro g7 W7 hnew; replace hst := hst.trans hnew; simp only [List.cons_append, List.nil_append] at hst)
    | (refine L_boxA (d := some 8) rfl rfl rfl (ev_tmp rfl) ?_; (try clear hnew); intro g8 W8 hnew; replace hst := hst.trans hnew; simp only [List.cons_append, List.nil_append] at hst)
    | fail)
   go_upto_region 3 with (go_big_may; first
    | (go_skip)
    | (go_at_call 81; (try clear hnew); refine (HPL.out _).mono ?_; rintro e Wk1 ⟨rfl, hnew⟩; replace hst := hst.keep hnew)
    | fail)
   go_upto_region 4 with (go_big_may; first
    | (go_skip)
    | (go_at_call 82; (try clear hnew); refine (HRR.out _ (hst.old (by decide) hs)).mono ?_; rintro e Wk2 ⟨O52, c52, rfl, hnew⟩; replace hst := hst.trans hnew; simp only [List.cons_append, List.nil_append] at hst)
    | (first | (refine L_loadA (d := some 37) rfl rfl rfl (by rfl) Tryd.underlying23 rfl el_api_Digest (by first | exact hst.get 0 rfl | exact hst.get 1 rfl) (by first | rfl | exact Dig.size _ | (simp; done)) ?_) | (refine L_loadM (d := some 37) rfl rfl rfl (by rfl) Tryd.underlying23 rfl el_api_Digest (by first | assumption) (by first | rfl | exact Dig.size _ | (simp; done)) ?_))
    | fail)
   (try clear hnew)
   refine wp_region_idx [(0, 0), (1, 0), (2, 0), (3, 2), (4, 2), (5, 2), (6, 0), (7, 0), (8, 0), (9, 2), (10, 2), (11, 2), (12, 2)] (by kernel_rfl) (by kernel_rfl) ?_
   replace hst := hst.drew
   refine idx_q rfl rfl ?_; go_wp2_with fail
   refine idx_q rfl rfl ?_; go_wp2_with (first | (refine L_idxS (d := some 41) rfl rfl rfl (by rfl) (by rfl) Tryd.underlying74 el_api_Digest (by first | exact hst.sl 0 rfl | assumption | exact hst.sl 0 rfl | exact hst.sl 1 rfl | exact hst.sl 2 rfl | exact hst.old (by decide) (by assumption)) (by omega) (by omega) ?_; intro o41 p41 ha41 hr41; (first | subst ha41 | (obtain ⟨h1, h2⟩ := some_addr ha41; subst h1; subst h2; clear ha41) | skip)) | fail)
   refine idx_q rfl rfl ?_; go_wp2_with (first | (refine L_loadM (d := some 42) rfl rfl rfl (by rfl) Tryd.underlying23 rfl el_api_Digest (cs := x.arr) (by rw [← HX.out]; exact hr41) (Dig.size _) ?_) | (first | (refine L_loadA (d := some 42) rfl rfl rfl (by rfl) Tryd.underlying23 rfl el_api_Digest (by first | exact hst.get 0 rfl | exact hst.get 1 rfl | exact hst.get 2 rfl) (by first | rfl | exact Dig.size _ | (simp; done)) ?_) | (refine L_loadM (d := some 42) rfl rfl rfl (by rfl) Tryd.underlying23 rfl el_api_Digest (by first | assumption) (by first | rfl | exact Dig.size _ | (simp; done)) ?_)) | fail)
   refine idx_g rfl ?_; go_wp2_with (first | (first | (refine L_loadA (d := some 43) rfl rfl rfl (by rfl) Tryd.underlying23 rfl el_api_Digest (by first | exact hst.get 0 rfl | exact hst.get 1 rfl | exact hst.get 2 rfl) (by first | rfl | exact Dig.size _ | (simp; done)) ?_) | (refine L_loadM (d := some 43) rfl rfl rfl (by rfl) Tryd.underlying23 rfl el_api_Digest (by first | assumption) (by first | rfl | exact Dig.size _ | (simp; done)) ?_)) | fail); refine ⟨by first | exact Below.refl _ _ | exact hnew.below, ?_⟩
   refine idx_g rfl ?_; go_wp2_with (first | (refine L_loadM (d := some 42) rfl rfl rfl (by rfl) Tryd.underlying23 rfl el_api_Digest (cs := x.arr) (by rw [← HX.out]; exact hr41) (Dig.size _) ?_) | (refine L_loadM (d := some 48) rfl rfl rfl (by rfl) Tryd.underlying23 rfl el_api_Digest (cs := y.arr) (by rw [← HY.out]; exact hr47) (Dig.size _) ?_) | (refine L_eqD (d := some 44) rfl rfl rfl Tryd.underlying23 Tryd.underlying5 el_uint8 eqG_D (ev_tmp rfl) (ev_tmp rfl) ?_; (try rw [HD.out])) | fail); refine ⟨by first | exact Below.refl _ _ | exact hnew.below, ?_⟩
   refine idx_g rfl ?_; go_wp2_with fail; refine ⟨by first | exact Below.refl _ _ | exact hnew.below, ?_⟩
   refine idx_q rfl rfl ?_; go_wp2_with (first | (refine L_un (t := 46) rfl (by rfl) rfl ?_) | fail)
   refine idx_q rfl rfl ?_; go_wp2_with (first | (refine L_idxS (d := some 47) rfl rfl rfl (by rfl) (by rfl) Tryd.underlying74 el_api_Digest (by first | exact hst.sl 0 rfl | assumption | exact hst.sl 0 rfl | exact hst.sl 1 rfl | exact hst.sl 2 rfl | exact hst.old (by decide) (by assumption)) (by omega) (by omega) ?_; intro o47 p47 ha47 hr47; (first | subst ha47 | (obtain ⟨h1, h2⟩ := some_addr ha47; subst h1; subst h2; clear ha47) | skip)) | (refine L_un (t := 47) rfl (by rfl) rfl ?_) | fail)
   refine idx_q rfl rfl ?_; go_wp2_with (first | (refine L_loadM (d := some 48) rfl rfl rfl (by rfl) Tryd.underlying23 rfl el_api_Digest (cs := y.arr) (by rw [← HY.out]; exact hr47) (Dig.size _) ?_) | (first | (refine L_loadA (d := some 48) rfl rfl rfl (by rfl) Tryd.underlying23 rfl el_api_Digest (by first | exact hst.get 0 rfl | exact hst.get 1 rfl | exact hst.get 2 rfl) (by first | rfl | exact Dig.size _ | (simp; done)) ?_) | (refine L_loadM (d := some 48) rfl rfl rfl (by rfl) Tryd.underlying23 rfl el_api_Digest (by first | assumption) (by first | rfl | exact Dig.size _ | (simp; done)) ?_)) | (refine L_un (t := 48) rfl (by rfl) rfl ?_) | fail)
   refine idx_g rfl ?_; go_wp2_with (first | (first | (refine L_loadA (d := some 49) rfl rfl rfl (by rfl) Tryd.underlying23 rfl el_api_Digest (by first | exact hst.get 0 rfl | exact hst.get 1 rfl | exact hst.get 2 rfl) (by first | rfl | exact Dig.size _ | (simp; done)) ?_) | (refine L_loadM (d := some 49) rfl rfl rfl (by rfl) Tryd.underlying23 rfl el_api_Digest (by first | assumption) (by first | rfl | exact Dig.size _ | (simp; done)) ?_)) | (refine L_un (t := 49) rfl (by rfl) rfl ?_) | fail); refine ⟨by first | exact Below.refl _ _ | exact hnew.below, ?_⟩
   refine idx_g rfl ?_; go_wp2_with (first | (refine L_loadM (d := some 42) rfl rfl rfl (by rfl) Tryd.underlying23 rfl el_api_Digest (cs := x.arr) (by rw [← HX.out]; exact hr41) (Dig.size _) ?_) | (refine L_loadM (d := some 48) rfl rfl rfl (by rfl) Tryd.underlying23 rfl el_api_Digest (cs := y.arr) (by rw [← HY.out]; exact hr47) (Dig.size _) ?_) | (refine L_eqD (d := some 50) rfl rfl rfl Tryd.underlying23 Tryd.underlying5 el_uint8 eqG_D (ev_tmp rfl) (ev_tmp rfl) ?_) | (refine L_un (t := 50) rfl (by rfl) rfl ?_) | fail); refine ⟨by first | exact Below.refl _ _ | exact hnew.below, ?_⟩
   refine idx_g rfl ?_; go_wp2_with fail; refine ⟨by first | exact Below.refl _ _ | exact hnew.below, ?_⟩
   refine idx_g rfl ?_; go_wp2_with fail; refine ⟨by first | exact Below.refl _ _ | exact hnew.below, ?_⟩
   refine idx_nil ?_
   go_wp2_with fail
   go_ret
   exact ⟨rfl, hst.forget⟩
  ·rw [decide_eq_false c6, Bool.false_and]
   have HD := Lib.hid (decide_eq_false c6)
   clear c6
   go_enter Tryd.func68, Tryd.ntmps68
   go_upto_region 1 with (go_big_may; first
    | (go_skip)
    | (refine L_boxA (d := some 7) rfl rfl rfl (ev_tmp rfl) ?_; (try clear hnew); intro g7 W7 hnew; replace hst := hst.trans hnew; simp only [List.cons_append, List.nil_append] at hst)
    | (refine L_boxA (d := some 8) rfl rfl rfl (ev_tmp rfl) ?_; (try clear hnew); intro g8 W8 hnew; replace hst := hst.trans hnew; simp only [List.cons_append, List.nil_append] at hst)
    | fail)
   go_upto_region 3 with (go_big_may; first
    | (go_skip)
    | (go_at_call 81; (try clear hnew); refine (HPL.out _).mono ?_; rintro e Wk3 ⟨rfl, hnew⟩; replace hst := hst.keep hnew)
    | fail)
   go_upto_region 4 with (go_big_may; first
    | (go_skip)
    | (go_at_call 82; (try clear hnew); refine (HRR.out _ (hst.old (by decide) hs)).mono ?_; rintro e Wk4 ⟨O52, c52, rfl, hnew⟩; replace hst := hst.trans hnew; simp only [List.cons_append, List.nil_append] at hst)
    | (first | (refine L_loadA (d := some 37) rfl rfl rfl (by rfl) Tryd.underlying23 rfl el_api_Digest (by first | exact hst.get 0 rfl | exact hst.get 1 rfl) (by first | rfl | exact Dig.size _ | (simp; done)) ?_) | (refine L_loadM (d := some 37) rfl rfl rfl (by rfl) Tryd.underlying23 rfl el_api_Digest (by first | assumption) (by first | rfl | exact Dig.size _ | (simp; done)) ?_))
    | fail)
   (try clear hnew)
   refine wp_region_idx [(0, 0), (1, 0), (2, 0), (3, 2), (4, 2), (5, 2), (6, 0), (7, 0), (8, 0), (9, 2), (10, 2), (11, 2), (12, 2)] (by kernel_rfl) (by kernel_rfl) ?_
   replace hst := hst.drew
   refine idx_q rfl rfl ?_; go_wp2_with fail
   refine idx_q rfl rfl ?_; go_wp2_with (first | (refine L_idxS (d := some 41) rfl rfl rfl (by rfl) (by rfl) Tryd.underlying74 el_api_Digest (by first | exact hst.sl 0 rfl | assumption | exact hst.sl 0 rfl | exact hst.sl 1 rfl | exact hst.sl 2 rfl | exact hst.old (by decide) (by assumption)) (by omega) (by omega) ?_; intro o41 p41 ha41 hr41; (first | subst ha41 | (obtain ⟨h1, h2⟩ := some_addr ha41; subst h1; subst h2; clear ha41) | skip)) | fail)
   refine idx_q rfl rfl ?_; go_wp2_with (first | (refine L_loadM (d := some 42) rfl rfl rfl (by rfl) Tryd.underlying23 rfl el_api_Digest (cs := x.arr) (by rw [← HX.out]; exact hr41) (Dig.size _) ?_) | (first | (refine L_loadA (d := some 42) rfl rfl rfl (by rfl) Tryd.underlying23 rfl el_api_Digest (by first | exact hst.get 0 rfl | exact hst.get 1 rfl | exact hst.get 2 rfl) (by first | rfl | exact Dig.size _ | (simp; done)) ?_) | (refine L_loadM (d := some 42) rfl rfl rfl (by rfl) Tryd.underlying23 rfl el_api_Digest (by first | assumption) (by first | rfl | exact Dig.size _ | (simp; done)) ?_)) | fail)
   refine idx_g rfl ?_; go_wp2_with (first | (first | (refine L_loadA (d := some 43) rfl rfl rfl (by rfl) Tryd.underlying23 rfl el_api_Digest (by first | exact hst.get 0 rfl | exact hst.get 1 rfl | exact hst.get 2 rfl) (by first | rfl | exact Dig.size _ | (simp; done)) ?_) | (refine L_loadM (d := some 43) rfl rfl rfl (by rfl) Tryd.underlying23 rfl el_api_Digest (by first | assumption) (by first | rfl | exact Dig.size _ | (simp; done)) ?_)) | fail); refine ⟨by first | exact Below.refl _ _ | exact hnew.below, ?_⟩
   refine idx_g rfl ?_; go_wp2_with (first | (refine L_loadM (d := some 42) rfl rfl rfl (by rfl) Tryd.underlying23 rfl el_api_Digest (cs := x.arr) (by rw [← HX.out]; exact hr41) (Dig.size _) ?_) | (refine L_eqD (d := some 44) rfl rfl rfl Tryd.underlying23 Tryd.underlying5 el_uint8 eqG_D (ev_tmp rfl) (ev_tmp rfl) ?_; (try rw [HD.out])) | fail); refine ⟨by first | exact Below.refl _ _ | exact hnew.below, ?_⟩
   refine idx_g rfl ?_; go_wp2_with fail; refine ⟨by first | exact Below.refl _ _ | exact hnew.below, ?_⟩
   refine idx_q rfl rfl ?_; go_wp2_with (first | (refine L_un (t := 46) rfl (by rfl) rfl ?_) | fail)
   refine idx_q rfl rfl ?_; go_wp2_with (first | (refine L_un (t := 47) rfl (by rfl) rfl ?_) | (refine L_idxS (d := some 47) rfl rfl rfl (by rfl) (by rfl) Tryd.underlying74 el_api_Digest (by first | exact hst.sl 0 rfl | assumption | exact hst.sl 0 rfl | exact hst.sl 1 rfl | exact hst.sl 2 rfl | exact hst.old (by decide) (by assumption)) (by omega) (by omega) ?_; intro o47 p47 ha47 hr47; (first | subst ha47 | (obtain ⟨h1, h2⟩ := some_addr ha47; subst h1; subst h2; clear ha47) | skip)) | fail)
   refine idx_q rfl rfl ?_; go_wp2_with (first | (refine L_un (t := 48) rfl (by rfl) rfl ?_) | (first | (refine L_loadA (d := some 48) rfl rfl rfl (by rfl) Tryd.underlying23 rfl el_api_Digest (by first | exact hst.get 0 rfl | exact hst.get 1 rfl | exact hst.get 2 rfl) (by first | rfl | exact Dig.size _ | (simp; done)) ?_) | (refine L_loadM (d := some 48) rfl rfl rfl (by rfl) Tryd.underlying23 rfl el_api_Digest (by first | assumption) (by first | rfl | exact Dig.size _ | (simp; done)) ?_)) | fail)
   refine idx_g rfl ?_; go_wp2_with (first | (refine L_un (t := 49) rfl (by rfl) rfl ?_) | (first | (refine L_loadA (d := some 49) rfl rfl rfl (by rfl) Tryd.underlying23 rfl el_api_Digest (by first | exact hst.get 0 rfl | exact hst.get 1 rfl | exact hst.get 2 rfl) (by first | rfl | exact Dig.size _ | (simp; done)) ?_) | (refine L_loadM (d := some 49) rfl rfl rfl (by rfl) Tryd.underlying23 rfl el_api_Digest (by first | assumption) (by first | rfl | exact Dig.size _ | (simp; done)) ?_)) | fail); refine ⟨by first | exact Below.refl _ _ | exact hnew.below, ?_⟩
   refine idx_g rfl ?_; go_wp2_with (first | (refine L_un (t := 50) rfl (by rfl) rfl ?_) | (refine L_loadM (d := some 42) rfl rfl rfl (by rfl) Tryd.underlying23 rfl el_api_Digest (cs := x.arr) (by rw [← HX.out]; exact hr41) (Dig.size _) ?_) | (refine L_eqD (d := some 50) rfl rfl rfl Tryd.underlying23 Tryd.underlying5 el_uint8 eqG_D (ev_tmp rfl) (ev_tmp rfl) ?_) | fail); refine ⟨by first | exact Below.refl _ _ | exact hnew.below, ?_⟩
   refine idx_g rfl ?_; go_wp2_with fail; refine ⟨by first | exact Below.refl _ _ | exact hnew.below, ?_⟩
   refine idx_g rfl ?_; go_wp2_with fail; refine ⟨by first | exact Below.refl _ _ | exact hnew.below, ?_⟩
   refine idx_nil ?_
   go_wp2_with fail
   go_ret
   exact ⟨rfl, hst.forget⟩
 ·rw [growsB_no (by simp only [Int.toNat_natCast]; omega)]
  generalize plN b a true = r at *
  have e5 : ((k : Int) != (r : Int)) = true := by simp; omega
  clear hl
  go_enter Tryd.func68, Tryd.ntmps68
  go_upto_region 1 with (go_big_may; first
   | (go_skip)
   | (refine L_boxA (d := some 7) rfl rfl rfl (ev_tmp rfl) ?_; (try clear hnew); intro g7 W7 hnew; replace hst := hst.trans hnew; simp only [List.cons_append, List.nil_append] at hst)
   | (refine L_boxA (d := some 8) rfl rfl rfl (ev_tmp rfl) ?_; (try clear hnew); intro g8 W8 hnew; replace hst := hst.trans hnew; simp only [List.cons_append, List.nil_append] at hst)
   | fail)
  go_upto_region 2 with (go_big_may; first
   | (go_skip)
   | (go_at_call 81; (try clear hnew); refine (HPL.out _).mono ?_; rintro e Wk5 ⟨rfl, hnew⟩; replace hst := hst.keep hnew)
   | fail)
  go_wp2_with (first
   | (go_skip)
   | fail)
  go_ret
  exact ⟨rfl, hst.forget⟩
end Go.Proofs.YtkbleigmfcleaaaDoor

set_option linter.unusedSimpArgs false
set_option linter.unusedVariables false
namespace Go.Proofs.YtkbleigmfcleaaaDoor
open Go.RowKit
attribute [local simp] hdArr_size
set_option maxHeartbeats 20000000 in
set_option maxRecDepth 100000 in
theorem rtaken_any (key : List UInt8) (K : Option Addr) (m mc : Nat) (n0 : Int) (x0 y0 z0 : Dig) (n : Int) (x y z : Dig) (p : List Dig) (P : Option Addr) (k pc : Nat) (w : World) (hk : SlR w K m mc 1 (bytesL key)) (hm : m ≤ 140737488355000) (hp : SlR w P k pc 32 (digsL p)) (h0 : 0 ≤ n0) :
  Calls Tryd.prog 43 #[.slice K m mc, .agg (hdArr n0 x0 y0 z0), .agg (hdArr n x y z), .slice P k pc] w fun e w' => e = .returned (.int .i64 (takeN key n0 x0 y0 n x y z p : Int)) ∧ St w w' [] := by
 have hst := St.refl w
 have hl : p.length = k := by have := hp.1; rw [length_digsL] at this; omega
 have HC := Lib.hid (fun (w' : World) (h1 : SlR w' K m mc 1 (bytesL key)) => rtag_any key K m mc n x y z w' h1 hm)
 have HK := Lib.hid (fun (w' : World) (hs : SlR w' P k pc 32 (digsL p)) => rgrows_any n0 n x0 x p P k pc w' hs)
 clear hm
 obtain ⟨r, hr⟩ : ∃ r, r = takeN key n0 x0 y0 n x y z p := ⟨_, rfl⟩
 rw [← hr]
 unfold takeN at hr
 generalize tagN key n x y = tg at *
 have HR := Lib.hid hr
 have hl0 := Lib.hid hl
 have h00 := Lib.hid h0
 clear hl h0 hr
 go_enter Tryd.func43, Tryd.ntmps43
 go_upto_region 1 with (go_big_may; first
  | (refine L_boxA (d := some 5) rfl rfl rfl (ev_tmp rfl) ?_; (try clear hnew); intro g5 W5 hnew; replace hst := hst.trans hnew; simp only [List.cons_append, List.nil_append] at hst)
  | (refine L_boxA (d := some 6) rfl rfl rfl (ev_tmp rfl) ?_; (try clear hnew); intro g6 W6 hnew; replace hst := hst.trans hnew; simp only [List.cons_append, List.nil_append] at hst)
  | fail)
 (try clear hnew)
 go_cut [15] (fun s15 wx => s15 = .bool (!decide (z = tg)) ∧ St w wx [.blk g6 39 (hdArr n x y z), .blk g5 39 (hdArr n0 x0 y0 z0)])
 case first =>
  refine wp_region_pm (.one 2 3 (.one 0 0 (.one 1 0 (.one 3 2 (.one 4 2 (.one 5 2 .nil)))))) (by kernel_rfl) (by kernel_rfl) ?_
  replace hst := hst.drew
  refine pm_p rfl rfl ?_; go_wp2_with fail
  refine pm_qf rfl rfl (by kernel_rfl) ?_; go_wp2_with fail
  refine pm_q rfl rfl ?_; go_wp2_with (first | (first | (refine L_loadA (d := some 11) rfl rfl rfl (by rfl) Tryd.underlying23 rfl el_api_Digest (by first | exact hst.get 0 rfl | exact hst.get 1 rfl) (by first | exact Dig.size _ | exact hdArr_size _ _ _ _ | rfl | (simp; done)) ?_) | (refine L_loadM (d := some 11) rfl rfl rfl (by rfl) Tryd.underlying23 rfl el_api_Digest (by first | assumption | exact hdArr_tag (hst.get 0 rfl)) (by first | exact Dig.size _ | exact hdArr_size _ _ _ _ | rfl | (simp; done)) ?_)) | fail)
  refine pm_g rfl ?_; go_wp2_with (first | (first | (refine L_loadA (d := some 13) rfl rfl rfl (by rfl) Tryd.underlying39 rfl el_api_Head (by first | exact hst.get 0 rfl | exact hst.get 1 rfl) (by first | exact Dig.size _ | exact hdArr_size _ _ _ _ | rfl | (simp; done)) ?_) | (refine L_loadM (d := some 13) rfl rfl rfl (by rfl) Tryd.underlying39 rfl el_api_Head (by first | assumption | exact hdArr_tag (hst.get 0 rfl)) (by first | exact Dig.size _ | exact hdArr_size _ _ _ _ | rfl | (simp; done)) ?_)) | fail); refine ⟨by first | exact Below.refl _ _ | exact hnew.below, ?_⟩
  refine pm_g rfl ?_; go_wp2_with (first | (go_at_call 42; refine (HC.out _ (hst.old (by decide) hk)).mono ?_; rintro e Wt ⟨rfl, hnew⟩; replace hst := hst.keep hnew) | fail); refine ⟨by first | exact Below.refl _ _ | exact hnew.below, ?_⟩
  refine pm_g rfl ?_; go_wp2_with (first | (go_at_call 42; refine (HC.out _ (hst.old (by decide) hk)).mono ?_; rintro e Wt ⟨rfl, hnew⟩; replace hst := hst.keep hnew) | (refine L_neD (d := some 15) rfl rfl rfl Tryd.underlying23 Tryd.underlying5 el_uint8 eqG_D (ev_tmp rfl) (ev_tmp rfl) ?_) | fail); refine ⟨by first | exact Below.refl _ _ | exact hnew.below, ?_⟩
  refine pm_nil ?_
  go_wp2_with fail
  go_meet
  case rel => exact ⟨rfl, hst⟩
 case rest =>
  clear hst HC
  obtain ⟨rfl, hst⟩ := hcut
  by_cases c1 : z = tg
  ·have hr := HR.out
   clear HR
   rw [if_pos c1] at hr
   have HR := Lib.hid hr
   clear hr
   rw [decide_eq_true c1]
   clear c1
   by_cases c2 : n < 0
   ·have hr := HR.out
    clear HR
    rw [if_pos (Or.inl c2)] at hr
    have HR := Lib.hid hr
    clear hr
    go_upto_region 4 with (first
     | (with_reducible refine L_pass (t := 20) rfl (by kernel_rfl) ?_)
     | (with_reducible refine L_pass (t := 21) rfl (by kernel_rfl) ?_)
     | (with_reducible refine L_pass (t := 22) rfl (by kernel_rfl) ?_)
     | (go_big_may; first
      | (refine L_load1 (d := some 17) rfl rfl rfl (by rfl) Tryd.underlying3 rfl (by first | assumption | exact cell_of (hst.get 0 rfl) hdArr_0 | exact cell_of (hst.get 0 rfl) rfl | exact cell_of (hst.get 1 rfl) hdArr_0 | exact cell_of (hst.get 1 rfl) rfl) ?_)
      | fail))
    go_wp2_with (first
     | fail)
    go_ret
    obtain rfl : r = 2 := HR.out
    exact ⟨rfl, hst.forget⟩
   by_cases c3 : 256 < n
   ·have hr := HR.out
    clear HR
    rw [if_pos (Or.inr c3)] at hr
    have HR := Lib.hid hr
    clear hr
    go_upto_region 4 with (go_big_may; first
     | (refine L_load1 (d := some 17) rfl rfl rfl (by rfl) Tryd.underlying3 rfl (by first | assumption | exact cell_of (hst.get 0 rfl) hdArr_0 | exact cell_of (hst.get 0 rfl) rfl | exact cell_of (hst.get 1 rfl) hdArr_0 | exact cell_of (hst.get 1 rfl) rfl) ?_)
     | (refine L_load1 (d := some 21) rfl rfl rfl (by rfl) Tryd.underlying3 rfl (by first | assumption | exact cell_of (hst.get 0 rfl) hdArr_0 | exact cell_of (hst.get 0 rfl) rfl | exact cell_of (hst.get 1 rfl) hdArr_0 | exact cell_of (hst.get 1 rfl) rfl) ?_)
     | fail)
    go_wp2_with (first
     | fail)
    go_ret
    obtain rfl : r = 2 := HR.out
    exact ⟨rfl, hst.forget⟩
   have hr := HR.out
   clear HR
   rw [if_neg (not_or.2 ⟨c2, c3⟩)] at hr
   have HR := Lib.hid hr
   clear hr
   by_cases c4 : n < n0
   ·have hr := HR.out
    clear HR
    rw [if_pos c4] at hr
    have HR := Lib.hid hr
    clear hr
    go_upto_region 5 with (go_big_may; first
     | (refine L_load1 (d := some 17) rfl rfl rfl (by rfl) Tryd.underlying3 rfl (by first | assumption | exact cell_of (hst.get 0 rfl) hdArr_0 | exact cell_of (hst.get 0 rfl) rfl | exact cell_of (hst.get 1 rfl) hdArr_0 | exact cell_of (hst.get 1 rfl) rfl) ?_)
     | (refine L_load1 (d := some 21) rfl rfl rfl (by rfl) Tryd.underlying3 rfl (by first | assumption | exact cell_of (hst.get 0 rfl) hdArr_0 | exact cell_of (hst.get 0 rfl) rfl | exact cell_of (hst.get 1 rfl) hdArr_0 | exact cell_of (hst.get 1 rfl) rfl) ?_)
     | fail)
    go_upto_region 6 with (go_big_may; first
     | (refine L_load1 (d := some 25) rfl rfl rfl (by rfl) Tryd.underlying3 rfl (by first | assumption | exact cell_of (hst.get 0 rfl) hdArr_0 | exact cell_of (hst.get 0 rfl) rfl | exact cell_of (hst.get 1 rfl) hdArr_0 | exact cell_of (hst.get 1 rfl) rfl) ?_)
     | (refine L_load1 (d := some 27) rfl rfl rfl (by rfl) Tryd.underlying3 rfl (by first | assumption | exact cell_of (hst.get 0 rfl) hdArr_0 | exact cell_of (hst.get 0 rfl) rfl | exact cell_of (hst.get 1 rfl) hdArr_0 | exact cell_of (hst.get 1 rfl) rfl) ?_)
     | fail)
    go_wp2_with (first
     | fail)
    go_ret
    obtain rfl : r = 8 := HR.out
    exact ⟨rfl, hst.forget⟩
   have hr := HR.out
   clear HR
   rw [if_neg c4] at hr
   have HR := Lib.hid hr
   clear hr
   by_cases c5 : n = n0
   ·subst c5
    have hr := HR.out
    clear HR
    rw [if_pos rfl] at hr
    have HR := Lib.hid hr
    clear hr
    by_cases c6 : x = x0
    ·have hx := dNe x0
     subst c6
     by_cases c7 : y = y0
     ·subst c7
      have hr := HR.out
      clear HR
      rw [if_pos ⟨rfl, rfl⟩] at hr
      have HR := Lib.hid hr
      clear hr
      go_upto_region 5 with (go_big_may; first
       | (refine L_load1 (d := some 17) rfl rfl rfl (by rfl) Tryd.underlying3 rfl (by first | assumption | exact cell_of (hst.get 0 rfl) hdArr_0 | exact cell_of (hst.get 0 rfl) rfl | exact cell_of (hst.get 1 rfl) hdArr_0 | exact cell_of (hst.get 1 rfl) rfl) ?_)
       | (refine L_load1 (d := some 21) rfl rfl rfl (by rfl) Tryd.underlying3 rfl (by first | assumption | exact cell_of (hst.get 0 rfl) hdArr_0 | exact cell_of (hst.get 0 rfl) rfl | exact cell_of (hst.get 1 rfl) hdArr_0 | exact cell_of (hst.get 1 rfl) rfl) ?_)
       | fail)
      go_upto_region 7 with (go_big_may; first
       | (refine L_load1 (d := some 25) rfl rfl rfl (by rfl) Tryd.underlying3 rfl (by first | assumption | exact cell_of (hst.get 0 rfl) hdArr_0 | exact cell_of (hst.get 0 rfl) rfl | exact cell_of (hst.get 1 rfl) hdArr_0 | exact cell_of (hst.get 1 rfl) rfl) ?_)
       | (refine L_load1 (d := some 27) rfl rfl rfl (by rfl) Tryd.underlying3 rfl (by first | assumption | exact cell_of (hst.get 0 rfl) hdArr_0 | exact cell_of (hst.get 0 rfl) rfl | exact cell_of (hst.get 1 rfl) hdArr_0 | exact cell_of (hst.get 1 rfl) rfl) ?_)
       | fail)
      go_upto_region 8 with (go_big_may; first
       | (refine L_load1 (d := some 30) rfl rfl rfl (by rfl) Tryd.underlying3 rfl (by first | assumption | exact cell_of (hst.get 0 rfl) hdArr_0 | exact cell_of (hst.get 0 rfl) rfl | exact cell_of (hst.get 1 rfl) hdArr_0 | exact cell_of (hst.get 1 rfl) rfl) ?_)
       | (refine L_load1 (d := some 32) rfl rfl rfl (by rfl) Tryd.underlying3 rfl (by first | assumption | exact cell_of (hst.get 0 rfl) hdArr_0 | exact cell_of (hst.get 0 rfl) rfl | exact cell_of (hst.get 1 rfl) hdArr_0 | exact cell_of (hst.get 1 rfl) rfl) ?_)
       | fail)
      go_upto_region 10 with (go_big_may; first
       | (first | (refine L_loadA (d := some 37) rfl rfl rfl (by rfl) Tryd.underlying23 rfl el_api_Digest (by first | exact hst.get 0 rfl | exact hst.get 1 rfl) (by first | rfl | exact Dig.size _ | (simp; done)) ?_) | (refine L_loadM (d := some 37) rfl rfl rfl (by rfl) Tryd.underlying23 rfl el_api_Digest (by first | assumption | exact hdArr_root (hst.get 0 rfl) | exact hdArr_root (hst.get 1 rfl) | exact hdArr_map (hst.get 0 rfl) | exact hdArr_map (hst.get 1 rfl)) (by first | rfl | exact Dig.size _ | (simp; done)) ?_))
       | (first | (refine L_loadA (d := some 39) rfl rfl rfl (by rfl) Tryd.underlying23 rfl el_api_Digest (by first | exact hst.get 0 rfl | exact hst.get 1 rfl) (by first | rfl | exact Dig.size _ | (simp; done)) ?_) | (refine L_loadM (d := some 39) rfl rfl rfl (by rfl) Tryd.underlying23 rfl el_api_Digest (by first | assumption | exact hdArr_root (hst.get 0 rfl) | exact hdArr_root (hst.get 1 rfl) | exact hdArr_map (hst.get 0 rfl) | exact hdArr_map (hst.get 1 rfl)) (by first | rfl | exact Dig.size _ | (simp; done)) ?_))
       | (refine L_neD (d := some 40) rfl rfl rfl Tryd.underlying23 Tryd.underlying5 el_uint8 eqG_D (ev_tmp rfl) (ev_tmp rfl) ?_; (try rw [dNe _]))
       | (first | (refine L_loadA (d := some 43) rfl rfl rfl (by rfl) Tryd.underlying23 rfl el_api_Digest (by first | exact hst.get 0 rfl | exact hst.get 1 rfl) (by first | rfl | exact Dig.size _ | (simp; done)) ?_) | (refine L_loadM (d := some 43) rfl rfl rfl (by rfl) Tryd.underlying23 rfl el_api_Digest (by first | assumption | exact hdArr_root (hst.get 0 rfl) | exact hdArr_root (hst.get 1 rfl) | exact hdArr_map (hst.get 0 rfl) | exact hdArr_map (hst.get 1 rfl)) (by first | rfl | exact Dig.size _ | (simp; done)) ?_))
       | (first | (refine L_loadA (d := some 45) rfl rfl rfl (by rfl) Tryd.underlying23 rfl el_api_Digest (by first | exact hst.get 0 rfl | exact hst.get 1 rfl) (by first | rfl | exact Dig.size _ | (simp; done)) ?_) | (refine L_loadM (d := some 45) rfl rfl rfl (by rfl) Tryd.underlying23 rfl el_api_Digest (by first | assumption | exact hdArr_root (hst.get 0 rfl) | exact hdArr_root (hst.get 1 rfl) | exact hdArr_map (hst.get 0 rfl) | exact hdArr_map (hst.get 1 rfl)) (by first | rfl | exact Dig.size _ | (simp; done)) ?_))
       | (refine L_neD (d := some 46) rfl rfl rfl Tryd.underlying23 Tryd.underlying5 el_uint8 eqG_D (ev_tmp rfl) (ev_tmp rfl) ?_; (try rw [dNe _]))
       | fail)
      go_upto_region 12 with (first
       | (with_reducible refine L_pass (t := 52) rfl (by kernel_rfl) ?_)
       | (with_reducible refine L_pass (t := 53) rfl (by kernel_rfl) ?_)
       | (with_reducible refine L_pass (t := 54) rfl (by kernel_rfl) ?_)
       | (with_reducible refine L_pass (t := 57) rfl (by kernel_rfl) ?_)
       | (with_reducible refine L_pass (t := 58) rfl (by kernel_rfl) ?_)
       | (with_reducible refine L_pass (t := 59) rfl (by kernel_rfl) ?_)
       | (go_big_may; first
        | fail))
      go_upto_region 14 with (first
       | (with_reducible refine L_pass (t := 64) rfl (by kernel_rfl) ?_)
       | (with_reducible refine L_pass (t := 65) rfl (by kernel_rfl) ?_)
       | (with_reducible refine L_pass (t := 66) rfl (by kernel_rfl) ?_)
       | (with_reducible refine L_pass (t := 69) rfl (by kernel_rfl) ?_)
       | (with_reducible refine L_pass (t := 70) rfl (by kernel_rfl) ?_)
       | (with_reducible refine L_pass (t := 71) rfl (by kernel_rfl) ?_)
       | (with_reducible refine L_pass (t := 72) rfl (by kernel_rfl) ?_)
       | (with_reducible refine L_pass (t := 73) rfl (by kernel_rfl) ?_)
       | (with_reducible refine L_pass (t := 74) rfl (by kernel_rfl) ?_)
       | (with_reducible refine L_pass (t := 75) rfl (by kernel_rfl) ?_)
       | (with_reducible refine L_pass (t := 76) rfl (by kernel_rfl) ?_)
       | (with_reducible refine L_pass (t := 77) rfl (by kernel_rfl) ?_)
       | (with_reducible refine L_pass (t := 78) rfl (by kernel_rfl) ?_)
       | (with_reducible refine L_pass (t := 79) rfl (by kernel_rfl) ?_)
       | (go_big_may; first
        | fail))
      go_wp2_with (first
       | fail)
      go_ret
      obtain rfl : r = 0 := HR.out
      exact ⟨rfl, hst.forget⟩
     ·have hr := HR.out
      clear HR
      rw [if_neg (fun h => c7 h.2)] at hr
      have HR := Lib.hid hr
      clear hr
      go_upto_region 5 with (go_big_may; first
       | (refine L_load1 (d := some 17) rfl rfl rfl (by rfl) Tryd.underlying3 rfl (by first | assumption | exact cell_of (hst.get 0 rfl) hdArr_0 | exact cell_of (hst.get 0 rfl) rfl | exact cell_of (hst.get 1 rfl) hdArr_0 | exact cell_of (hst.get 1 rfl) rfl) ?_)
       | (refine L_load1 (d := some 21) rfl rfl rfl (by rfl) Tryd.underlying3 rfl (by first | assumption | exact cell_of (hst.get 0 rfl) hdArr_0 | exact cell_of (hst.get 0 rfl) rfl | exact cell_of (hst.get 1 rfl) hdArr_0 | exact cell_of (hst.get 1 rfl) rfl) ?_)
       | fail)
      go_upto_region 7 with (go_big_may; first
       | (refine L_load1 (d := some 25) rfl rfl rfl (by rfl) Tryd.underlying3 rfl (by first | assumption | exact cell_of (hst.get 0 rfl) hdArr_0 | exact cell_of (hst.get 0 rfl) rfl | exact cell_of (hst.get 1 rfl) hdArr_0 | exact cell_of (hst.get 1 rfl) rfl) ?_)
       | (refine L_load1 (d := some 27) rfl rfl rfl (by rfl) Tryd.underlying3 rfl (by first | assumption | exact cell_of (hst.get 0 rfl) hdArr_0 | exact cell_of (hst.get 0 rfl) rfl | exact cell_of (hst.get 1 rfl) hdArr_0 | exact cell_of (hst.get 1 rfl) rfl) ?_)
       | fail)
      go_upto_region 8 with (go_big_may; first
       | (refine L_load1 (d := some 30) rfl rfl rfl (by rfl) Tryd.underlying3 rfl (by first | assumption | exact cell_of (hst.get 0 rfl) hdArr_0 | exact cell_of (hst.get 0 rfl) rfl | exact cell_of (hst.get 1 rfl) hdArr_0 | exact cell_of (hst.get 1 rfl) rfl) ?_)
       | (refine L_load1 (d := some 32) rfl rfl rfl (by rfl) Tryd.underlying3 rfl (by first | assumption | exact cell_of (hst.get 0 rfl) hdArr_0 | exact cell_of (hst.get 0 rfl) rfl | exact cell_of (hst.get 1 rfl) hdArr_0 | exact cell_of (hst.get 1 rfl) rfl) ?_)
       | fail)
      go_upto_region 9 with (go_big_may; first
       | (first | (refine L_loadA (d := some 37) rfl rfl rfl (by rfl) Tryd.underlying23 rfl el_api_Digest (by first | exact hst.get 0 rfl | exact hst.get 1 rfl) (by first | rfl | exact Dig.size _ | (simp; done)) ?_) | (refine L_loadM (d := some 37) rfl rfl rfl (by rfl) Tryd.underlying23 rfl el_api_Digest (by first | assumption | exact hdArr_root (hst.get 0 rfl) | exact hdArr_root (hst.get 1 rfl) | exact hdArr_map (hst.get 0 rfl) | exact hdArr_map (hst.get 1 rfl)) (by first | rfl | exact Dig.size _ | (simp; done)) ?_))
       | (first | (refine L_loadA (d := some 39) rfl rfl rfl (by rfl) Tryd.underlying23 rfl el_api_Digest (by first | exact hst.get 0 rfl | exact hst.get 1 rfl) (by first | rfl | exact Dig.size _ | (simp; done)) ?_) | (refine L_loadM (d := some 39) rfl rfl rfl (by rfl) Tryd.underlying23 rfl el_api_Digest (by first | assumption | exact hdArr_root (hst.get 0 rfl) | exact hdArr_root (hst.get 1 rfl) | exact hdArr_map (hst.get 0 rfl) | exact hdArr_map (hst.get 1 rfl)) (by first | rfl | exact Dig.size _ | (simp; done)) ?_))
       | (refine L_neD (d := some 40) rfl rfl rfl Tryd.underlying23 Tryd.underlying5 el_uint8 eqG_D (ev_tmp rfl) (ev_tmp rfl) ?_; (try rw [dNe _]))
       | (first | (refine L_loadA (d := some 43) rfl rfl rfl (by rfl) Tryd.underlying23 rfl el_api_Digest (by first | exact hst.get 0 rfl | exact hst.get 1 rfl) (by first | rfl | exact Dig.size _ | (simp; done)) ?_) | (refine L_loadM (d := some 43) rfl rfl rfl (by rfl) Tryd.underlying23 rfl el_api_Digest (by first | assumption | exact hdArr_root (hst.get 0 rfl) | exact hdArr_root (hst.get 1 rfl) | exact hdArr_map (hst.get 0 rfl) | exact hdArr_map (hst.get 1 rfl)) (by first | rfl | exact Dig.size _ | (simp; done)) ?_))
       | (first | (refine L_loadA (d := some 45) rfl rfl rfl (by rfl) Tryd.underlying23 rfl el_api_Digest (by first | exact hst.get 0 rfl | exact hst.get 1 rfl) (by first | rfl | exact Dig.size _ | (simp; done)) ?_) | (refine L_loadM (d := some 45) rfl rfl rfl (by rfl) Tryd.underlying23 rfl el_api_Digest (by first | assumption | exact hdArr_root (hst.get 0 rfl) | exact hdArr_root (hst.get 1 rfl) | exact hdArr_map (hst.get 0 rfl) | exact hdArr_map (hst.get 1 rfl)) (by first | rfl | exact Dig.size _ | (simp; done)) ?_))
       | (refine L_neD (d := some 46) rfl rfl rfl Tryd.underlying23 Tryd.underlying5 el_uint8 eqG_D (ev_tmp rfl) (ev_tmp rfl) ?_; (try rw [dNe _]))
       | fail)
      go_wp2_with (first
       | fail)
      go_ret
      obtain rfl : r = 9 := HR.out
      exact ⟨rfl, hst.forget⟩
    ·have hr := HR.out
     clear HR
     rw [if_neg (fun h => c6 h.1)] at hr
     have HR := Lib.hid hr
     clear hr
     have hxx : (!decide (x = x0)) = true := by simp [c6]
     go_upto_region 5 with (go_big_may; first
      | (refine L_load1 (d := some 17) rfl rfl rfl (by rfl) Tryd.underlying3 rfl (by first | assumption | exact cell_of (hst.get 0 rfl) hdArr_0 | exact cell_of (hst.get 0 rfl) rfl | exact cell_of (hst.get 1 rfl) hdArr_0 | exact cell_of (hst.get 1 rfl) rfl) ?_)
      | (refine L_load1 (d := some 21) rfl rfl rfl (by rfl) Tryd.underlying3 rfl (by first | assumption | exact cell_of (hst.get 0 rfl) hdArr_0 | exact cell_of (hst.get 0 rfl) rfl | exact cell_of (hst.get 1 rfl) hdArr_0 | exact cell_of (hst.get 1 rfl) rfl) ?_)
      | fail)
     go_upto_region 7 with (go_big_may; first
      | (refine L_load1 (d := some 25) rfl rfl rfl (by rfl) Tryd.underlying3 rfl (by first | assumption | exact cell_of (hst.get 0 rfl) hdArr_0 | exact cell_of (hst.get 0 rfl) rfl | exact cell_of (hst.get 1 rfl) hdArr_0 | exact cell_of (hst.get 1 rfl) rfl) ?_)
      | (refine L_load1 (d := some 27) rfl rfl rfl (by rfl) Tryd.underlying3 rfl (by first | assumption | exact cell_of (hst.get 0 rfl) hdArr_0 | exact cell_of (hst.get 0 rfl) rfl | exact cell_of (hst.get 1 rfl) hdArr_0 | exact cell_of (hst.get 1 rfl) rfl) ?_)
      | fail)
     go_upto_region 8 with (go_big_may; first
      | (refine L_load1 (d := some 30) rfl rfl rfl (by rfl) Tryd.underlying3 rfl (by first | assumption | exact cell_of (hst.get 0 rfl) hdArr_0 | exact cell_of (hst.get 0 rfl) rfl | exact cell_of (hst.get 1 rfl) hdArr_0 | exact cell_of (hst.get 1 rfl) rfl) ?_)
      | (refine L_load1 (d := some 32) rfl rfl rfl (by rfl) Tryd.underlying3 rfl (by first | assumption | exact cell_of (hst.get 0 rfl) hdArr_0 | exact cell_of (hst.get 0 rfl) rfl | exact cell_of (hst.get 1 rfl) hdArr_0 | exact cell_of (hst.get 1 rfl) rfl) ?_)
      | fail)
     go_upto_region 9 with (first
      | (with_reducible refine L_pass (t := 42) rfl (by kernel_rfl) ?_)
      | (with_reducible refine L_pass (t := 43) rfl (by kernel_rfl) ?_)
      | (with_reducible refine L_pass (t := 44) rfl (by kernel_rfl) ?_)
      | (with_reducible refine L_pass (t := 45) rfl (by kernel_rfl) ?_)
      | (with_reducible refine L_pass (t := 46) rfl (by kernel_rfl) ?_)
      | (go_big_may; first
       | (first | (refine L_loadA (d := some 37) rfl rfl rfl (by rfl) Tryd.underlying23 rfl el_api_Digest (by first | exact hst.get 0 rfl | exact hst.get 1 rfl) (by first | rfl | exact Dig.size _ | (simp; done)) ?_) | (refine L_loadM (d := some 37) rfl rfl rfl (by rfl) Tryd.underlying23 rfl el_api_Digest (by first | assumption | exact hdArr_root (hst.get 0 rfl) | exact hdArr_root (hst.get 1 rfl) | exact hdArr_map (hst.get 0 rfl) | exact hdArr_map (hst.get 1 rfl)) (by first | rfl | exact Dig.size _ | (simp; done)) ?_))
       | (first | (refine L_loadA (d := some 39) rfl rfl rfl (by rfl) Tryd.underlying23 rfl el_api_Digest (by first | exact hst.get 0 rfl | exact hst.get 1 rfl) (by first | rfl | exact Dig.size _ | (simp; done)) ?_) | (refine L_loadM (d := some 39) rfl rfl rfl (by rfl) Tryd.underlying23 rfl el_api_Digest (by first | assumption | exact hdArr_root (hst.get 0 rfl) | exact hdArr_root (hst.get 1 rfl) | exact hdArr_map (hst.get 0 rfl) | exact hdArr_map (hst.get 1 rfl)) (by first | rfl | exact Dig.size _ | (simp; done)) ?_))
       | (refine L_neD (d := some 40) rfl rfl rfl Tryd.underlying23 Tryd.underlying5 el_uint8 eqG_D (ev_tmp rfl) (ev_tmp rfl) ?_; (try rw [hxx]))
       | fail))
     go_wp2_with (first
      | fail)
     go_ret
     obtain rfl : r = 9 := HR.out
     exact ⟨rfl, hst.forget⟩
   have hr := HR.out
   clear HR
   rw [if_neg c5] at hr
   have HR := Lib.hid hr
   clear hr
   have c5' : (n == n0) = false := beq_eq_false_iff_ne.2 c5
   by_cases c6 : n0 = 0
   ·subst c6
    have hr := HR.out
    clear HR
    rw [if_pos rfl] at hr
    have HR := Lib.hid hr
    clear hr
    have hl := hl0.out
    by_cases c7 : p = []
    ·subst c7
     obtain rfl : k = 0 := by simpa using hl.symm
     clear hl hl0
     have hr := HR.out
     clear HR
     rw [if_pos rfl] at hr
     have HR := Lib.hid hr
     clear hr
     go_upto_region 5 with (go_big_may; first
      | (refine L_load1 (d := some 17) rfl rfl rfl (by rfl) Tryd.underlying3 rfl (by first | assumption | exact cell_of (hst.get 0 rfl) hdArr_0 | exact cell_of (hst.get 0 rfl) rfl | exact cell_of (hst.get 1 rfl) hdArr_0 | exact cell_of (hst.get 1 rfl) rfl) ?_)
      | (refine L_load1 (d := some 21) rfl rfl rfl (by rfl) Tryd.underlying3 rfl (by first | assumption | exact cell_of (hst.get 0 rfl) hdArr_0 | exact cell_of (hst.get 0 rfl) rfl | exact cell_of (hst.get 1 rfl) hdArr_0 | exact cell_of (hst.get 1 rfl) rfl) ?_)
      | fail)
     go_upto_region 7 with (go_big_may; first
      | (refine L_load1 (d := some 25) rfl rfl rfl (by rfl) Tryd.underlying3 rfl (by first | assumption | exact cell_of (hst.get 0 rfl) hdArr_0 | exact cell_of (hst.get 0 rfl) rfl | exact cell_of (hst.get 1 rfl) hdArr_0 | exact cell_of (hst.get 1 rfl) rfl) ?_)
      | (refine L_load1 (d := some 27) rfl rfl rfl (by rfl) Tryd.underlying3 rfl (by first | assumption | exact cell_of (hst.get 0 rfl) hdArr_0 | exact cell_of (hst.get 0 rfl) rfl | exact cell_of (hst.get 1 rfl) hdArr_0 | exact cell_of (hst.get 1 rfl) rfl) ?_)
      | fail)
     go_upto_region 8 with (go_big_may; first
      | (refine L_load1 (d := some 30) rfl rfl rfl (by rfl) Tryd.underlying3 rfl (by first | assumption | exact cell_of (hst.get 0 rfl) hdArr_0 | exact cell_of (hst.get 0 rfl) rfl | exact cell_of (hst.get 1 rfl) hdArr_0 | exact cell_of (hst.get 1 rfl) rfl) ?_)
      | (refine L_load1 (d := some 32) rfl rfl rfl (by rfl) Tryd.underlying3 rfl (by first | assumption | exact cell_of (hst.get 0 rfl) hdArr_0 | exact cell_of (hst.get 0 rfl) rfl | exact cell_of (hst.get 1 rfl) hdArr_0 | exact cell_of (hst.get 1 rfl) rfl) ?_)
      | fail)
     go_upto_region 10 with (first
      | (with_reducible refine L_pass (t := 36) rfl (by kernel_rfl) ?_)
      | (with_reducible refine L_pass (t := 37) rfl (by kernel_rfl) ?_)
      | (with_reducible refine L_pass (t := 38) rfl (by kernel_rfl) ?_)
      | (with_reducible refine L_pass (t := 39) rfl (by kernel_rfl) ?_)
      | (with_reducible refine L_pass (t := 40) rfl (by kernel_rfl) ?_)
      | (with_reducible refine L_pass (t := 41) rfl (by kernel_rfl) ?_)
      | (with_reducible refine L_pass (t := 42) rfl (by kernel_rfl) ?_)
      | (with_reducible refine L_pass (t := 43) rfl (by kernel_rfl) ?_)
      | (with_reducible refine L_pass (t := 44) rfl (by kernel_rfl) ?_)
      | (with_reducible refine L_pass (t := 45) rfl (by kernel_rfl) ?_)
      | (with_reducible refine L_pass (t := 46) rfl (by kernel_rfl) ?_)
      | (with_reducible refine L_pass (t := 47) rfl (by kernel_rfl) ?_)
      | (go_big_may; first
       | fail))
     go_upto_region 12 with (go_big_may; first
      | (refine L_load1 (d := some 53) rfl rfl rfl (by rfl) Tryd.underlying3 rfl (by first | assumption | exact cell_of (hst.get 0 rfl) hdArr_0 | exact cell_of (hst.get 0 rfl) rfl | exact cell_of (hst.get 1 rfl) hdArr_0 | exact cell_of (hst.get 1 rfl) rfl) ?_)
      | fail)
     go_upto_region 14 with (first
      | (with_reducible refine L_pass (t := 69) rfl (by kernel_rfl) ?_)
      | (with_reducible refine L_pass (t := 70) rfl (by kernel_rfl) ?_)
      | (with_reducible refine L_pass (t := 71) rfl (by kernel_rfl) ?_)
      | (with_reducible refine L_pass (t := 72) rfl (by kernel_rfl) ?_)
      | (with_reducible refine L_pass (t := 73) rfl (by kernel_rfl) ?_)
      | (with_reducible refine L_pass (t := 74) rfl (by kernel_rfl) ?_)
      | (with_reducible refine L_pass (t := 75) rfl (by kernel_rfl) ?_)
      | (with_reducible refine L_pass (t := 76) rfl (by kernel_rfl) ?_)
      | (with_reducible refine L_pass (t := 77) rfl (by kernel_rfl) ?_)
      | (with_reducible refine L_pass (t := 78) rfl (by kernel_rfl) ?_)
      | (with_reducible refine L_pass (t := 79) rfl (by kernel_rfl) ?_)
      | (go_big_may; first
       | (refine L_load1 (d := some 65) rfl rfl rfl (by rfl) Tryd.underlying3 rfl (by first | assumption | exact cell_of (hst.get 0 rfl) hdArr_0 | exact cell_of (hst.get 0 rfl) rfl | exact cell_of (hst.get 1 rfl) hdArr_0 | exact cell_of (hst.get 1 rfl) rfl) ?_)
       | fail))
     go_wp2_with (first
      | fail)
     go_ret
     obtain rfl : r = 0 := HR.out
     exact ⟨rfl, hst.forget⟩
    ·have hk0 : (0 : Int) < (k : Int) := by
      have := List.length_pos_iff.2 c7
      omega
     clear hl hl0
     have hr := HR.out
     clear HR
     rw [if_neg c7] at hr
     have HR := Lib.hid hr
     clear hr
     go_upto_region 5 with (go_big_may; first
      | (refine L_load1 (d := some 17) rfl rfl rfl (by rfl) Tryd.underlying3 rfl (by first | assumption | exact cell_of (hst.get 0 rfl) hdArr_0 | exact cell_of (hst.get 0 rfl) rfl | exact cell_of (hst.get 1 rfl) hdArr_0 | exact cell_of (hst.get 1 rfl) rfl) ?_)
      | (refine L_load1 (d := some 21) rfl rfl rfl (by rfl) Tryd.underlying3 rfl (by first | assumption | exact cell_of (hst.get 0 rfl) hdArr_0 | exact cell_of (hst.get 0 rfl) rfl | exact cell_of (hst.get 1 rfl) hdArr_0 | exact cell_of (hst.get 1 rfl) rfl) ?_)
      | fail)
     go_upto_region 7 with (go_big_may; first
      | (refine L_load1 (d := some 25) rfl rfl rfl (by rfl) Tryd.underlying3 rfl (by first | assumption | exact cell_of (hst.get 0 rfl) hdArr_0 | exact cell_of (hst.get 0 rfl) rfl | exact cell_of (hst.get 1 rfl) hdArr_0 | exact cell_of (hst.get 1 rfl) rfl) ?_)
      | (refine L_load1 (d := some 27) rfl rfl rfl (by rfl) Tryd.underlying3 rfl (by first | assumption | exact cell_of (hst.get 0 rfl) hdArr_0 | exact cell_of (hst.get 0 rfl) rfl | exact cell_of (hst.get 1 rfl) hdArr_0 | exact cell_of (hst.get 1 rfl) rfl) ?_)
      | fail)
     go_upto_region 8 with (go_big_may; first
      | (refine L_load1 (d := some 30) rfl rfl rfl (by rfl) Tryd.underlying3 rfl (by first | assumption | exact cell_of (hst.get 0 rfl) hdArr_0 | exact cell_of (hst.get 0 rfl) rfl | exact cell_of (hst.get 1 rfl) hdArr_0 | exact cell_of (hst.get 1 rfl) rfl) ?_)
      | (refine L_load1 (d := some 32) rfl rfl rfl (by rfl) Tryd.underlying3 rfl (by first | assumption | exact cell_of (hst.get 0 rfl) hdArr_0 | exact cell_of (hst.get 0 rfl) rfl | exact cell_of (hst.get 1 rfl) hdArr_0 | exact cell_of (hst.get 1 rfl) rfl) ?_)
      | fail)
     go_upto_region 10 with (first
      | (with_reducible refine L_pass (t := 36) rfl (by kernel_rfl) ?_)
      | (with_reducible refine L_pass (t := 37) rfl (by kernel_rfl) ?_)
      | (with_reducible refine L_pass (t := 38) rfl (by kernel_rfl) ?_)
      | (with_reducible refine L_pass (t := 39) rfl (by kernel_rfl) ?_)
      | (with_reducible refine L_pass (t := 40) rfl (by kernel_rfl) ?_)
      | (with_reducible refine L_pass (t := 41) rfl (by kernel_rfl) ?_)
      | (with_reducible refine L_pass (t := 42) rfl (by kernel_rfl) ?_)
      | (with_reducible refine L_pass (t := 43) rfl (by kernel_rfl) ?_)
      | (with_reducible refine L_pass (t := 44) rfl (by kernel_rfl) ?_)
      | (with_reducible refine L_pass (t := 45) rfl (by kernel_rfl) ?_)
      | (with_reducible refine L_pass (t := 46) rfl (by kernel_rfl) ?_)
      | (with_reducible refine L_pass (t := 47) rfl (by kernel_rfl) ?_)
      | (go_big_may; first
       | fail))
     go_upto_region 11 with (go_big_may; first
      | (refine L_load1 (d := some 53) rfl rfl rfl (by rfl) Tryd.underlying3 rfl (by first | assumption | exact cell_of (hst.get 0 rfl) hdArr_0 | exact cell_of (hst.get 0 rfl) rfl | exact cell_of (hst.get 1 rfl) hdArr_0 | exact cell_of (hst.get 1 rfl) rfl) ?_)
      | fail)
     go_wp2_with (first
      | fail)
     go_ret
     obtain rfl : r = 9 := HR.out
     exact ⟨rfl, hst.forget⟩
   have hr := HR.out
   clear HR
   rw [if_neg c6] at hr
   have HR := Lib.hid hr
   clear hr
   have c6' : (n0 == 0) = false := beq_eq_false_iff_ne.2 c6
   have c6'' : 0 < n0 := by have := h00.out; omega
   by_cases c7 : growsB n0 n x0 x p = true
   ·have hr := HR.out
    clear HR
    rw [if_pos c7] at hr
    have HR := Lib.hid hr
    clear hr
    rw [c7] at HK
    go_upto_region 5 with (go_big_may; first
     | (refine L_load1 (d := some 17) rfl rfl rfl (by rfl) Tryd.underlying3 rfl (by first | assumption | exact cell_of (hst.get 0 rfl) hdArr_0 | exact cell_of (hst.get 0 rfl) rfl | exact cell_of (hst.get 1 rfl) hdArr_0 | exact cell_of (hst.get 1 rfl) rfl) ?_)
     | (refine L_load1 (d := some 21) rfl rfl rfl (by rfl) Tryd.underlying3 rfl (by first | assumption | exact cell_of (hst.get 0 rfl) hdArr_0 | exact cell_of (hst.get 0 rfl) rfl | exact cell_of (hst.get 1 rfl) hdArr_0 | exact cell_of (hst.get 1 rfl) rfl) ?_)
     | fail)
    go_upto_region 7 with (go_big_may; first
     | (refine L_load1 (d := some 25) rfl rfl rfl (by rfl) Tryd.underlying3 rfl (by first | assumption | exact cell_of (hst.get 0 rfl) hdArr_0 | exact cell_of (hst.get 0 rfl) rfl | exact cell_of (hst.get 1 rfl) hdArr_0 | exact cell_of (hst.get 1 rfl) rfl) ?_)
     | (refine L_load1 (d := some 27) rfl rfl rfl (by rfl) Tryd.underlying3 rfl (by first | assumption | exact cell_of (hst.get 0 rfl) hdArr_0 | exact cell_of (hst.get 0 rfl) rfl | exact cell_of (hst.get 1 rfl) hdArr_0 | exact cell_of (hst.get 1 rfl) rfl) ?_)
     | fail)
    go_upto_region 8 with (go_big_may; first
     | (refine L_load1 (d := some 30) rfl rfl rfl (by rfl) Tryd.underlying3 rfl (by first | assumption | exact cell_of (hst.get 0 rfl) hdArr_0 | exact cell_of (hst.get 0 rfl) rfl | exact cell_of (hst.get 1 rfl) hdArr_0 | exact cell_of (hst.get 1 rfl) rfl) ?_)
     | (refine L_load1 (d := some 32) rfl rfl rfl (by rfl) Tryd.underlying3 rfl (by first | assumption | exact cell_of (hst.get 0 rfl) hdArr_0 | exact cell_of (hst.get 0 rfl) rfl | exact cell_of (hst.get 1 rfl) hdArr_0 | exact cell_of (hst.get 1 rfl) rfl) ?_)
     | fail)
    go_upto_region 10 with (first
     | (with_reducible refine L_pass (t := 36) rfl (by kernel_rfl) ?_)
     | (with_reducible refine L_pass (t := 37) rfl (by kernel_rfl) ?_)
     | (with_reducible refine L_pass (t := 38) rfl (by kernel_rfl) ?_)
     | (with_reducible refine L_pass (t := 39) rfl (by kernel_rfl) ?_)
     | (with_reducible refine L_pass (t := 40) rfl (by kernel_rfl) ?_)
     | (with_reducible refine L_pass (t := 41) rfl (by kernel_rfl) ?_)
     | (with_reducible refine L_pass (t := 42) rfl (by kernel_rfl) ?_)
     | (with_reducible refine L_pass (t := 43) rfl (by kernel_rfl) ?_)
     | (with_reducible refine L_pass (t := 44) rfl (by kernel_rfl) ?_)
     | (with_reducible refine L_pass (t := 45) rfl (by kernel_rfl) ?_)
     | (with_reducible refine L_pass (t := 46) rfl (by kernel_rfl) ?_)
     | (with_reducible refine L_pass (t := 47) rfl (by kernel_rfl) ?_)
     | (go_big_may; first
      | fail))
    go_upto_region 12 with (first
     | (with_reducible refine L_pass (t := 57) rfl (by kernel_rfl) ?_)
     | (with_reducible refine L_pass (t := 58) rfl (by kernel_rfl) ?_)
     | (with_reducible refine L_pass (t := 59) rfl (by kernel_rfl) ?_)
     | (go_big_may; first
      | (refine L_load1 (d := some 53) rfl rfl rfl (by rfl) Tryd.underlying3 rfl (by first | assumption | exact cell_of (hst.get 0 rfl) hdArr_0 | exact cell_of (hst.get 0 rfl) rfl | exact cell_of (hst.get 1 rfl) hdArr_0 | exact cell_of (hst.get 1 rfl) rfl) ?_)
      | fail))
    go_upto_region 14 with (go_big_may; first
     | (go_at_call 68; refine (HK.out _ (hst.old (by decide) hp)).mono ?_; rintro e Wk ⟨rfl, hnew⟩; replace hst := hst.keep hnew)
     | (refine L_load1 (d := some 65) rfl rfl rfl (by rfl) Tryd.underlying3 rfl (by first | assumption | exact cell_of (hst.get 0 rfl) hdArr_0 | exact cell_of (hst.get 0 rfl) rfl | exact cell_of (hst.get 1 rfl) hdArr_0 | exact cell_of (hst.get 1 rfl) rfl) ?_)
     | (refine L_load1 (d := some 70) rfl rfl rfl (by rfl) Tryd.underlying3 rfl (by first | assumption | exact cell_of (hst.get 0 rfl) hdArr_0 | exact cell_of (hst.get 0 rfl) rfl | exact cell_of (hst.get 1 rfl) hdArr_0 | exact cell_of (hst.get 1 rfl) rfl) ?_)
     | (refine L_load1 (d := some 72) rfl rfl rfl (by rfl) Tryd.underlying3 rfl (by first | assumption | exact cell_of (hst.get 0 rfl) hdArr_0 | exact cell_of (hst.get 0 rfl) rfl | exact cell_of (hst.get 1 rfl) hdArr_0 | exact cell_of (hst.get 1 rfl) rfl) ?_)
     | (first | (refine L_loadA (d := some 74) rfl rfl rfl (by rfl) Tryd.underlying23 rfl el_api_Digest (by first | exact hst.get 0 rfl | exact hst.get 1 rfl) (by first | rfl | exact Dig.size _ | (simp; done)) ?_) | (refine L_loadM (d := some 74) rfl rfl rfl (by rfl) Tryd.underlying23 rfl el_api_Digest (by first | assumption | exact hdArr_root (hst.get 0 rfl) | exact hdArr_root (hst.get 1 rfl) | exact hdArr_map (hst.get 0 rfl) | exact hdArr_map (hst.get 1 rfl)) (by first | rfl | exact Dig.size _ | (simp; done)) ?_))
     | (first | (refine L_loadA (d := some 76) rfl rfl rfl (by rfl) Tryd.underlying23 rfl el_api_Digest (by first | exact hst.get 0 rfl | exact hst.get 1 rfl) (by first | rfl | exact Dig.size _ | (simp; done)) ?_) | (refine L_loadM (d := some 76) rfl rfl rfl (by rfl) Tryd.underlying23 rfl el_api_Digest (by first | assumption | exact hdArr_root (hst.get 0 rfl) | exact hdArr_root (hst.get 1 rfl) | exact hdArr_map (hst.get 0 rfl) | exact hdArr_map (hst.get 1 rfl)) (by first | rfl | exact Dig.size _ | (simp; done)) ?_))
     | fail)
    go_wp2_with (first
     | fail)
    go_ret
    obtain rfl : r = 0 := HR.out
    exact ⟨rfl, hst.forget⟩
   ·have hr := HR.out
    clear HR
    rw [if_neg c7] at hr
    have HR := Lib.hid hr
    clear hr
    rw [Bool.eq_false_iff.2 c7] at HK
    go_upto_region 5 with (go_big_may; first
     | (refine L_load1 (d := some 17) rfl rfl rfl (by rfl) Tryd.underlying3 rfl (by first | assumption | exact cell_of (hst.get 0 rfl) hdArr_0 | exact cell_of (hst.get 0 rfl) rfl | exact cell_of (hst.get 1 rfl) hdArr_0 | exact cell_of (hst.get 1 rfl) rfl) ?_)
     | (refine L_load1 (d := some 21) rfl rfl rfl (by rfl) Tryd.underlying3 rfl (by first | assumption | exact cell_of (hst.get 0 rfl) hdArr_0 | exact cell_of (hst.get 0 rfl) rfl | exact cell_of (hst.get 1 rfl) hdArr_0 | exact cell_of (hst.get 1 rfl) rfl) ?_)
     | fail)
    go_upto_region 7 with (go_big_may; first
     | (refine L_load1 (d := some 25) rfl rfl rfl (by rfl) Tryd.underlying3 rfl (by first | assumption | exact cell_of (hst.get 0 rfl) hdArr_0 | exact cell_of (hst.get 0 rfl) rfl | exact cell_of (hst.get 1 rfl) hdArr_0 | exact cell_of (hst.get 1 rfl) rfl) ?_)
     | (refine L_load1 (d := some 27) rfl rfl rfl (by rfl) Tryd.underlying3 rfl (by first | assumption | exact cell_of (hst.get 0 rfl) hdArr_0 | exact cell_of (hst.get 0 rfl) rfl | exact cell_of (hst.get 1 rfl) hdArr_0 | exact cell_of (hst.get 1 rfl) rfl) ?_)
     | fail)
    go_upto_region 8 with (go_big_may; first
     | (refine L_load1 (d := some 30) rfl rfl rfl (by rfl) Tryd.underlying3 rfl (by first | assumption | exact cell_of (hst.get 0 rfl) hdArr_0 | exact cell_of (hst.get 0 rfl) rfl | exact cell_of (hst.get 1 rfl) hdArr_0 | exact cell_of (hst.get 1 rfl) rfl) ?_)
     | (refine L_load1 (d := some 32) rfl rfl rfl (by rfl) Tryd.underlying3 rfl (by first | assumption | exact cell_of (hst.get 0 rfl) hdArr_0 | exact cell_of (hst.get 0 rfl) rfl | exact cell_of (hst.get 1 rfl) hdArr_0 | exact cell_of (hst.get 1 rfl) rfl) ?_)
     | fail)
    go_upto_region 10 with (first
     | (with_reducible refine L_pass (t := 36) rfl (by kernel_rfl) ?_)
     | (with_reducible refine L_pass (t := 37) rfl (by kernel_rfl) ?_)
     | (with_reducible refine L_pass (t := 38) rfl (by kernel_rfl) ?_)
     | (with_reducible refine L_pass (t := 39) rfl (by kernel_rfl) ?_)
     | (with_reducible refine L_pass (t := 40) rfl (by kernel_rfl) ?_)
     | (with_reducible refine L_pass (t := 41) rfl (by kernel_rfl) ?_)
     | (with_reducible refine L_pass (t := 42) rfl (by kernel_rfl) ?_)
     | (with_reducible refine L_pass (t := 43) rfl (by kernel_rfl) ?_)
     | (with_reducible refine L_pass (t := 44) rfl (by kernel_rfl) ?_)
     | (with_reducible refine L_pass (t := 45) rfl (by kernel_rfl) ?_)
     | (with_reducible refine L_pass (t := 46) rfl (by kernel_rfl) ?_)
     | (with_reducible refine L_pass (t := 47) rfl (by kernel_rfl) ?_)
     | (go_big_may; first
      | fail))
    go_upto_region 12 with (first
     | (with_reducible refine L_pass (t := 57) rfl (by kernel_rfl) ?_)
     | (with_reducible refine L_pass (t := 58) rfl (by kernel_rfl) ?_)
     | (with_reducible refine L_pass (t := 59) rfl (by kernel_rfl) ?_)
     | (go_big_may; first
      | (refine L_load1 (d := some 53) rfl rfl rfl (by rfl) Tryd.underlying3 rfl (by first | assumption | exact cell_of (hst.get 0 rfl) hdArr_0 | exact cell_of (hst.get 0 rfl) rfl | exact cell_of (hst.get 1 rfl) hdArr_0 | exact cell_of (hst.get 1 rfl) rfl) ?_)
      | fail))
    go_upto_region 13 with (go_big_may; first
     | (go_at_call 68; refine (HK.out _ (hst.old (by decide) hp)).mono ?_; rintro e Wk ⟨rfl, hnew⟩; replace hst := hst.keep hnew)
     | (refine L_load1 (d := some 65) rfl rfl rfl (by rfl) Tryd.underlying3 rfl (by first | assumption | exact cell_of (hst.get 0 rfl) hdArr_0 | exact cell_of (hst.get 0 rfl) rfl | exact cell_of (hst.get 1 rfl) hdArr_0 | exact cell_of (hst.get 1 rfl) rfl) ?_)
     | (refine L_load1 (d := some 70) rfl rfl rfl (by rfl) Tryd.underlying3 rfl (by first | assumption | exact cell_of (hst.get 0 rfl) hdArr_0 | exact cell_of (hst.get 0 rfl) rfl | exact cell_of (hst.get 1 rfl) hdArr_0 | exact cell_of (hst.get 1 rfl) rfl) ?_)
     | (refine L_load1 (d := some 72) rfl rfl rfl (by rfl) Tryd.underlying3 rfl (by first | assumption | exact cell_of (hst.get 0 rfl) hdArr_0 | exact cell_of (hst.get 0 rfl) rfl | exact cell_of (hst.get 1 rfl) hdArr_0 | exact cell_of (hst.get 1 rfl) rfl) ?_)
     | (first | (refine L_loadA (d := some 74) rfl rfl rfl (by rfl) Tryd.underlying23 rfl el_api_Digest (by first | exact hst.get 0 rfl | exact hst.get 1 rfl) (by first | rfl | exact Dig.size _ | (simp; done)) ?_) | (refine L_loadM (d := some 74) rfl rfl rfl (by rfl) Tryd.underlying23 rfl el_api_Digest (by first | assumption | exact hdArr_root (hst.get 0 rfl) | exact hdArr_root (hst.get 1 rfl) | exact hdArr_map (hst.get 0 rfl) | exact hdArr_map (hst.get 1 rfl)) (by first | rfl | exact Dig.size _ | (simp; done)) ?_))
     | (first | (refine L_loadA (d := some 76) rfl rfl rfl (by rfl) Tryd.underlying23 rfl el_api_Digest (by first | exact hst.get 0 rfl | exact hst.get 1 rfl) (by first | rfl | exact Dig.size _ | (simp; done)) ?_) | (refine L_loadM (d := some 76) rfl rfl rfl (by rfl) Tryd.underlying23 rfl el_api_Digest (by first | assumption | exact hdArr_root (hst.get 0 rfl) | exact hdArr_root (hst.get 1 rfl) | exact hdArr_map (hst.get 0 rfl) | exact hdArr_map (hst.get 1 rfl)) (by first | rfl | exact Dig.size _ | (simp; done)) ?_))
     | fail)
    go_wp2_with (first
     | fail)
    go_ret
    obtain rfl : r = 9 := HR.out
    exact ⟨rfl, hst.forget⟩
  ·have hr := HR.out
   clear HR
   rw [if_neg c1] at hr
   have HR := Lib.hid hr
   clear hr
   rw [decide_eq_false c1]
   go_wp2_with (first
    | fail)
   go_ret
   obtain rfl : r = 1 := HR.out
   exact ⟨rfl, hst.forget⟩
end Go.Proofs.YtkbleigmfcleaaaDoor

set_option maxRecDepth 20000
set_option linter.unusedSimpArgs false
set_option linter.unusedVariables false
namespace Go.Proofs.YtkbleigmfcleaaaDoor
open Go.RowKit
theorem headsL_app (a b : List Hd) : headsL (a ++ b) = headsL a ++ headsL b := by simp [headsL]
theorem headsL_one (q : Hd) : headsL [q] = (hdArr q.1 q.2.1 q.2.2.1 q.2.2.2).toList := by simp [headsL, Hd.cells, hdArr]
theorem heads_at (hs : List Hd) (i : Nat) (h : i < hs.length) : ((headsL hs).drop ((i : Int).toNat * 97)).take 97 = (hdArr hs[i].1 hs[i].2.1 hs[i].2.2.1 hs[i].2.2.2).toList := by
 have e : hs = hs.take i ++ ([hs[i]] ++ hs.drop (i + 1)) := by
  rw [List.singleton_append, ← List.drop_eq_getElem_cons h, List.take_append_drop]
 conv => lhs; rw [e]
 have hl : (headsL (hs.take i)).length = (i : Int).toNat * 97 := by rw [length_headsL, List.length_take, Nat.min_eq_left (by omega)]; rfl
 rw [headsL_app, List.drop_left' hl, headsL_app, headsL_one, List.take_left' (by rw [Array.length_toList, hdArr_size])]
theorem head_cells {W : World} {g off i : Nat} {hs : List Hd} (h : W.rangeAt g (off + (i : Int).toNat * 97) (((headsL hs).drop ((i : Int).toNat * 97)).take 97)) (hi : i < hs.length) : W.rangeAt g (off + (i : Int).toNat * 97) (hdArr hs[i].1 hs[i].2.1 hs[i].2.2.1 hs[i].2.2.2).toList := by
 rwa [heads_at hs i hi] at h
theorem dpiece_at {W : World} {g off i n : Nat} {f : Nat → DPiece} (h : W.rangeAt g (off + (i : Int).toNat * 1) ((((List.range n).map fun i => (f i).v).drop ((i : Int).toNat * 1)).take 1)) (hi : i < n) : W.cell? ⟨g, off + (i : Int).toNat * 1, none⟩ = some (.slice (f i).1 (f i).2.1 (f i).2.2.1) := by
 have := h 0 (f i).v (by simp [hi])
 simpa [DPiece.v] using this
def flipD (d : Dig) : Dig := ⟨(d.l.headD 0 ^^^ 1) :: d.l.tail, by
 have := d.h
 rw [List.length_cons, List.length_tail]
 omega⟩
theorem flip_ne (d : Dig) : flipD d ≠ d := by
 intro h
 have h1 := congrArg Dig.l h
 have hd := d.h
 cases hl : d.l with
 | nil => rw [hl] at hd; simp at hd
 | cons a r =>
  simp only [flipD, hl, List.headD_cons, List.tail_cons, List.cons.injEq, and_true] at h1
  have h2 := congrArg (a ^^^ ·) h1
  simp only [← UInt8.xor_assoc, UInt8.xor_self, UInt8.zero_xor] at h2
  exact absurd h2 (by decide)
theorem hdArr_65 {n : Int} {x y z : Dig} : (hdArr n x y z)[65]? = some (byteV (z.l.headD 0)) := by
 have l : ∀ d : Dig, d.arr.toList.length = 32 := fun d => by simp [Dig.size]
 rw [← Array.getElem?_toList, hdArr_list, show 65 = 64 + 1 from rfl, List.getElem?_cons_succ, List.getElem?_append_right (by rw [l]; omega), l, List.getElem?_append_right (by rw [l]; omega), l]
 have hd := z.h
 rw [Dig.toList]
 cases hl : z.l with
 | nil => rw [hl] at hd; simp at hd
 | cons a r => simp [bytesL]
theorem hdArr_flip (n : Int) (x y z : Dig) : (hdArr n x y z).setIfInBounds 65 (byteV (z.l.headD 0 ^^^ 1)) = hdArr n x y (flipD z) := by
 have l : ∀ d : Dig, d.arr.toList.length = 32 := fun d => by simp [Dig.size]
 apply Array.ext'
 rw [Array.toList_setIfInBounds, hdArr_list, hdArr_list, show 65 = 64 + 1 from rfl, List.set_cons_succ, List.set_append_right _ _ (by rw [l]; omega), l, List.set_append_right _ _ (by rw [l]; omega), l]
 have hd := z.h
 rw [Dig.toList z, Dig.toList (flipD z)]
 cases hl : z.l with
 | nil => rw [hl] at hd; simp at hd
 | cons a r => simp [bytesL, flipD, hl]
section
variable {P : Program} {ops : Array Oper} {rest : List Oper} {o : Oper} {a : Act} {W : World} {Q : Exit → Act → World → Prop} {d : Option Tmp}
theorem L_fieldD (hd : o.dst = d) (hw : Region.wanted o (yielded ops a.tmps) = true) {T : TypeId} {x : Operand} {k : Nat} (ho : o.op = .field T x k) {fs : Array Field} (hu : P.underlying T = some (.struct fs)) {fl : Field} (hf : fs[k]? = some fl) {cs : Array Value} (hx : a.eval x = .agg cs)
  {e : TypeId} (ht : P.underlying fl.type = some (.array 32 e)) {z : Value} {b : Nat} (hi : ElemIs P fl.type z 32 b) {q : Dig} (hc : (cs.toList.drop fl.offset).take 32 = q.arr.toList)
  (h : wpList P ops Q rest (a.put d (.agg q.arr)) W) : wpList P ops Q (o :: rest) a W := by
 refine L_val hd hw ?_ h
 unfold execOp
 simp only [ho, hx]
 simp [Instr.field, run_underlying hu, hf, asAgg, run_partD ht hi hc]
end
end Go.Proofs.YtkbleigmfcleaaaDoor

set_option linter.unusedSimpArgs false
set_option linter.unusedVariables false
namespace Go.Proofs.YtkbleigmfcleaaaDoor
open Go.RowKit
def pinAft (r : Nat) (a b : Array Value) : Array Value := if r = 0 then b else a
attribute [local simp] pinArr_size hdArr_size
set_option maxHeartbeats 40000000 in
set_option maxRecDepth 100000 in
theorem ptake_any (key : List UInt8) (g : Nat) (O : Option Addr) (m oc : Nat) (n0 : Int) (x0 y0 z0 : Dig) (n : Int) (x y z : Dig) (p : List Dig) (P : Option Addr) (k pc : Nat) (w0 w : World) (L : List Res) (hT : Tb w0) (hp : SlR w0 P k pc 32 (digsL p))
  (hst : St w0 w (.blk g 103 (pinArr O m oc n0 x0 y0 z0) :: .row O m oc 5 1 (bytesL key) :: L)) (hm : m ≤ 140737488355000) (hn1 : -9223372036854775808 ≤ n) (hn2 : n ≤ 9223372036854775807) (h0 : 0 ≤ n0) :
  Calls Tryd.prog 40 #[.pointer (some ⟨g, 0, none⟩), .agg (hdArr n x y z), .slice P k pc] w fun e w' => e = .returned (errO (takeN key n0 x0 y0 n x y z p)) ∧
   St w0 w' (.blk g 103 (pinAft (takeN key n0 x0 y0 n x y z p) (pinArr O m oc n0 x0 y0 z0) (pinArr O m oc n x y z)) :: .row O m oc 5 1 (bytesL key) :: L) := by
 have hl : p.length = k := by have := hp.1; rw [length_digsL] at this; omega
 have HT := Lib.hid hT
 have HC := Lib.hid (fun (w' : World) (ht : Tb w') (h1 : SlR w' O m oc 1 (bytesL key)) => told_tag_any key O m oc n x y z w' hn1 hn2 ht h1 hm)
 clear hT hn1 hn2 hm
 have HK := Lib.hid (fun (w' : World) (ht : Tb w') (hs : SlR w' P k pc 32 (digsL p)) => check_all n0 n x0 x p P k pc w' ht hs)
 obtain ⟨r, hr⟩ : ∃ r, r = takeN key n0 x0 y0 n x y z p := ⟨_, rfl⟩
 rw [← hr]
 unfold takeN at hr
 by_cases c1 : z = tagN key n x y
 ·rw [if_pos c1] at hr
  rw [decide_eq_true c1] at HC
  clear c1
  have HR := Lib.hid hr
  clear hr
  have hl0 := Lib.hid hl
  have h00 := Lib.hid h0
  clear hl h0
  go_enter Tryd.func40, Tryd.ntmps40
  go_upto_region 1 with (go_big_may; first
   | (refine L_boxA (d := some 4) rfl rfl rfl (ev_tmp rfl) ?_; (try clear hnew); intro g4 W4 hnew; replace hst := hst.trans hnew; simp only [List.cons_append, List.nil_append] at hst)
   | fail)
  go_upto_region 2 with (go_big_may; first
   | (first | (refine L_loadA (d := some 11) rfl rfl rfl (by rfl) Tryd.underlying39 rfl el_api_Head (by first | exact hst.get 0 rfl | exact hst.get 1 rfl | exact hst.get 2 rfl) (by first | exact Dig.size _ | exact hdArr_size _ _ _ _ | rfl | (simp; done)) ?_) | (refine L_loadM (d := some 11) rfl rfl rfl (by rfl) Tryd.underlying39 rfl el_api_Head (by first | assumption | exact pinArr_head (hst.get 1 rfl)) (by first | exact Dig.size _ | exact hdArr_size _ _ _ _ | rfl | (simp; done)) ?_))
   | (refine L_allocA (d := some 7) rfl rfl rfl el_api_Head ?_; (try clear hnew); intro g7 W7 hnew; replace hst := hst.trans hnew; simp only [List.cons_append, List.nil_append] at hst)
   | (refine wpl_at (.store 39 (.tmp 7) (.tmp 11)) rfl ?_; first | (refine L_storeA rfl rfl hst rfl (by rfl) (ev_tmp rfl) (by first | rfl | exact Dig.one _ | exact hdArr_all _ _ _ _ | (simp; done)) el_api_Head (by first | rfl | exact Dig.size _ | exact hdArr_size _ _ _ _ | (simp; done)) 0 rfl (by first | rfl | exact Dig.size _ | exact hdArr_size _ _ _ _ | (simp; done)) ?_; clear hst; intro WS5 hst; simp only [List.set_cons_zero, List.set_cons_succ] at hst) | (refine L_storeA rfl rfl hst rfl (by rfl) (ev_tmp rfl) (by first | rfl | exact Dig.one _ | exact hdArr_all _ _ _ _ | (simp; done)) el_api_Head (by first | rfl | exact Dig.size _ | exact hdArr_size _ _ _ _ | (simp; done)) 1 rfl (by first | rfl | exact Dig.size _ | exact hdArr_size _ _ _ _ | (simp; done)) ?_; clear hst; intro WS5 hst; simp only [List.set_cons_zero, List.set_cons_succ] at hst) | (refine L_storeA rfl rfl hst rfl (by rfl) (ev_tmp rfl) (by first | rfl | exact Dig.one _ | exact hdArr_all _ _ _ _ | (simp; done)) el_api_Head (by first | rfl | exact Dig.size _ | exact hdArr_size _ _ _ _ | (simp; done)) 2 rfl (by first | rfl | exact Dig.size _ | exact hdArr_size _ _ _ _ | (simp; done)) ?_; clear hst; intro WS5 hst; simp only [List.set_cons_zero, List.set_cons_succ] at hst) | (refine L_storeM rfl rfl hst rfl (by rfl) (ev_tmp rfl) (by first | rfl | exact Dig.one _ | exact hdArr_all _ _ _ _ | (simp; done)) el_api_Head (by first | rfl | exact Dig.size _ | exact hdArr_size _ _ _ _ | (simp; done)) 0 rfl (by first | exact of_decide_eq_true rfl | (simp; done)) ?_; clear hst; intro WS5 hst; simp only [List.set_cons_zero, List.set_cons_succ] at hst)  | (refine L_storeM rfl rfl hst rfl (by rfl) (ev_tmp rfl) (by first | rfl | exact Dig.one _ | exact hdArr_all _ _ _ _ | (simp; done)) el_api_Head (by first | rfl | exact Dig.size _ | exact hdArr_size _ _ _ _ | (simp; done)) 1 rfl (by first | exact of_decide_eq_true rfl | (simp; done)) ?_; clear hst; intro WS5 hst; simp only [List.set_cons_zero, List.set_cons_succ] at hst)  | (refine L_storeM rfl rfl hst rfl (by rfl) (ev_tmp rfl) (by first | rfl | exact Dig.one _ | exact hdArr_all _ _ _ _ | (simp; done)) el_api_Head (by first | rfl | exact Dig.size _ | exact hdArr_size _ _ _ _ | (simp; done)) 2 rfl (by first | exact of_decide_eq_true rfl | (simp; done)) ?_; clear hst; intro WS5 hst; simp only [List.set_cons_zero, List.set_cons_succ] at hst))
   | fail)
  refine wp_region_idx [(0, 0), (1, 0), (2, 0), (3, 0), (4, 2), (5, 2), (6, 2), (7, 2)] (by kernel_rfl) (by kernel_rfl) ?_
  replace hst := hst.drew
  refine idx_q rfl rfl ?_; go_wp2_with fail
  refine idx_q rfl rfl ?_; go_wp2_with fail
  refine idx_qf rfl rfl (by kernel_rfl) ?_; go_wp2_with fail
  refine idx_q rfl rfl ?_; go_wp2_with (first | (refine L_load1 (d := some 16) rfl rfl rfl (by rfl) Tryd.underlying49 rfl (by first | assumption | exact cell_of (hst.get 0 rfl) pinArr_0 | exact cell_of (hst.get 0 rfl) rfl | exact cell_of (hst.get 1 rfl) pinArr_0 | exact cell_of (hst.get 1 rfl) rfl | exact cell_of (hst.get 2 rfl) pinArr_0 | exact cell_of (hst.get 2 rfl) rfl) ?_) | fail)
  refine idx_g rfl ?_; go_wp2_with (first | (first | (refine L_loadA (d := some 17) rfl rfl rfl (by rfl) Tryd.underlying39 rfl el_api_Head (by first | exact hst.get 0 rfl | exact hst.get 1 rfl | exact hst.get 2 rfl) (by first | exact Dig.size _ | exact hdArr_size _ _ _ _ | rfl | (simp; done)) ?_) | (refine L_loadM (d := some 17) rfl rfl rfl (by rfl) Tryd.underlying39 rfl el_api_Head (by first | assumption) (by first | exact Dig.size _ | exact hdArr_size _ _ _ _ | rfl | (simp; done)) ?_)) | fail); refine ⟨by first | exact Below.refl _ _ | exact hnew.below, ?_⟩
  refine idx_g rfl ?_; go_wp2_with (first | (go_at_call 66; refine (HC.out _ (HT.out.of hst) (hst.sl 3 rfl)).mono ?_; rintro e Wt ⟨rfl, hnew⟩; replace hst := hst.keep hnew) | fail); refine ⟨by first | exact Below.refl _ _ | exact hnew.below, ?_⟩
  refine idx_g rfl ?_; go_wp2_with fail; refine ⟨by first | exact Below.refl _ _ | exact hnew.below, ?_⟩
  refine idx_g rfl ?_; go_wp2_with fail; refine ⟨by first | exact Below.refl _ _ | exact hnew.below, ?_⟩
  refine idx_nil ?_
  by_cases c2 : n < 0
  ·have hr := HR.out
   clear HR
   rw [if_pos (Or.inl c2)] at hr
   have HR := Lib.hid hr
   clear hr
   go_upto_region 5 with (go_big_may; first
    | (refine L_load1 (d := some 23) rfl rfl rfl (by rfl) Tryd.underlying3 rfl (by first | assumption | exact cell_of (hst.get 0 rfl) hdArr_0 | exact cell_of (hst.get 0 rfl) rfl | exact cell_of (hst.get 1 rfl) hdArr_0 | exact cell_of (hst.get 1 rfl) rfl) ?_)
    | fail)
   go_wp2_with (first
    | fail)
   go_ret
   obtain rfl : r = 2 := HR.out
   refine ⟨?_, hst.tail.tail⟩
   show _ = Ending.returned (errV 2)
   rfl
  by_cases c3 : 256 < n
  ·have hr := HR.out
   clear HR
   rw [if_pos (Or.inr c3)] at hr
   have HR := Lib.hid hr
   clear hr
   go_upto_region 5 with (go_big_may; first
    | (refine L_load1 (d := some 23) rfl rfl rfl (by rfl) Tryd.underlying3 rfl (by first | assumption | exact cell_of (hst.get 0 rfl) hdArr_0 | exact cell_of (hst.get 0 rfl) rfl | exact cell_of (hst.get 1 rfl) hdArr_0 | exact cell_of (hst.get 1 rfl) rfl) ?_)
    | (refine L_load1 (d := some 27) rfl rfl rfl (by rfl) Tryd.underlying3 rfl (by first | assumption | exact cell_of (hst.get 0 rfl) hdArr_0 | exact cell_of (hst.get 0 rfl) rfl | exact cell_of (hst.get 1 rfl) hdArr_0 | exact cell_of (hst.get 1 rfl) rfl) ?_)
    | fail)
   go_wp2_with (first
    | fail)
   go_ret
   obtain rfl : r = 2 := HR.out
   refine ⟨?_, hst.tail.tail⟩
   show _ = Ending.returned (errV 2)
   rfl
  have hr := HR.out
  clear HR
  rw [if_neg (not_or.2 ⟨c2, c3⟩)] at hr
  have HR := Lib.hid hr
  clear hr
  by_cases c4 : n < n0
  ·have hr := HR.out
   clear HR
   rw [if_pos c4] at hr
   have HR := Lib.hid hr
   clear hr
   go_upto_region 6 with (go_big_may; first
    | (refine L_load1 (d := some 23) rfl rfl rfl (by rfl) Tryd.underlying3 rfl (by first | assumption | exact cell_of (hst.get 0 rfl) hdArr_0 | exact cell_of (hst.get 0 rfl) rfl | exact cell_of (hst.get 1 rfl) hdArr_0 | exact cell_of (hst.get 1 rfl) rfl) ?_)
    | (refine L_load1 (d := some 27) rfl rfl rfl (by rfl) Tryd.underlying3 rfl (by first | assumption | exact cell_of (hst.get 0 rfl) hdArr_0 | exact cell_of (hst.get 0 rfl) rfl | exact cell_of (hst.get 1 rfl) hdArr_0 | exact cell_of (hst.get 1 rfl) rfl) ?_)
    | fail)
   go_upto_region 7 with (go_big_may; first
    | (refine L_load1 (d := some 33) rfl rfl rfl (by rfl) Tryd.underlying3 rfl (by first | assumption | exact cell_of (hst.get 0 rfl) hdArr_0 | exact cell_of (hst.get 0 rfl) rfl | exact cell_of (hst.get 1 rfl) hdArr_0 | exact cell_of (hst.get 1 rfl) rfl) ?_)
    | (refine L_load1 (d := some 35) rfl rfl rfl (by rfl) Tryd.underlying3 rfl (by first | assumption | exact cell_of (hst.get 0 rfl) hdArr_0 | exact cell_of (hst.get 0 rfl) rfl | exact cell_of (hst.get 1 rfl) hdArr_0 | exact cell_of (hst.get 1 rfl) rfl) ?_)
    | fail)
   go_wp2_with (first
    | fail)
   go_ret
   obtain rfl : r = 8 := HR.out
   refine ⟨?_, hst.tail.tail⟩
   show _ = Ending.returned (errV 8)
   rfl
  have hr := HR.out
  clear HR
  rw [if_neg c4] at hr
  have HR := Lib.hid hr
  clear hr
  by_cases c5 : n = n0
  ·subst c5
   have hr := HR.out
   clear HR
   rw [if_pos rfl] at hr
   have HR := Lib.hid hr
   clear hr
   by_cases c6 : x = x0
   ·have hx := dNe x0
    subst c6
    by_cases c7 : y = y0
    ·subst c7
     have hr := HR.out
     clear HR
     rw [if_pos ⟨rfl, rfl⟩] at hr
     have HR := Lib.hid hr
     clear hr
     go_upto_region 6 with (go_big_may; first
      | (refine L_load1 (d := some 23) rfl rfl rfl (by rfl) Tryd.underlying3 rfl (by first | assumption | exact cell_of (hst.get 0 rfl) hdArr_0 | exact cell_of (hst.get 0 rfl) rfl | exact cell_of (hst.get 1 rfl) hdArr_0 | exact cell_of (hst.get 1 rfl) rfl) ?_)
      | (refine L_load1 (d := some 27) rfl rfl rfl (by rfl) Tryd.underlying3 rfl (by first | assumption | exact cell_of (hst.get 0 rfl) hdArr_0 | exact cell_of (hst.get 0 rfl) rfl | exact cell_of (hst.get 1 rfl) hdArr_0 | exact cell_of (hst.get 1 rfl) rfl) ?_)
      | fail)
     go_upto_region 8 with (go_big_may; first
      | (refine L_load1 (d := some 33) rfl rfl rfl (by rfl) Tryd.underlying3 rfl (by first | assumption | exact cell_of (hst.get 0 rfl) hdArr_0 | exact cell_of (hst.get 0 rfl) rfl | exact cell_of (hst.get 1 rfl) hdArr_0 | exact cell_of (hst.get 1 rfl) rfl) ?_)
      | (refine L_load1 (d := some 35) rfl rfl rfl (by rfl) Tryd.underlying3 rfl (by first | assumption | exact cell_of (hst.get 0 rfl) hdArr_0 | exact cell_of (hst.get 0 rfl) rfl | exact cell_of (hst.get 1 rfl) hdArr_0 | exact cell_of (hst.get 1 rfl) rfl) ?_)
      | fail)
     go_upto_region 9 with (go_big_may; first
      | (refine L_load1 (d := some 40) rfl rfl rfl (by rfl) Tryd.underlying3 rfl (by first | assumption | exact cell_of (hst.get 0 rfl) hdArr_0 | exact cell_of (hst.get 0 rfl) rfl | exact cell_of (hst.get 1 rfl) hdArr_0 | exact cell_of (hst.get 1 rfl) rfl) ?_)
      | (refine L_load1 (d := some 42) rfl rfl rfl (by rfl) Tryd.underlying3 rfl (by first | assumption | exact cell_of (hst.get 0 rfl) hdArr_0 | exact cell_of (hst.get 0 rfl) rfl | exact cell_of (hst.get 1 rfl) hdArr_0 | exact cell_of (hst.get 1 rfl) rfl) ?_)
      | fail)
     go_upto_region 16 with (go_big_may; first
      | (first | (refine L_loadA (d := some 45) rfl rfl rfl (by rfl) Tryd.underlying23 rfl el_api_Digest (by first | exact hst.get 0 rfl | exact hst.get 1 rfl) (by first | rfl | exact Dig.size _ | (simp; done)) ?_) | (refine L_loadM (d := some 45) rfl rfl rfl (by rfl) Tryd.underlying23 rfl el_api_Digest (by first | assumption | exact hdArr_root (hst.get 0 rfl) | exact hdArr_root (hst.get 1 rfl) | exact hdArr_map (hst.get 0 rfl) | exact hdArr_map (hst.get 1 rfl)) (by first | rfl | exact Dig.size _ | (simp; done)) ?_))
      | (first | (refine L_loadA (d := some 47) rfl rfl rfl (by rfl) Tryd.underlying23 rfl el_api_Digest (by first | exact hst.get 0 rfl | exact hst.get 1 rfl) (by first | rfl | exact Dig.size _ | (simp; done)) ?_) | (refine L_loadM (d := some 47) rfl rfl rfl (by rfl) Tryd.underlying23 rfl el_api_Digest (by first | assumption | exact hdArr_root (hst.get 0 rfl) | exact hdArr_root (hst.get 1 rfl) | exact hdArr_map (hst.get 0 rfl) | exact hdArr_map (hst.get 1 rfl)) (by first | rfl | exact Dig.size _ | (simp; done)) ?_))
      | (refine L_neD (d := some 48) rfl rfl rfl Tryd.underlying23 Tryd.underlying5 el_uint8 eqG_D (ev_tmp rfl) (ev_tmp rfl) ?_; (try rw [dNe _]))
      | (first | (refine L_loadA (d := some 51) rfl rfl rfl (by rfl) Tryd.underlying23 rfl el_api_Digest (by first | exact hst.get 0 rfl | exact hst.get 1 rfl) (by first | rfl | exact Dig.size _ | (simp; done)) ?_) | (refine L_loadM (d := some 51) rfl rfl rfl (by rfl) Tryd.underlying23 rfl el_api_Digest (by first | assumption | exact hdArr_root (hst.get 0 rfl) | exact hdArr_root (hst.get 1 rfl) | exact hdArr_map (hst.get 0 rfl) | exact hdArr_map (hst.get 1 rfl)) (by first | rfl | exact Dig.size _ | (simp; done)) ?_))
      | (first | (refine L_loadA (d := some 53) rfl rfl rfl (by rfl) Tryd.underlying23 rfl el_api_Digest (by first | exact hst.get 0 rfl | exact hst.get 1 rfl) (by first | rfl | exact Dig.size _ | (simp; done)) ?_) | (refine L_loadM (d := some 53) rfl rfl rfl (by rfl) Tryd.underlying23 rfl el_api_Digest (by first | assumption | exact hdArr_root (hst.get 0 rfl) | exact hdArr_root (hst.get 1 rfl) | exact hdArr_map (hst.get 0 rfl) | exact hdArr_map (hst.get 1 rfl)) (by first | rfl | exact Dig.size _ | (simp; done)) ?_))
      | (refine L_neD (d := some 54) rfl rfl rfl Tryd.underlying23 Tryd.underlying5 el_uint8 eqG_D (ev_tmp rfl) (ev_tmp rfl) ?_; (try rw [dNe _]))
      | fail)
     go_upto_region 17 with (go_big_may; first
      | (first | (refine L_loadA (d := some 79) rfl rfl rfl (by rfl) Tryd.underlying39 rfl el_api_Head (by first | exact hst.get 0 rfl | exact hst.get 1 rfl | exact hst.get 2 rfl) (by first | exact Dig.size _ | exact hdArr_size _ _ _ _ | exact pinArr_size _ _ _ _ _ _ _ | rfl | (simp; done)) ?_) | (refine L_loadM (d := some 79) rfl rfl rfl (by rfl) Tryd.underlying39 rfl el_api_Head (by first | assumption) (by first | exact Dig.size _ | exact hdArr_size _ _ _ _ | exact pinArr_size _ _ _ _ _ _ _ | rfl | (simp; done)) ?_))
      | (refine wpl_at (.store 39 (.tmp 81) (.tmp 79)) rfl ?_; first | (refine L_storeA rfl rfl hst rfl (by rfl) (ev_tmp rfl) (by first | rfl | exact Dig.one _ | exact hdArr_all _ _ _ _ | (simp; done)) el_api_Head (by first | rfl | exact Dig.size _ | exact hdArr_size _ _ _ _ | exact pinArr_size _ _ _ _ _ _ _ | (simp; done)) 0 rfl (by first | rfl | exact Dig.size _ | exact hdArr_size _ _ _ _ | exact pinArr_size _ _ _ _ _ _ _ | (simp; done)) ?_; clear hst; intro WS4 hst; simp only [List.set_cons_zero, List.set_cons_succ, pinArr_put _ _ _ _ _ _ _ _ _ _ _] at hst) | (refine L_storeA rfl rfl hst rfl (by rfl) (ev_tmp rfl) (by first | rfl | exact Dig.one _ | exact hdArr_all _ _ _ _ | (simp; done)) el_api_Head (by first | rfl | exact Dig.size _ | exact hdArr_size _ _ _ _ | exact pinArr_size _ _ _ _ _ _ _ | (simp; done)) 1 rfl (by first | rfl | exact Dig.size _ | exact hdArr_size _ _ _ _ | exact pinArr_size _ _ _ _ _ _ _ | (simp; done)) ?_; clear hst; intro WS4 hst; simp only [List.set_cons_zero, List.set_cons_succ, pinArr_put _ _ _ _ _ _ _ _ _ _ _] at hst) | (refine L_storeA rfl rfl hst rfl (by rfl) (ev_tmp rfl) (by first | rfl | exact Dig.one _ | exact hdArr_all _ _ _ _ | (simp; done)) el_api_Head (by first | rfl | exact Dig.size _ | exact hdArr_size _ _ _ _ | exact pinArr_size _ _ _ _ _ _ _ | (simp; done)) 2 rfl (by first | rfl | exact Dig.size _ | exact hdArr_size _ _ _ _ | exact pinArr_size _ _ _ _ _ _ _ | (simp; done)) ?_; clear hst; intro WS4 hst; simp only [List.set_cons_zero, List.set_cons_succ, pinArr_put _ _ _ _ _ _ _ _ _ _ _] at hst) | (refine L_storeM rfl rfl hst rfl (by rfl) (ev_tmp rfl) (by first | rfl | exact Dig.one _ | exact hdArr_all _ _ _ _ | (simp; done)) el_api_Head (by first | rfl | exact Dig.size _ | exact hdArr_size _ _ _ _ | exact pinArr_size _ _ _ _ _ _ _ | (simp; done)) 0 rfl (by first | exact of_decide_eq_true rfl | (simp; done)) ?_; clear hst; intro WS4 hst; simp only [List.set_cons_zero, List.set_cons_succ, pinArr_put _ _ _ _ _ _ _ _ _ _ _] at hst)  | (refine L_storeM rfl rfl hst rfl (by rfl) (ev_tmp rfl) (by first | rfl | exact Dig.one _ | exact hdArr_all _ _ _ _ | (simp; done)) el_api_Head (by first | rfl | exact Dig.size _ | exact hdArr_size _ _ _ _ | exact pinArr_size _ _ _ _ _ _ _ | (simp; done)) 1 rfl (by first | exact of_decide_eq_true rfl | (simp; done)) ?_; clear hst; intro WS4 hst; simp only [List.set_cons_zero, List.set_cons_succ, pinArr_put _ _ _ _ _ _ _ _ _ _ _] at hst)  | (refine L_storeM rfl rfl hst rfl (by rfl) (ev_tmp rfl) (by first | rfl | exact Dig.one _ | exact hdArr_all _ _ _ _ | (simp; done)) el_api_Head (by first | rfl | exact Dig.size _ | exact hdArr_size _ _ _ _ | exact pinArr_size _ _ _ _ _ _ _ | (simp; done)) 2 rfl (by first | exact of_decide_eq_true rfl | (simp; done)) ?_; clear hst; intro WS4 hst; simp only [List.set_cons_zero, List.set_cons_succ, pinArr_put _ _ _ _ _ _ _ _ _ _ _] at hst))
      | fail)
     go_wp2_with (first
      | fail)
     go_ret
     obtain rfl : r = 0 := HR.out
     refine ⟨?_, hst.tail.tail⟩
     show _ = Ending.returned .nilIface
     rfl
    ·have hr := HR.out
     clear HR
     rw [if_neg (fun h => c7 h.2)] at hr
     have HR := Lib.hid hr
     clear hr
     go_upto_region 6 with (go_big_may; first
      | (refine L_load1 (d := some 23) rfl rfl rfl (by rfl) Tryd.underlying3 rfl (by first | assumption | exact cell_of (hst.get 0 rfl) hdArr_0 | exact cell_of (hst.get 0 rfl) rfl | exact cell_of (hst.get 1 rfl) hdArr_0 | exact cell_of (hst.get 1 rfl) rfl) ?_)
      | (refine L_load1 (d := some 27) rfl rfl rfl (by rfl) Tryd.underlying3 rfl (by first | assumption | exact cell_of (hst.get 0 rfl) hdArr_0 | exact cell_of (hst.get 0 rfl) rfl | exact cell_of (hst.get 1 rfl) hdArr_0 | exact cell_of (hst.get 1 rfl) rfl) ?_)
      | fail)
     go_upto_region 8 with (go_big_may; first
      | (refine L_load1 (d := some 33) rfl rfl rfl (by rfl) Tryd.underlying3 rfl (by first | assumption | exact cell_of (hst.get 0 rfl) hdArr_0 | exact cell_of (hst.get 0 rfl) rfl | exact cell_of (hst.get 1 rfl) hdArr_0 | exact cell_of (hst.get 1 rfl) rfl) ?_)
      | (refine L_load1 (d := some 35) rfl rfl rfl (by rfl) Tryd.underlying3 rfl (by first | assumption | exact cell_of (hst.get 0 rfl) hdArr_0 | exact cell_of (hst.get 0 rfl) rfl | exact cell_of (hst.get 1 rfl) hdArr_0 | exact cell_of (hst.get 1 rfl) rfl) ?_)
      | fail)
     go_upto_region 9 with (go_big_may; first
      | (refine L_load1 (d := some 40) rfl rfl rfl (by rfl) Tryd.underlying3 rfl (by first | assumption | exact cell_of (hst.get 0 rfl) hdArr_0 | exact cell_of (hst.get 0 rfl) rfl | exact cell_of (hst.get 1 rfl) hdArr_0 | exact cell_of (hst.get 1 rfl) rfl) ?_)
      | (refine L_load1 (d := some 42) rfl rfl rfl (by rfl) Tryd.underlying3 rfl (by first | assumption | exact cell_of (hst.get 0 rfl) hdArr_0 | exact cell_of (hst.get 0 rfl) rfl | exact cell_of (hst.get 1 rfl) hdArr_0 | exact cell_of (hst.get 1 rfl) rfl) ?_)
      | fail)
     go_upto_region 10 with (go_big_may; first
      | (first | (refine L_loadA (d := some 45) rfl rfl rfl (by rfl) Tryd.underlying23 rfl el_api_Digest (by first | exact hst.get 0 rfl | exact hst.get 1 rfl) (by first | rfl | exact Dig.size _ | (simp; done)) ?_) | (refine L_loadM (d := some 45) rfl rfl rfl (by rfl) Tryd.underlying23 rfl el_api_Digest (by first | assumption | exact hdArr_root (hst.get 0 rfl) | exact hdArr_root (hst.get 1 rfl) | exact hdArr_map (hst.get 0 rfl) | exact hdArr_map (hst.get 1 rfl)) (by first | rfl | exact Dig.size _ | (simp; done)) ?_))
      | (first | (refine L_loadA (d := some 47) rfl rfl rfl (by rfl) Tryd.underlying23 rfl el_api_Digest (by first | exact hst.get 0 rfl | exact hst.get 1 rfl) (by first | rfl | exact Dig.size _ | (simp; done)) ?_) | (refine L_loadM (d := some 47) rfl rfl rfl (by rfl) Tryd.underlying23 rfl el_api_Digest (by first | assumption | exact hdArr_root (hst.get 0 rfl) | exact hdArr_root (hst.get 1 rfl) | exact hdArr_map (hst.get 0 rfl) | exact hdArr_map (hst.get 1 rfl)) (by first | rfl | exact Dig.size _ | (simp; done)) ?_))
      | (refine L_neD (d := some 48) rfl rfl rfl Tryd.underlying23 Tryd.underlying5 el_uint8 eqG_D (ev_tmp rfl) (ev_tmp rfl) ?_; (try rw [dNe _]))
      | (first | (refine L_loadA (d := some 51) rfl rfl rfl (by rfl) Tryd.underlying23 rfl el_api_Digest (by first | exact hst.get 0 rfl | exact hst.get 1 rfl) (by first | rfl | exact Dig.size _ | (simp; done)) ?_) | (refine L_loadM (d := some 51) rfl rfl rfl (by rfl) Tryd.underlying23 rfl el_api_Digest (by first | assumption | exact hdArr_root (hst.get 0 rfl) | exact hdArr_root (hst.get 1 rfl) | exact hdArr_map (hst.get 0 rfl) | exact hdArr_map (hst.get 1 rfl)) (by first | rfl | exact Dig.size _ | (simp; done)) ?_))
      | (first | (refine L_loadA (d := some 53) rfl rfl rfl (by rfl) Tryd.underlying23 rfl el_api_Digest (by first | exact hst.get 0 rfl | exact hst.get 1 rfl) (by first | rfl | exact Dig.size _ | (simp; done)) ?_) | (refine L_loadM (d := some 53) rfl rfl rfl (by rfl) Tryd.underlying23 rfl el_api_Digest (by first | assumption | exact hdArr_root (hst.get 0 rfl) | exact hdArr_root (hst.get 1 rfl) | exact hdArr_map (hst.get 0 rfl) | exact hdArr_map (hst.get 1 rfl)) (by first | rfl | exact Dig.size _ | (simp; done)) ?_))
      | (refine L_neD (d := some 54) rfl rfl rfl Tryd.underlying23 Tryd.underlying5 el_uint8 eqG_D (ev_tmp rfl) (ev_tmp rfl) ?_; (try rw [dNe _]))
      | fail)
     go_wp2_with (first
      | fail)
     go_ret
     obtain rfl : r = 9 := HR.out
     refine ⟨?_, hst.tail.tail⟩
     show _ = Ending.returned (errV 9)
     rfl
   ·have hr := HR.out
    clear HR
    rw [if_neg (fun h => c6 h.1)] at hr
    have HR := Lib.hid hr
    clear hr
    go_upto_region 6 with (go_big_may; first
     | (refine L_load1 (d := some 23) rfl rfl rfl (by rfl) Tryd.underlying3 rfl (by first | assumption | exact cell_of (hst.get 0 rfl) hdArr_0 | exact cell_of (hst.get 0 rfl) rfl | exact cell_of (hst.get 1 rfl) hdArr_0 | exact cell_of (hst.get 1 rfl) rfl) ?_)
     | (refine L_load1 (d := some 27) rfl rfl rfl (by rfl) Tryd.underlying3 rfl (by first | assumption | exact cell_of (hst.get 0 rfl) hdArr_0 | exact cell_of (hst.get 0 rfl) rfl | exact cell_of (hst.get 1 rfl) hdArr_0 | exact cell_of (hst.get 1 rfl) rfl) ?_)
     | fail)
    go_upto_region 8 with (go_big_may; first
     | (refine L_load1 (d := some 33) rfl rfl rfl (by rfl) Tryd.underlying3 rfl (by first | assumption | exact cell_of (hst.get 0 rfl) hdArr_0 | exact cell_of (hst.get 0 rfl) rfl | exact cell_of (hst.get 1 rfl) hdArr_0 | exact cell_of (hst.get 1 rfl) rfl) ?_)
     | (refine L_load1 (d := some 35) rfl rfl rfl (by rfl) Tryd.underlying3 rfl (by first | assumption | exact cell_of (hst.get 0 rfl) hdArr_0 | exact cell_of (hst.get 0 rfl) rfl | exact cell_of (hst.get 1 rfl) hdArr_0 | exact cell_of (hst.get 1 rfl) rfl) ?_)
     | fail)
    go_upto_region 9 with (go_big_may; first
     | (refine L_load1 (d := some 40) rfl rfl rfl (by rfl) Tryd.underlying3 rfl (by first | assumption | exact cell_of (hst.get 0 rfl) hdArr_0 | exact cell_of (hst.get 0 rfl) rfl | exact cell_of (hst.get 1 rfl) hdArr_0 | exact cell_of (hst.get 1 rfl) rfl) ?_)
     | (refine L_load1 (d := some 42) rfl rfl rfl (by rfl) Tryd.underlying3 rfl (by first | assumption | exact cell_of (hst.get 0 rfl) hdArr_0 | exact cell_of (hst.get 0 rfl) rfl | exact cell_of (hst.get 1 rfl) hdArr_0 | exact cell_of (hst.get 1 rfl) rfl) ?_)
     | fail)
    go_upto_region 10 with (go_big_may; first
     | (first | (refine L_loadA (d := some 45) rfl rfl rfl (by rfl) Tryd.underlying23 rfl el_api_Digest (by first | exact hst.get 0 rfl | exact hst.get 1 rfl) (by first | rfl | exact Dig.size _ | (simp; done)) ?_) | (refine L_loadM (d := some 45) rfl rfl rfl (by rfl) Tryd.underlying23 rfl el_api_Digest (by first | assumption | exact hdArr_root (hst.get 0 rfl) | exact hdArr_root (hst.get 1 rfl) | exact hdArr_map (hst.get 0 rfl) | exact hdArr_map (hst.get 1 rfl)) (by first | rfl | exact Dig.size _ | (simp; done)) ?_))
     | (first | (refine L_loadA (d := some 47) rfl rfl rfl (by rfl) Tryd.underlying23 rfl el_api_Digest (by first | exact hst.get 0 rfl | exact hst.get 1 rfl) (by first | rfl | exact Dig.size _ | (simp; done)) ?_) | (refine L_loadM (d := some 47) rfl rfl rfl (by rfl) Tryd.underlying23 rfl el_api_Digest (by first | assumption | exact hdArr_root (hst.get 0 rfl) | exact hdArr_root (hst.get 1 rfl) | exact hdArr_map (hst.get 0 rfl) | exact hdArr_map (hst.get 1 rfl)) (by first | rfl | exact Dig.size _ | (simp; done)) ?_))
     | (refine L_neD (d := some 48) rfl rfl rfl Tryd.underlying23 Tryd.underlying5 el_uint8 eqG_D (ev_tmp rfl) (ev_tmp rfl) ?_)
     | fail)
    go_wp2_with (first
     | fail)
    go_ret
    obtain rfl : r = 9 := HR.out
    refine ⟨?_, hst.tail.tail⟩
    show _ = Ending.returned (errV 9)
    rfl
  have hr := HR.out
  clear HR
  rw [if_neg c5] at hr
  have HR := Lib.hid hr
  clear hr
  by_cases c6 : n0 = 0
  ·subst c6
   have hr := HR.out
   clear HR
   rw [if_pos rfl] at hr
   have HR := Lib.hid hr
   clear hr
   have hl := hl0.out
   by_cases c7 : p = []
   ·subst c7
    obtain rfl : k = 0 := by simpa using hl.symm
    clear hl hl0
    have hr := HR.out
    clear HR
    rw [if_pos rfl] at hr
    have HR := Lib.hid hr
    clear hr
    go_upto_region 6 with (go_big_may; first
     | (refine L_load1 (d := some 23) rfl rfl rfl (by rfl) Tryd.underlying3 rfl (by first | assumption | exact cell_of (hst.get 0 rfl) hdArr_0 | exact cell_of (hst.get 0 rfl) rfl | exact cell_of (hst.get 1 rfl) hdArr_0 | exact cell_of (hst.get 1 rfl) rfl) ?_)
     | (refine L_load1 (d := some 27) rfl rfl rfl (by rfl) Tryd.underlying3 rfl (by first | assumption | exact cell_of (hst.get 0 rfl) hdArr_0 | exact cell_of (hst.get 0 rfl) rfl | exact cell_of (hst.get 1 rfl) hdArr_0 | exact cell_of (hst.get 1 rfl) rfl) ?_)
     | fail)
    go_upto_region 8 with (go_big_may; first
     | (refine L_load1 (d := some 33) rfl rfl rfl (by rfl) Tryd.underlying3 rfl (by first | assumption | exact cell_of (hst.get 0 rfl) hdArr_0 | exact cell_of (hst.get 0 rfl) rfl | exact cell_of (hst.get 1 rfl) hdArr_0 | exact cell_of (hst.get 1 rfl) rfl) ?_)
     | (refine L_load1 (d := some 35) rfl rfl rfl (by rfl) Tryd.underlying3 rfl (by first | assumption | exact cell_of (hst.get 0 rfl) hdArr_0 | exact cell_of (hst.get 0 rfl) rfl | exact cell_of (hst.get 1 rfl) hdArr_0 | exact cell_of (hst.get 1 rfl) rfl) ?_)
     | fail)
    go_upto_region 11 with (go_big_may; first
     | (refine L_load1 (d := some 40) rfl rfl rfl (by rfl) Tryd.underlying3 rfl (by first | assumption | exact cell_of (hst.get 0 rfl) hdArr_0 | exact cell_of (hst.get 0 rfl) rfl | exact cell_of (hst.get 1 rfl) hdArr_0 | exact cell_of (hst.get 1 rfl) rfl) ?_)
     | (refine L_load1 (d := some 42) rfl rfl rfl (by rfl) Tryd.underlying3 rfl (by first | assumption | exact cell_of (hst.get 0 rfl) hdArr_0 | exact cell_of (hst.get 0 rfl) rfl | exact cell_of (hst.get 1 rfl) hdArr_0 | exact cell_of (hst.get 1 rfl) rfl) ?_)
     | fail)
    go_upto_region 12 with (go_big_may; first
     | (refine L_load1 (d := some 59) rfl rfl rfl (by rfl) Tryd.underlying3 rfl (by first | assumption | exact cell_of (hst.get 0 rfl) hdArr_0 | exact cell_of (hst.get 0 rfl) rfl | exact cell_of (hst.get 1 rfl) hdArr_0 | exact cell_of (hst.get 1 rfl) rfl) ?_)
     | fail)
    go_upto_region 16 with (go_big_may; first
     | fail)
    go_upto_region 17 with (go_big_may; first
     | (first | (refine L_loadA (d := some 79) rfl rfl rfl (by rfl) Tryd.underlying39 rfl el_api_Head (by first | exact hst.get 0 rfl | exact hst.get 1 rfl | exact hst.get 2 rfl) (by first | exact Dig.size _ | exact hdArr_size _ _ _ _ | exact pinArr_size _ _ _ _ _ _ _ | rfl | (simp; done)) ?_) | (refine L_loadM (d := some 79) rfl rfl rfl (by rfl) Tryd.underlying39 rfl el_api_Head (by first | assumption) (by first | exact Dig.size _ | exact hdArr_size _ _ _ _ | exact pinArr_size _ _ _ _ _ _ _ | rfl | (simp; done)) ?_))
     | (refine wpl_at (.store 39 (.tmp 81) (.tmp 79)) rfl ?_; first | (refine L_storeA rfl rfl hst rfl (by rfl) (ev_tmp rfl) (by first | rfl | exact Dig.one _ | exact hdArr_all _ _ _ _ | (simp; done)) el_api_Head (by first | rfl | exact Dig.size _ | exact hdArr_size _ _ _ _ | exact pinArr_size _ _ _ _ _ _ _ | (simp; done)) 0 rfl (by first | rfl | exact Dig.size _ | exact hdArr_size _ _ _ _ | exact pinArr_size _ _ _ _ _ _ _ | (simp; done)) ?_; clear hst; intro WS4 hst; simp only [List.set_cons_zero, List.set_cons_succ, pinArr_put _ _ _ _ _ _ _ _ _ _ _] at hst) | (refine L_storeA rfl rfl hst rfl (by rfl) (ev_tmp rfl) (by first | rfl | exact Dig.one _ | exact hdArr_all _ _ _ _ | (simp; done)) el_api_Head (by first | rfl | exact Dig.size _ | exact hdArr_size _ _ _ _ | exact pinArr_size _ _ _ _ _ _ _ | (simp; done)) 1 rfl (by first | rfl | exact Dig.size _ | exact hdArr_size _ _ _ _ | exact pinArr_size _ _ _ _ _ _ _ | (simp; done)) ?_; clear hst; intro WS4 hst; simp only [List.set_cons_zero, List.set_cons_succ, pinArr_put _ _ _ _ _ _ _ _ _ _ _] at hst) | (refine L_storeA rfl rfl hst rfl (by rfl) (ev_tmp rfl) (by first | rfl | exact Dig.one _ | exact hdArr_all _ _ _ _ | (simp; done)) el_api_Head (by first | rfl | exact Dig.size _ | exact hdArr_size _ _ _ _ | exact pinArr_size _ _ _ _ _ _ _ | (simp; done)) 2 rfl (by first | rfl | exact Dig.size _ | exact hdArr_size _ _ _ _ | exact pinArr_size _ _ _ _ _ _ _ | (simp; done)) ?_; clear hst; intro WS4 hst; simp only [List.set_cons_zero, List.set_cons_succ, pinArr_put _ _ _ _ _ _ _ _ _ _ _] at hst) | (refine L_storeM rfl rfl hst rfl (by rfl) (ev_tmp rfl) (by first | rfl | exact Dig.one _ | exact hdArr_all _ _ _ _ | (simp; done)) el_api_Head (by first | rfl | exact Dig.size _ | exact hdArr_size _ _ _ _ | exact pinArr_size _ _ _ _ _ _ _ | (simp; done)) 0 rfl (by first | exact of_decide_eq_true rfl | (simp; done)) ?_; clear hst; intro WS4 hst; simp only [List.set_cons_zero, List.set_cons_succ, pinArr_put _ _ _ _ _ _ _ _ _ _ _] at hst)  | (refine L_storeM rfl rfl hst rfl (by rfl) (ev_tmp rfl) (by first | rfl | exact Dig.one _ | exact hdArr_all _ _ _ _ | (simp; done)) el_api_Head (by first | rfl | exact Dig.size _ | exact hdArr_size _ _ _ _ | exact pinArr_size _ _ _ _ _ _ _ | (simp; done)) 1 rfl (by first | exact of_decide_eq_true rfl | (simp; done)) ?_; clear hst; intro WS4 hst; simp only [List.set_cons_zero, List.set_cons_succ, pinArr_put _ _ _ _ _ _ _ _ _ _ _] at hst)  | (refine L_storeM rfl rfl hst rfl (by rfl) (ev_tmp rfl) (by first | rfl | exact Dig.one _ | exact hdArr_all _ _ _ _ | (simp; done)) el_api_Head (by first | rfl | exact Dig.size _ | exact hdArr_size _ _ _ _ | exact pinArr_size _ _ _ _ _ _ _ | (simp; done)) 2 rfl (by first | exact of_decide_eq_true rfl | (simp; done)) ?_; clear hst; intro WS4 hst; simp only [List.set_cons_zero, List.set_cons_succ, pinArr_put _ _ _ _ _ _ _ _ _ _ _] at hst))
     | fail)
    go_wp2_with (first
     | fail)
    go_ret
    obtain rfl : r = 0 := HR.out
    refine ⟨?_, hst.tail.tail⟩
    show _ = Ending.returned .nilIface
    rfl
   ·have hk0 : (0 : Int) < (k : Int) := by
     have := List.length_pos_iff.2 c7
     omega
    clear hl hl0
    have hr := HR.out
    clear HR
    rw [if_neg c7] at hr
    have HR := Lib.hid hr
    clear hr
    go_upto_region 6 with (go_big_may; first
     | (refine L_load1 (d := some 23) rfl rfl rfl (by rfl) Tryd.underlying3 rfl (by first | assumption | exact cell_of (hst.get 0 rfl) hdArr_0 | exact cell_of (hst.get 0 rfl) rfl | exact cell_of (hst.get 1 rfl) hdArr_0 | exact cell_of (hst.get 1 rfl) rfl) ?_)
     | (refine L_load1 (d := some 27) rfl rfl rfl (by rfl) Tryd.underlying3 rfl (by first | assumption | exact cell_of (hst.get 0 rfl) hdArr_0 | exact cell_of (hst.get 0 rfl) rfl | exact cell_of (hst.get 1 rfl) hdArr_0 | exact cell_of (hst.get 1 rfl) rfl) ?_)
     | fail)
    go_upto_region 8 with (go_big_may; first
     | (refine L_load1 (d := some 33) rfl rfl rfl (by rfl) Tryd.underlying3 rfl (by first | assumption | exact cell_of (hst.get 0 rfl) hdArr_0 | exact cell_of (hst.get 0 rfl) rfl | exact cell_of (hst.get 1 rfl) hdArr_0 | exact cell_of (hst.get 1 rfl) rfl) ?_)
     | (refine L_load1 (d := some 35) rfl rfl rfl (by rfl) Tryd.underlying3 rfl (by first | assumption | exact cell_of (hst.get 0 rfl) hdArr_0 | exact cell_of (hst.get 0 rfl) rfl | exact cell_of (hst.get 1 rfl) hdArr_0 | exact cell_of (hst.get 1 rfl) rfl) ?_)
     | fail)
    go_upto_region 11 with (go_big_may; first
     | (refine L_load1 (d := some 40) rfl rfl rfl (by rfl) Tryd.underlying3 rfl (by first | assumption | exact cell_of (hst.get 0 rfl) hdArr_0 | exact cell_of (hst.get 0 rfl) rfl | exact cell_of (hst.get 1 rfl) hdArr_0 | exact cell_of (hst.get 1 rfl) rfl) ?_)
     | (refine L_load1 (d := some 42) rfl rfl rfl (by rfl) Tryd.underlying3 rfl (by first | assumption | exact cell_of (hst.get 0 rfl) hdArr_0 | exact cell_of (hst.get 0 rfl) rfl | exact cell_of (hst.get 1 rfl) hdArr_0 | exact cell_of (hst.get 1 rfl) rfl) ?_)
     | fail)
    go_upto_region 12 with (go_big_may; first
     | (refine L_load1 (d := some 59) rfl rfl rfl (by rfl) Tryd.underlying3 rfl (by first | assumption | exact cell_of (hst.get 0 rfl) hdArr_0 | exact cell_of (hst.get 0 rfl) rfl | exact cell_of (hst.get 1 rfl) hdArr_0 | exact cell_of (hst.get 1 rfl) rfl) ?_)
     | fail)
    go_upto_region 13 with (go_big_may; first
     | fail)
    go_wp2_with (first
     | fail)
    go_ret
    obtain rfl : r = 9 := HR.out
    refine ⟨?_, hst.tail.tail⟩
    show _ = Ending.returned (errV 9)
    rfl
  have hr := HR.out
  clear HR
  rw [if_neg c6] at hr
  have HR := Lib.hid hr
  clear hr
  by_cases c7 : growsB n0 n x0 x p = true
  ·have hr := HR.out
   clear HR
   rw [if_pos c7] at hr
   have HR := Lib.hid hr
   clear hr
   rw [c7] at HK
   go_upto_region 6 with (go_big_may; first
    | (refine L_load1 (d := some 23) rfl rfl rfl (by rfl) Tryd.underlying3 rfl (by first | assumption | exact cell_of (hst.get 0 rfl) hdArr_0 | exact cell_of (hst.get 0 rfl) rfl | exact cell_of (hst.get 1 rfl) hdArr_0 | exact cell_of (hst.get 1 rfl) rfl) ?_)
    | (refine L_load1 (d := some 27) rfl rfl rfl (by rfl) Tryd.underlying3 rfl (by first | assumption | exact cell_of (hst.get 0 rfl) hdArr_0 | exact cell_of (hst.get 0 rfl) rfl | exact cell_of (hst.get 1 rfl) hdArr_0 | exact cell_of (hst.get 1 rfl) rfl) ?_)
    | fail)
   go_upto_region 8 with (go_big_may; first
    | (refine L_load1 (d := some 33) rfl rfl rfl (by rfl) Tryd.underlying3 rfl (by first | assumption | exact cell_of (hst.get 0 rfl) hdArr_0 | exact cell_of (hst.get 0 rfl) rfl | exact cell_of (hst.get 1 rfl) hdArr_0 | exact cell_of (hst.get 1 rfl) rfl) ?_)
    | (refine L_load1 (d := some 35) rfl rfl rfl (by rfl) Tryd.underlying3 rfl (by first | assumption | exact cell_of (hst.get 0 rfl) hdArr_0 | exact cell_of (hst.get 0 rfl) rfl | exact cell_of (hst.get 1 rfl) hdArr_0 | exact cell_of (hst.get 1 rfl) rfl) ?_)
    | fail)
   go_upto_region 11 with (go_big_may; first
    | (refine L_load1 (d := some 40) rfl rfl rfl (by rfl) Tryd.underlying3 rfl (by first | assumption | exact cell_of (hst.get 0 rfl) hdArr_0 | exact cell_of (hst.get 0 rfl) rfl | exact cell_of (hst.get 1 rfl) hdArr_0 | exact cell_of (hst.get 1 rfl) rfl) ?_)
    | (refine L_load1 (d := some 42) rfl rfl rfl (by rfl) Tryd.underlying3 rfl (by first | assumption | exact cell_of (hst.get 0 rfl) hdArr_0 | exact cell_of (hst.get 0 rfl) rfl | exact cell_of (hst.get 1 rfl) hdArr_0 | exact cell_of (hst.get 1 rfl) rfl) ?_)
    | fail)
   go_upto_region 14 with (go_big_may; first
    | (refine L_load1 (d := some 59) rfl rfl rfl (by rfl) Tryd.underlying3 rfl (by first | assumption | exact cell_of (hst.get 0 rfl) hdArr_0 | exact cell_of (hst.get 0 rfl) rfl | exact cell_of (hst.get 1 rfl) hdArr_0 | exact cell_of (hst.get 1 rfl) rfl) ?_)
    | fail)
   go_upto_region 16 with (go_big_may; first
    | (go_at_call 67; refine (HK.out _ (HT.out.of hst) (hst.old (by decide) hp)).mono ?_; rintro e Wk ⟨rfl, hnew⟩; replace hst := hst.keep hnew)
    | (refine L_load1 (d := some 67) rfl rfl rfl (by rfl) Tryd.underlying3 rfl (by first | assumption | exact cell_of (hst.get 0 rfl) hdArr_0 | exact cell_of (hst.get 0 rfl) rfl | exact cell_of (hst.get 1 rfl) hdArr_0 | exact cell_of (hst.get 1 rfl) rfl) ?_)
    | (refine L_load1 (d := some 69) rfl rfl rfl (by rfl) Tryd.underlying3 rfl (by first | assumption | exact cell_of (hst.get 0 rfl) hdArr_0 | exact cell_of (hst.get 0 rfl) rfl | exact cell_of (hst.get 1 rfl) hdArr_0 | exact cell_of (hst.get 1 rfl) rfl) ?_)
    | (first | (refine L_loadA (d := some 71) rfl rfl rfl (by rfl) Tryd.underlying23 rfl el_api_Digest (by first | exact hst.get 0 rfl | exact hst.get 1 rfl) (by first | rfl | exact Dig.size _ | (simp; done)) ?_) | (refine L_loadM (d := some 71) rfl rfl rfl (by rfl) Tryd.underlying23 rfl el_api_Digest (by first | assumption | exact hdArr_root (hst.get 0 rfl) | exact hdArr_root (hst.get 1 rfl) | exact hdArr_map (hst.get 0 rfl) | exact hdArr_map (hst.get 1 rfl)) (by first | rfl | exact Dig.size _ | (simp; done)) ?_))
    | (first | (refine L_loadA (d := some 73) rfl rfl rfl (by rfl) Tryd.underlying23 rfl el_api_Digest (by first | exact hst.get 0 rfl | exact hst.get 1 rfl) (by first | rfl | exact Dig.size _ | (simp; done)) ?_) | (refine L_loadM (d := some 73) rfl rfl rfl (by rfl) Tryd.underlying23 rfl el_api_Digest (by first | assumption | exact hdArr_root (hst.get 0 rfl) | exact hdArr_root (hst.get 1 rfl) | exact hdArr_map (hst.get 0 rfl) | exact hdArr_map (hst.get 1 rfl)) (by first | rfl | exact Dig.size _ | (simp; done)) ?_))
    | fail)
   go_upto_region 17 with (go_big_may; first
    | (first | (refine L_loadA (d := some 79) rfl rfl rfl (by rfl) Tryd.underlying39 rfl el_api_Head (by first | exact hst.get 0 rfl | exact hst.get 1 rfl | exact hst.get 2 rfl) (by first | exact Dig.size _ | exact hdArr_size _ _ _ _ | exact pinArr_size _ _ _ _ _ _ _ | rfl | (simp; done)) ?_) | (refine L_loadM (d := some 79) rfl rfl rfl (by rfl) Tryd.underlying39 rfl el_api_Head (by first | assumption) (by first | exact Dig.size _ | exact hdArr_size _ _ _ _ | exact pinArr_size _ _ _ _ _ _ _ | rfl | (simp; done)) ?_))
    | (refine wpl_at (.store 39 (.tmp 81) (.tmp 79)) rfl ?_; first | (refine L_storeA rfl rfl hst rfl (by rfl) (ev_tmp rfl) (by first | rfl | exact Dig.one _ | exact hdArr_all _ _ _ _ | (simp; done)) el_api_Head (by first | rfl | exact Dig.size _ | exact hdArr_size _ _ _ _ | exact pinArr_size _ _ _ _ _ _ _ | (simp; done)) 0 rfl (by first | rfl | exact Dig.size _ | exact hdArr_size _ _ _ _ | exact pinArr_size _ _ _ _ _ _ _ | (simp; done)) ?_; clear hst; intro WS4 hst; simp only [List.set_cons_zero, List.set_cons_succ, pinArr_put _ _ _ _ _ _ _ _ _ _ _] at hst) | (refine L_storeA rfl rfl hst rfl (by rfl) (ev_tmp rfl) (by first | rfl | exact Dig.one _ | exact hdArr_all _ _ _ _ | (simp; done)) el_api_Head (by first | rfl | exact Dig.size _ | exact hdArr_size _ _ _ _ | exact pinArr_size _ _ _ _ _ _ _ | (simp; done)) 1 rfl (by first | rfl | exact Dig.size _ | exact hdArr_size _ _ _ _ | exact pinArr_size _ _ _ _ _ _ _ | (simp; done)) ?_; clear hst; intro WS4 hst; simp only [List.set_cons_zero, List.set_cons_succ, pinArr_put _ _ _ _ _ _ _ _ _ _ _] at hst) | (refine L_storeA rfl rfl hst rfl (by rfl) (ev_tmp rfl) (by first | rfl | exact Dig.one _ | exact hdArr_all _ _ _ _ | (simp; done)) el_api_Head (by first | rfl | exact Dig.size _ | exact hdArr_size _ _ _ _ | exact pinArr_size _ _ _ _ _ _ _ | (simp; done)) 2 rfl (by first | rfl | exact Dig.size _ | exact hdArr_size _ _ _ _ | exact pinArr_size _ _ _ _ _ _ _ | (simp; done)) ?_; clear hst; intro WS4 hst; simp only [List.set_cons_zero, List.set_cons_succ, pinArr_put _ _ _ _ _ _ _ _ _ _ _] at hst) | (refine L_storeM rfl rfl hst rfl (by rfl) (ev_tmp rfl) (by first | rfl | exact Dig.one _ | exact hdArr_all _ _ _ _ | (simp; done)) el_api_Head (by first | rfl | exact Dig.size _ | exact hdArr_size _ _ _ _ | exact pinArr_size _ _ _ _ _ _ _ | (simp; done)) 0 rfl (by first | exact of_decide_eq_true rfl | (simp; done)) ?_; clear hst; intro WS4 hst; simp only [List.set_cons_zero, List.set_cons_succ, pinArr_put _ _ _ _ _ _ _ _ _ _ _] at hst)  | (refine L_storeM rfl rfl hst rfl (by rfl) (ev_tmp rfl) (by first | rfl | exact Dig.one _ | exact hdArr_all _ _ _ _ | (simp; done)) el_api_Head (by first | rfl | exact Dig.size _ | exact hdArr_size _ _ _ _ | exact pinArr_size _ _ _ _ _ _ _ | (simp; done)) 1 rfl (by first | exact of_decide_eq_true rfl | (simp; done)) ?_; clear hst; intro WS4 hst; simp only [List.set_cons_zero, List.set_cons_succ, pinArr_put _ _ _ _ _ _ _ _ _ _ _] at hst)  | (refine L_storeM rfl rfl hst rfl (by rfl) (ev_tmp rfl) (by first | rfl | exact Dig.one _ | exact hdArr_all _ _ _ _ | (simp; done)) el_api_Head (by first | rfl | exact Dig.size _ | exact hdArr_size _ _ _ _ | exact pinArr_size _ _ _ _ _ _ _ | (simp; done)) 2 rfl (by first | exact of_decide_eq_true rfl | (simp; done)) ?_; clear hst; intro WS4 hst; simp only [List.set_cons_zero, List.set_cons_succ, pinArr_put _ _ _ _ _ _ _ _ _ _ _] at hst))
    | fail)
   go_wp2_with (first
    | fail)
   go_ret
   obtain rfl : r = 0 := HR.out
   refine ⟨?_, hst.tail.tail⟩
   show _ = Ending.returned .nilIface
   rfl
  ·have hr := HR.out
   clear HR
   rw [if_neg c7] at hr
   have HR := Lib.hid hr
   clear hr
   rw [Bool.eq_false_iff.2 c7] at HK
   go_upto_region 6 with (go_big_may; first
    | (refine L_load1 (d := some 23) rfl rfl rfl (by rfl) Tryd.underlying3 rfl (by first | assumption | exact cell_of (hst.get 0 rfl) hdArr_0 | exact cell_of (hst.get 0 rfl) rfl | exact cell_of (hst.get 1 rfl) hdArr_0 | exact cell_of (hst.get 1 rfl) rfl) ?_)
    | (refine L_load1 (d := some 27) rfl rfl rfl (by rfl) Tryd.underlying3 rfl (by first | assumption | exact cell_of (hst.get 0 rfl) hdArr_0 | exact cell_of (hst.get 0 rfl) rfl | exact cell_of (hst.get 1 rfl) hdArr_0 | exact cell_of (hst.get 1 rfl) rfl) ?_)
    | fail)
   go_upto_region 8 with (go_big_may; first
    | (refine L_load1 (d := some 33) rfl rfl rfl (by rfl) Tryd.underlying3 rfl (by first | assumption | exact cell_of (hst.get 0 rfl) hdArr_0 | exact cell_of (hst.get 0 rfl) rfl | exact cell_of (hst.get 1 rfl) hdArr_0 | exact cell_of (hst.get 1 rfl) rfl) ?_)
    | (refine L_load1 (d := some 35) rfl rfl rfl (by rfl) Tryd.underlying3 rfl (by first | assumption | exact cell_of (hst.get 0 rfl) hdArr_0 | exact cell_of (hst.get 0 rfl) rfl | exact cell_of (hst.get 1 rfl) hdArr_0 | exact cell_of (hst.get 1 rfl) rfl) ?_)
    | fail)
   go_upto_region 11 with (go_big_may; first
    | (refine L_load1 (d := some 40) rfl rfl rfl (by rfl) Tryd.underlying3 rfl (by first | assumption | exact cell_of (hst.get 0 rfl) hdArr_0 | exact cell_of (hst.get 0 rfl) rfl | exact cell_of (hst.get 1 rfl) hdArr_0 | exact cell_of (hst.get 1 rfl) rfl) ?_)
    | (refine L_load1 (d := some 42) rfl rfl rfl (by rfl) Tryd.underlying3 rfl (by first | assumption | exact cell_of (hst.get 0 rfl) hdArr_0 | exact cell_of (hst.get 0 rfl) rfl | exact cell_of (hst.get 1 rfl) hdArr_0 | exact cell_of (hst.get 1 rfl) rfl) ?_)
    | fail)
   go_upto_region 14 with (go_big_may; first
    | (refine L_load1 (d := some 59) rfl rfl rfl (by rfl) Tryd.underlying3 rfl (by first | assumption | exact cell_of (hst.get 0 rfl) hdArr_0 | exact cell_of (hst.get 0 rfl) rfl | exact cell_of (hst.get 1 rfl) hdArr_0 | exact cell_of (hst.get 1 rfl) rfl) ?_)
    | fail)
   go_upto_region 15 with (go_big_may; first
    | (go_at_call 67; refine (HK.out _ (HT.out.of hst) (hst.old (by decide) hp)).mono ?_; rintro e Wk ⟨rfl, hnew⟩; replace hst := hst.keep hnew)
    | (refine L_load1 (d := some 67) rfl rfl rfl (by rfl) Tryd.underlying3 rfl (by first | assumption | exact cell_of (hst.get 0 rfl) hdArr_0 | exact cell_of (hst.get 0 rfl) rfl | exact cell_of (hst.get 1 rfl) hdArr_0 | exact cell_of (hst.get 1 rfl) rfl) ?_)
    | (refine L_load1 (d := some 69) rfl rfl rfl (by rfl) Tryd.underlying3 rfl (by first | assumption | exact cell_of (hst.get 0 rfl) hdArr_0 | exact cell_of (hst.get 0 rfl) rfl | exact cell_of (hst.get 1 rfl) hdArr_0 | exact cell_of (hst.get 1 rfl) rfl) ?_)
    | (first | (refine L_loadA (d := some 71) rfl rfl rfl (by rfl) Tryd.underlying23 rfl el_api_Digest (by first | exact hst.get 0 rfl | exact hst.get 1 rfl) (by first | rfl | exact Dig.size _ | (simp; done)) ?_) | (refine L_loadM (d := some 71) rfl rfl rfl (by rfl) Tryd.underlying23 rfl el_api_Digest (by first | assumption | exact hdArr_root (hst.get 0 rfl) | exact hdArr_root (hst.get 1 rfl) | exact hdArr_map (hst.get 0 rfl) | exact hdArr_map (hst.get 1 rfl)) (by first | rfl | exact Dig.size _ | (simp; done)) ?_))
    | (first | (refine L_loadA (d := some 73) rfl rfl rfl (by rfl) Tryd.underlying23 rfl el_api_Digest (by first | exact hst.get 0 rfl | exact hst.get 1 rfl) (by first | rfl | exact Dig.size _ | (simp; done)) ?_) | (refine L_loadM (d := some 73) rfl rfl rfl (by rfl) Tryd.underlying23 rfl el_api_Digest (by first | assumption | exact hdArr_root (hst.get 0 rfl) | exact hdArr_root (hst.get 1 rfl) | exact hdArr_map (hst.get 0 rfl) | exact hdArr_map (hst.get 1 rfl)) (by first | rfl | exact Dig.size _ | (simp; done)) ?_))
    | fail)
   go_wp2_with (first
    | fail)
   go_ret
   obtain rfl : r = 9 := HR.out
   refine ⟨?_, hst.tail.tail⟩
   show _ = Ending.returned (errV 9)
   rfl
 ·rw [if_neg c1] at hr
  rw [decide_eq_false c1] at HC
  have HR := Lib.hid hr
  clear h0 hp hl c1 HK hr
  go_enter Tryd.func40, Tryd.ntmps40
  go_upto_region 1 with (go_big_may; first
   | (refine L_boxA (d := some 4) rfl rfl rfl (ev_tmp rfl) ?_; (try clear hnew); intro g4 W4 hnew; replace hst := hst.trans hnew; simp only [List.cons_append, List.nil_append] at hst)
   | fail)
  go_upto_region 2 with (go_big_may; first
   | (first | (refine L_loadA (d := some 11) rfl rfl rfl (by rfl) Tryd.underlying39 rfl el_api_Head (by first | exact hst.get 0 rfl | exact hst.get 1 rfl | exact hst.get 2 rfl) (by first | exact Dig.size _ | exact hdArr_size _ _ _ _ | rfl | (simp; done)) ?_) | (refine L_loadM (d := some 11) rfl rfl rfl (by rfl) Tryd.underlying39 rfl el_api_Head (by first | assumption | exact pinArr_head (hst.get 1 rfl)) (by first | exact Dig.size _ | exact hdArr_size _ _ _ _ | rfl | (simp; done)) ?_))
   | (refine L_allocA (d := some 7) rfl rfl rfl el_api_Head ?_; (try clear hnew); intro g7 W7 hnew; replace hst := hst.trans hnew; simp only [List.cons_append, List.nil_append] at hst)
   | (refine wpl_at (.store 39 (.tmp 7) (.tmp 11)) rfl ?_; first | (refine L_storeA rfl rfl hst rfl (by rfl) (ev_tmp rfl) (by first | rfl | exact Dig.one _ | exact hdArr_all _ _ _ _ | (simp; done)) el_api_Head (by first | rfl | exact Dig.size _ | exact hdArr_size _ _ _ _ | (simp; done)) 0 rfl (by first | rfl | exact Dig.size _ | exact hdArr_size _ _ _ _ | (simp; done)) ?_; clear hst; intro WS5 hst; simp only [List.set_cons_zero, List.set_cons_succ] at hst) | (refine L_storeA rfl rfl hst rfl (by rfl) (ev_tmp rfl) (by first | rfl | exact Dig.one _ | exact hdArr_all _ _ _ _ | (simp; done)) el_api_Head (by first | rfl | exact Dig.size _ | exact hdArr_size _ _ _ _ | (simp; done)) 1 rfl (by first | rfl | exact Dig.size _ | exact hdArr_size _ _ _ _ | (simp; done)) ?_; clear hst; intro WS5 hst; simp only [List.set_cons_zero, List.set_cons_succ] at hst) | (refine L_storeA rfl rfl hst rfl (by rfl) (ev_tmp rfl) (by first | rfl | exact Dig.one _ | exact hdArr_all _ _ _ _ | (simp; done)) el_api_Head (by first | rfl | exact Dig.size _ | exact hdArr_size _ _ _ _ | (simp; done)) 2 rfl (by first | rfl | exact Dig.size _ | exact hdArr_size _ _ _ _ | (simp; done)) ?_; clear hst; intro WS5 hst; simp only [List.set_cons_zero, List.set_cons_succ] at hst) | (refine L_storeM rfl rfl hst rfl (by rfl) (ev_tmp rfl) (by first | rfl | exact Dig.one _ | exact hdArr_all _ _ _ _ | (simp; done)) el_api_Head (by first | rfl | exact Dig.size _ | exact hdArr_size _ _ _ _ | (simp; done)) 0 rfl (by first | exact of_decide_eq_true rfl | (simp; done)) ?_; clear hst; intro WS5 hst; simp only [List.set_cons_zero, List.set_cons_succ] at hst)  | (refine L_storeM rfl rfl hst rfl (by rfl) (ev_tmp rfl) (by first | rfl | exact Dig.one _ | exact hdArr_all _ _ _ _ | (simp; done)) el_api_Head (by first | rfl | exact Dig.size _ | exact hdArr_size _ _ _ _ | (simp; done)) 1 rfl (by first | exact of_decide_eq_true rfl | (simp; done)) ?_; clear hst; intro WS5 hst; simp only [List.set_cons_zero, List.set_cons_succ] at hst)  | (refine L_storeM rfl rfl hst rfl (by rfl) (ev_tmp rfl) (by first | rfl | exact Dig.one _ | exact hdArr_all _ _ _ _ | (simp; done)) el_api_Head (by first | rfl | exact Dig.size _ | exact hdArr_size _ _ _ _ | (simp; done)) 2 rfl (by first | exact of_decide_eq_true rfl | (simp; done)) ?_; clear hst; intro WS5 hst; simp only [List.set_cons_zero, List.set_cons_succ] at hst))
   | fail)
  refine wp_region_idx [(0, 0), (1, 0), (2, 0), (3, 0), (4, 2), (5, 2), (6, 2), (7, 2)] (by kernel_rfl) (by kernel_rfl) ?_
  replace hst := hst.drew
  refine idx_q rfl rfl ?_; go_wp2_with fail
  refine idx_q rfl rfl ?_; go_wp2_with fail
  refine idx_qf rfl rfl (by kernel_rfl) ?_; go_wp2_with fail
  refine idx_q rfl rfl ?_; go_wp2_with (first | (refine L_load1 (d := some 16) rfl rfl rfl (by rfl) Tryd.underlying49 rfl (by first | assumption | exact cell_of (hst.get 0 rfl) pinArr_0 | exact cell_of (hst.get 0 rfl) rfl | exact cell_of (hst.get 1 rfl) pinArr_0 | exact cell_of (hst.get 1 rfl) rfl | exact cell_of (hst.get 2 rfl) pinArr_0 | exact cell_of (hst.get 2 rfl) rfl) ?_) | fail)
  refine idx_g rfl ?_; go_wp2_with (first | (first | (refine L_loadA (d := some 17) rfl rfl rfl (by rfl) Tryd.underlying39 rfl el_api_Head (by first | exact hst.get 0 rfl | exact hst.get 1 rfl | exact hst.get 2 rfl) (by first | exact Dig.size _ | exact hdArr_size _ _ _ _ | rfl | (simp; done)) ?_) | (refine L_loadM (d := some 17) rfl rfl rfl (by rfl) Tryd.underlying39 rfl el_api_Head (by first | assumption) (by first | exact Dig.size _ | exact hdArr_size _ _ _ _ | rfl | (simp; done)) ?_)) | fail); refine ⟨by first | exact Below.refl _ _ | exact hnew.below, ?_⟩
  refine idx_g rfl ?_; go_wp2_with (first | (go_at_call 66; refine (HC.out _ (HT.out.of hst) (hst.sl 3 rfl)).mono ?_; rintro e Wt ⟨rfl, hnew⟩; replace hst := hst.keep hnew) | fail); refine ⟨by first | exact Below.refl _ _ | exact hnew.below, ?_⟩
  refine idx_g rfl ?_; go_wp2_with fail; refine ⟨by first | exact Below.refl _ _ | exact hnew.below, ?_⟩
  refine idx_g rfl ?_; go_wp2_with fail; refine ⟨by first | exact Below.refl _ _ | exact hnew.below, ?_⟩
  refine idx_nil ?_
  go_wp2_with fail
  go_ret
  obtain rfl : r = 1 := HR.out
  refine ⟨?_, hst.tail.tail⟩
  show _ = Ending.returned (errV 1)
  rfl
end Go.Proofs.YtkbleigmfcleaaaDoor

set_option maxRecDepth 20000
set_option linter.unusedSimpArgs false
set_option linter.unusedVariables false
namespace Go.Proofs.YtkbleigmfcleaaaDoor
open Go.RowKit
theorem take_zero {key : List UInt8} {n0 n : Int} {x0 y0 x y z : Dig} {p : List Dig} (h : takeN key n0 x0 y0 n x y z p = 0) : ¬ n < 0 ∧ ¬ n < n0 ∧ (n = n0 → x = x0 ∧ y = y0) := by
 unfold takeN at h
 by_cases c1 : z = tagN key n x y
 ·rw [if_pos c1] at h
  by_cases c2 : n < 0 ∨ 256 < n
  ·rw [if_pos c2] at h; exact absurd h (by decide)
  rw [if_neg c2] at h
  by_cases c3 : n < n0
  ·rw [if_pos c3] at h; exact absurd h (by decide)
  refine ⟨fun c => c2 (Or.inl c), c3, fun c4 => ?_⟩
  rw [if_neg c3, if_pos c4] at h
  by_cases c5 : x = x0 ∧ y = y0
  ·exact c5
  ·rw [if_neg c5] at h; exact absurd h (by decide)
 ·rw [if_neg c1] at h; exact absurd h (by decide)
theorem take_flip (key : List UInt8) (n0 n : Int) (x0 y0 x y : Dig) (p : List Dig) : takeN key n0 x0 y0 n x y (flipD (tagN key n x y)) p = 1 := by
 unfold takeN
 rw [if_neg (flip_ne _)]
theorem pinAft_0 (a b : Array Value) : pinAft 0 a b = b := rfl
theorem pinAft_s {r : Nat} (h : r ≠ 0) (a b : Array Value) : pinAft r a b = a := if_neg h
theorem errO_0 : errO 0 = .nilIface := rfl
theorem errO_s {r : Nat} (h : r ≠ 0) : errO r = errV r := if_neg h
theorem eqHead_self (n : Int) (x y z : Dig) (w : World) : (Op.equalIn 10000 39 (.agg (hdArr n x y z)) (.agg (hdArr n x y z))).run Tryd.prog w = .ok true w := by
 rw [eqHead]; simp
theorem bang_t : (!true) = false := rfl
theorem hdArr_flip' (n : Int) (x y z : Dig) : (hdArr n x y z).setIfInBounds 65 (byteV (z.l.head?.getD 0 ^^^ 1)) = hdArr n x y (flipD z) := by
 rw [← List.headD_eq_head?_getD]; exact hdArr_flip n x y z
section
variable {P : Program} {ops : Array Oper} {rest : List Oper} {o : Oper} {a : Act} {W : World} {Q : Exit → Act → World → Prop} {d : Option Tmp}
theorem L_xor1 (hd : o.dst = d) (hw : Region.wanted o (yielded ops a.tmps) = true) {t t' : TypeId} {x y : Operand} (ho : o.op = .binOp .xor t x y t') {b : UInt8} (hx : a.eval x = byteV b) (hy : a.eval y = .int .u8 1)
  (h : wpList P ops Q rest (a.put d (byteV (b ^^^ 1))) W) : wpList P ops Q (o :: rest) a W := by
 refine L_val hd hw ?_ h
 unfold execOp
 have e := xor_val b 1
 rw [show (((1 : UInt8).toNat : Nat) : Int) = 1 from rfl] at e
 simp only [ho, hx, hy]
 have h1 : (eqGuard .xor t x y (byteV b) (.int .u8 1)).run P W = .ok () W := by simp [eqGuard]
 have h2 : (Go.binOp .xor t (byteV b) (.int .u8 1)).run P W = .ok (byteV (b ^^^ 1)) W := by
  rw [← xor_byte]
  simp only [Go.binOp, byteV, Op.intArith]
  show Result.ok (Value.int .u8 (bits .xor .u8 (b.toNat : Int) 1)) W = _
  rw [e]
 simp [h1, h2]
end
end Go.Proofs.YtkbleigmfcleaaaDoor

set_option maxRecDepth 20000
set_option linter.unusedSimpArgs false
set_option linter.unusedVariables false
namespace Go.Proofs.YtkbleigmfcleaaaDoor
open Go.RowKit
theorem el_api_Errno : ElemIs Tryd.prog 30 (.int .i64 0) 1 8 := by unfold ElemIs; kernel_rfl
theorem as_any (k : Int) (g : Nat) (old : Value) (w0 w : World) (L : List Res) (hE : Eb w0) (hst : St w0 w (.blk g 30 #[old] :: L)) :
  Calls Tryd.prog 69 #[.iface 30 (.int .i64 k), .iface 111 (.pointer (some ⟨g, 0, none⟩))] w fun e w' => e = .returned (.bool true) ∧ St w0 w' (.blk g 30 #[.int .i64 k] :: L) := by
 have hc := hst.get 0 rfl
 refine (as_hit k ⟨g, 0, none⟩ old w (hE.of hst) (cell_of hc rfl) (by simp [World.frozen?, hc])).mono ?_
 rintro e w' ⟨rfl, rfl⟩
 refine ⟨rfl, ?_⟩
 exact (((((hst.alloc _ _).alloc _ _).alloc _ _).alloc _ _).setCell 4 rfl 0 (.int .i64 k)).tailN 4
set_option maxHeartbeats 1000000 in
theorem told_any (k : Nat) (w : World) (hE : Eb w) : Calls Tryd.prog 45 #[errV k] w fun e w' => e = .returned (.int .i64 (k : Int)) ∧ St w w' [] := by
 have hst := St.refl w
 have HE := Lib.hid hE
 clear hE
 unfold errV
 go_enter Tryd.func45, Tryd.ntmps45
 go_upto_region 1 with (first
  | fail)
 go_upto_region 3 with (first
  | fail)
 go_upto_region 4 with (first
  | (refine L_alloc1 (d := some 3) rfl rfl rfl el_api_Errno rfl ?_; (try clear hnew); intro g3 W3 hnew; replace hst := hst.trans hnew; simp only [List.cons_append, List.nil_append] at hst)
  | fail)
 go_upto_region 5 with (first
  | (go_at_call 69; (try clear hnew); refine (as_any (k : Int) g3 (.int .i64 0) w _ [] HE.out hst).mono ?_; rintro e Wa ⟨rfl, hst'⟩; clear hst; have hst := hst'; clear hst')
  | fail)
 go_wp2_with (first
  | (refine L_load1 (d := some 9) rfl rfl rfl (by rfl) Tryd.underlying30 rfl (by first | assumption | exact cell_of (hst.get 0 rfl) rfl) ?_)
  | fail)
 go_ret
 exact ⟨rfl, hst.forget⟩
theorem told_nil (w : World) : Calls Tryd.prog 45 #[.nilIface] w fun e w' => e = .returned (.int .i64 0) ∧ St w w' [] := by
 have hst := St.refl w
 go_enter Tryd.func45, Tryd.ntmps45
 go_wp2_with (first
  | fail)
 go_ret
 exact ⟨rfl, hst.forget⟩
theorem sError_any (k : Nat) (w : World) (hE : Eb w) : Calls Tryd.prog 14 #[errV k, .int .i64 (k : Int)] w fun e w' => e = .returned (.bool true) ∧ St w w' [] := by
 have hst := St.refl w
 have HE := Lib.hid hE
 clear hE
 go_enter Tryd.func14, Tryd.ntmps14
 go_wp2_with (first
  | (go_at_call 45; (try clear hnew); refine (told_any k _ (HE.out.of hst)).mono ?_; rintro e Wk1 ⟨rfl, hnew⟩; replace hst := hst.keep hnew)
  | fail)
 go_ret
 exact ⟨rfl, hst⟩
theorem sError_nil (w : World) : Calls Tryd.prog 14 #[.nilIface, .int .i64 0] w fun e w' => e = .returned (.bool true) ∧ St w w' [] := by
 have hst := St.refl w
 go_enter Tryd.func14, Tryd.ntmps14
 go_wp2_with (first
  | (go_at_call 45; (try clear hnew); refine (told_nil _).mono ?_; rintro e Wk2 ⟨rfl, hnew⟩; replace hst := hst.keep hnew)
  | fail)
 go_ret
 exact ⟨rfl, hst⟩
end Go.Proofs.YtkbleigmfcleaaaDoor

set_option maxRecDepth 20000
set_option linter.unusedSimpArgs false
set_option linter.unusedVariables false
namespace Go.Proofs.YtkbleigmfcleaaaDoor
open Go.RowKit
attribute [local simp] pinArr_size hdArr_size
theorem sErrO_any (r : Nat) (w : World) (hE : Eb w) : Calls Tryd.prog 14 #[errO r, .int .i64 (r : Int)] w fun e w' => e = .returned (.bool true) ∧ St w w' [] := by
 by_cases h : r = 0
 ·subst h
  rw [errO_0]
  exact sError_nil w
 ·rw [errO_s h]
  exact sError_any r w hE
set_option maxHeartbeats 40000000 in
set_option maxRecDepth 100000 in
theorem pinTakes_any (w : World) (hT : Tb w) (hE : Eb w) (key : List UInt8) (K : Option Addr) (m mc : Nat) (hk : SlR w K m mc 1 (bytesL key)) (hm0 : m * 1 ≤ 140737488351232) (hs : List Hd) (H : Option Addr) (hn hc : Nat) (hx : SlR w H hn hc 97 (headsL hs)) (hw : ∀ q ∈ hs, -9223372036854775808 ≤ q.1 ∧ q.1 ≤ 9223372036854775807)
  (D : Option Addr) (dn dc : Nat) (f : Nat → DPiece) (hd : SlR w D dn dc 1 ((List.range dn).map fun i => (f i).v)) (hp : ∀ i, i < dn → SlR w (f i).1 (f i).2.1 (f i).2.2.1 32 (digsL (f i).2.2.2)) (rightly : Bool) :
  Calls Tryd.prog 12 #[.slice K m mc, .slice H hn hc, .slice D dn dc, .bool rightly] w fun e w' => e = .returned (.bool true) ∧ St w w' [] := by
 have hst := St.refl w
 have HT := Lib.hid hT
 have HEb := Lib.hid hE
 have hl : hs.length = hn := by have := hx.1; rw [length_headsL] at this; omega
 have HX := Lib.hid hx
 have HD := Lib.hid hd
 have HP := Lib.hid hp
 have HW := Lib.hid hw
 have HL := Lib.hid hl
 have HN := Lib.hid (fun w' (ht : Tb w') (h : SlR w' K m mc 1 (bytesL key)) => pnew_any key K m mc w' ht h (by omega))
 have hm : m ≤ 140737488351232 := by omega
 clear hT hE hx hd hp hw hl hm0
 go_enter Tryd.func12, Tryd.ntmps12
 by_cases h40 : 40 < (hn : Int)
 ·skip
  go_upto_region 1 with (go_big_may; first
   | fail)
  go_upto_region 2 with (go_big_may; first
   | fail)
  go_wp2_with (first
   | fail)
  go_ret
  exact ⟨rfl, hst.forget⟩
 by_cases hdn : (dn : Int) < (hn : Int)
 ·skip
  go_upto_region 1 with (go_big_may; first
   | fail)
  go_upto_region 2 with (go_big_may; first
   | fail)
  go_wp2_with (first
   | fail)
  go_ret
  exact ⟨rfl, hst.forget⟩
 go_upto_region 1 with (go_big_may; first
  | fail)
 go_upto_region 3 with (go_big_may; first
  | fail)
 go_upto_region 4 with (go_big_may; first
  | (go_at_call 36; refine (HN.out _ (HT.out.of hst) (hst.old (by decide) hk)).mono ?_; rintro e Wn ⟨gp, O, oc, rfl, hnew⟩; replace hst := hst.trans hnew; simp only [List.cons_append, List.nil_append] at hst)
  | fail)
 go_upto_region 6 with (go_big_may; first
  | (go_at_call 37; refine (held_any _ _ _ _ _ _ _ _ _ _ _ (hst.get 0 rfl)).mono ?_; rintro e Wh ⟨rfl, hnew⟩; replace hst := hst.keep hnew)
  | (go_at_call 41; refine (first_any _).mono ?_; rintro e Wf ⟨rfl, hnew⟩; replace hst := hst.keep hnew)
  | (refine L_neA (d := some 33) rfl rfl rfl eqG_Head (ev_tmp rfl) (ev_tmp rfl) (eqHead_self _ _ _ _ _) ?_; rw [bang_t])
  | fail)
 go_upto_region 7 with (go_big_may; first
  | (go_at_call 41; refine (first_any _).mono ?_; rintro e Wf ⟨rfl, hnew⟩; replace hst := hst.keep hnew)
  | (refine L_allocA (d := some 10) rfl rfl rfl el_api_Head ?_; (try clear hnew); intro g10 W10 hnew; replace hst := hst.trans hnew; simp only [List.cons_append, List.nil_append] at hst)
  | (refine wpl_at (.store 39 (.tmp 10) (.tmp 35)) rfl ?_; first | (refine L_storeA rfl rfl hst rfl (by rfl) (ev_tmp rfl) (by first | rfl | exact Dig.one _ | exact pinArr_all _ _ _ _ _ _ _ | exact hdArr_all _ _ _ _ | (simp; done)) el_api_Head (by first | rfl | exact Dig.size _ | exact hdArr_size _ _ _ _ | (simp; done)) 0 rfl (by first | rfl | exact Dig.size _ | exact hdArr_size _ _ _ _ | (simp; done)) ?_; clear hst; intro WS2 hst; simp only [List.set_cons_zero, List.set_cons_succ] at hst) | (refine L_storeA rfl rfl hst rfl (by rfl) (ev_tmp rfl) (by first | rfl | exact Dig.one _ | exact pinArr_all _ _ _ _ _ _ _ | exact hdArr_all _ _ _ _ | (simp; done)) el_api_Head (by first | rfl | exact Dig.size _ | exact hdArr_size _ _ _ _ | (simp; done)) 1 rfl (by first | rfl | exact Dig.size _ | exact hdArr_size _ _ _ _ | (simp; done)) ?_; clear hst; intro WS2 hst; simp only [List.set_cons_zero, List.set_cons_succ] at hst) | (refine L_storeM rfl rfl hst rfl (by rfl) (ev_tmp rfl) (by first | rfl | exact Dig.one _ | exact pinArr_all _ _ _ _ _ _ _ | exact hdArr_all _ _ _ _ | (simp; done)) el_api_Head (by first | rfl | exact Dig.size _ | exact hdArr_size _ _ _ _ | (simp; done)) 0 rfl (by first | exact of_decide_eq_true rfl | (simp; done)) ?_; clear hst; intro WS2 hst; simp only [List.set_cons_zero, List.set_cons_succ] at hst)  | (refine L_storeM rfl rfl hst rfl (by rfl) (ev_tmp rfl) (by first | rfl | exact Dig.one _ | exact pinArr_all _ _ _ _ _ _ _ | exact hdArr_all _ _ _ _ | (simp; done)) el_api_Head (by first | rfl | exact Dig.size _ | exact hdArr_size _ _ _ _ | (simp; done)) 1 rfl (by first | exact of_decide_eq_true rfl | (simp; done)) ?_; clear hst; intro WS2 hst; simp only [List.set_cons_zero, List.set_cons_succ] at hst))
  | fail)
 go_upto_region 8 with (go_big_may; first
  | fail)
 clear HN
 have hdn' : hn ≤ dn := by omega
 have h40' : hn ≤ 40 := by omega
 clear h40 hdn
 go_loopg [11] hn (fun gk s11 wr => ∃ (i : Nat) (n0 : Int) (x0 y0 z0 : Dig), Hid (gk + i = hn) ∧ Hid (0 ≤ n0) ∧ s11 = .int .i64 (i : Int) ∧ St w wr [.blk gp 103 (pinArr O m oc n0 x0 y0 z0), .row O m oc 5 1 (bytesL key), .blk g10 39 (hdArr n0 x0 y0 z0)])
 case atStart => exact ⟨0, 0, sha [], zeroD, zeroD, Lib.hid rfl, Lib.hid (by decide), rfl, hst.pick [1, 2, 0] (by decide)⟩
 case round =>
  clear hst
  obtain ⟨i, n0, x0, y0, z0, HI, H0, rfl, hst⟩ := hrel
  have hi := HI.out
  by_cases hlt : i < hn
  ·obtain ⟨g, rfl⟩ : ∃ g, gk = g + 1 := ⟨gk - 1, by omega⟩
   have hil : i < hs.length := by rw [HL.out]; exact hlt
   obtain ⟨⟨n, x, y, z⟩, hq⟩ : ∃ q, q = hs[i] := ⟨_, rfl⟩
   have HC := Lib.hid (fun (W : World) (g off : Nat) h => head_cells (W := W) (g := g) (off := off) (i := i) (hs := hs) h hil)
   rw [← hq] at HC
   have HB := Lib.hid (HW.out (n, x, y, z) (by rw [hq]; exact List.getElem_mem hil))
   dsimp only at HC HB
   have hid' : i < dn := by omega
   have HE := Lib.hid (fun (W : World) (g off : Nat) h => dpiece_at (W := W) (g := g) (off := off) (i := i) (n := dn) (f := f) h hid')
   have HF := Lib.hid (HP.out i hid')
   clear hi hq hil
   have HK := Lib.hid (fun (w' : World) (n0 : Int) (x0 y0 z0 z : Dig) (L : List Res) (h0 : 0 ≤ n0) hst => ptake_any key gp O m oc n0 x0 y0 z0 n x y z (f i).2.2.2 (f i).1 (f i).2.1 (f i).2.2.1 w w' L HT.out HF.out hst (by omega) HB.out.1 HB.out.2 h0)
   have HR := Lib.hid (fun (w' : World) (z : Dig) (h1 : SlR w' K m mc 1 (bytesL key)) (h2 : SlR w' (f i).1 (f i).2.1 (f i).2.2.1 32 (digsL (f i).2.2.2)) => rtaken_any key K m mc n0 x0 y0 z0 n x y z (f i).2.2.2 (f i).1 (f i).2.1 (f i).2.2.1 w' h1 (by omega) h2 H0.out)
   have HG := Lib.hid (fun (w' : World) (h : SlR w' K m mc 1 (bytesL key)) => rtag_any key K m mc n x y z w' h (by omega))
   obtain ⟨t, ht⟩ : ∃ t, t = tagN key n x y := ⟨_, rfl⟩
   rw [← ht] at HG
   replace ht := Lib.hid ht
   go_upto_region 10 with (go_big_may; first
    | fail)
   go_upto_region 11 with (go_big_may; first
    | (refine L_loadM (d := some 45) rfl rfl rfl (by rfl) Tryd.underlying39 rfl el_api_Head (HC.out _ _ _ hr44) (hdArr_size _ _ _ _) ?_)
    | (refine L_idxS (d := some 44) rfl rfl rfl (by rfl) (by rfl) Tryd.underlying67 el_api_Head (by first | exact hst.old (by decide) HX.out | assumption | exact hst.sl 0 rfl | exact hst.sl 1 rfl | exact hst.sl 2 rfl | exact hst.sl 3 rfl | exact hst.old (by decide) (by assumption)) (by omega) (by omega) ?_; intro o44 p44 ha44 hr44; (first | subst ha44 | (obtain ⟨h1, h2⟩ := some_addr ha44; subst h1; subst h2; clear ha44) | skip))
    | (first | (refine L_loadA (d := some 45) rfl rfl rfl (by rfl) Tryd.underlying39 rfl el_api_Head (by first | exact hst.get 0 rfl | exact hst.get 1 rfl | exact hst.get 2 rfl | exact hst.get 3 rfl) (by first | exact Dig.size _ | exact hdArr_size _ _ _ _ | rfl | (simp; done)) ?_) | (refine L_loadM (d := some 45) rfl rfl rfl (by rfl) Tryd.underlying39 rfl el_api_Head (by first | assumption) (by first | exact Dig.size _ | exact hdArr_size _ _ _ _ | rfl | (simp; done)) ?_))
    | (refine L_allocA (d := some 12) rfl rfl rfl el_api_Head ?_; (try clear hnew); intro g12 W12 hnew; replace hst := hst.trans hnew; simp only [List.cons_append, List.nil_append] at hst)
    | (refine wpl_at (.store 39 (.tmp 12) (.tmp 45)) rfl ?_; first | (refine L_storeA rfl rfl hst rfl (by rfl) (ev_tmp rfl) (by first | rfl | exact Dig.one _ | exact hdArr_all _ _ _ _ | (simp; done)) el_api_Head (by first | rfl | exact Dig.size _ | exact hdArr_size _ _ _ _ | (simp; done)) 0 rfl (by first | rfl | exact Dig.size _ | exact hdArr_size _ _ _ _ | (simp; done)) ?_; clear hst; intro WS5 hst; simp only [List.set_cons_zero, List.set_cons_succ] at hst) | (refine L_storeA rfl rfl hst rfl (by rfl) (ev_tmp rfl) (by first | rfl | exact Dig.one _ | exact hdArr_all _ _ _ _ | (simp; done)) el_api_Head (by first | rfl | exact Dig.size _ | exact hdArr_size _ _ _ _ | (simp; done)) 1 rfl (by first | rfl | exact Dig.size _ | exact hdArr_size _ _ _ _ | (simp; done)) ?_; clear hst; intro WS5 hst; simp only [List.set_cons_zero, List.set_cons_succ] at hst) | (refine L_storeA rfl rfl hst rfl (by rfl) (ev_tmp rfl) (by first | rfl | exact Dig.one _ | exact hdArr_all _ _ _ _ | (simp; done)) el_api_Head (by first | rfl | exact Dig.size _ | exact hdArr_size _ _ _ _ | (simp; done)) 2 rfl (by first | rfl | exact Dig.size _ | exact hdArr_size _ _ _ _ | (simp; done)) ?_; clear hst; intro WS5 hst; simp only [List.set_cons_zero, List.set_cons_succ] at hst) | (refine L_storeA rfl rfl hst rfl (by rfl) (ev_tmp rfl) (by first | rfl | exact Dig.one _ | exact hdArr_all _ _ _ _ | (simp; done)) el_api_Head (by first | rfl | exact Dig.size _ | exact hdArr_size _ _ _ _ | (simp; done)) 3 rfl (by first | rfl | exact Dig.size _ | exact hdArr_size _ _ _ _ | (simp; done)) ?_; clear hst; intro WS5 hst; simp only [List.set_cons_zero, List.set_cons_succ] at hst) | (refine L_storeM rfl rfl hst rfl (by rfl) (ev_tmp rfl) (by first | rfl | exact Dig.one _ | exact hdArr_all _ _ _ _ | (simp; done)) el_api_Head (by first | rfl | exact Dig.size _ | exact hdArr_size _ _ _ _ | (simp; done)) 0 rfl (by first | exact of_decide_eq_true rfl | (simp; done)) ?_; clear hst; intro WS5 hst; simp only [List.set_cons_zero, List.set_cons_succ] at hst)  | (refine L_storeM rfl rfl hst rfl (by rfl) (ev_tmp rfl) (by first | rfl | exact Dig.one _ | exact hdArr_all _ _ _ _ | (simp; done)) el_api_Head (by first | rfl | exact Dig.size _ | exact hdArr_size _ _ _ _ | (simp; done)) 1 rfl (by first | exact of_decide_eq_true rfl | (simp; done)) ?_; clear hst; intro WS5 hst; simp only [List.set_cons_zero, List.set_cons_succ] at hst)  | (refine L_storeM rfl rfl hst rfl (by rfl) (ev_tmp rfl) (by first | rfl | exact Dig.one _ | exact hdArr_all _ _ _ _ | (simp; done)) el_api_Head (by first | rfl | exact Dig.size _ | exact hdArr_size _ _ _ _ | (simp; done)) 2 rfl (by first | exact of_decide_eq_true rfl | (simp; done)) ?_; clear hst; intro WS5 hst; simp only [List.set_cons_zero, List.set_cons_succ] at hst)  | (refine L_storeM rfl rfl hst rfl (by rfl) (ev_tmp rfl) (by first | rfl | exact Dig.one _ | exact hdArr_all _ _ _ _ | (simp; done)) el_api_Head (by first | rfl | exact Dig.size _ | exact hdArr_size _ _ _ _ | (simp; done)) 3 rfl (by first | exact of_decide_eq_true rfl | (simp; done)) ?_; clear hst; intro WS5 hst; simp only [List.set_cons_zero, List.set_cons_succ] at hst))
    | fail)
   clear HC HX
   cases rightly with
   | true =>
    go_upto_region 12 with (go_big_may; first
     | fail)
    go_upto_region 13 with (go_big_may; first
     | (go_at_call 42; refine (HG.out _ (hst.old (by decide) hk)).mono ?_; rintro e Wt ⟨rfl, hnew⟩; replace hst := hst.keep hnew)
     | (first | (refine L_loadA (d := some 48) rfl rfl rfl (by rfl) Tryd.underlying39 rfl el_api_Head (by first | exact hst.get 0 rfl | exact hst.get 1 rfl | exact hst.get 2 rfl | exact hst.get 3 rfl) (by first | exact Dig.size _ | exact hdArr_size _ _ _ _ | rfl | (simp; done)) ?_) | (refine L_loadM (d := some 48) rfl rfl rfl (by rfl) Tryd.underlying39 rfl el_api_Head (by first | assumption) (by first | exact Dig.size _ | exact hdArr_size _ _ _ _ | rfl | (simp; done)) ?_))
     | (refine wpl_at (.store 23 (.tmp 50) (.tmp 49)) rfl ?_; first | (refine L_storeA rfl rfl hst rfl (by rfl) (ev_tmp rfl) (by first | rfl | exact Dig.one _ | exact hdArr_all _ _ _ _ | exact Dig.oneR _ | (simp; done)) el_api_Digest (by first | rfl | exact Dig.size _ | exact hdArr_size _ _ _ _ | (simp; done)) 0 rfl (by first | rfl | exact Dig.size _ | exact hdArr_size _ _ _ _ | (simp; done)) ?_; clear hst; intro WS4 hst; simp only [List.set_cons_zero, List.set_cons_succ, hdArr_putTag _ _ _ _ _] at hst) | (refine L_storeA rfl rfl hst rfl (by rfl) (ev_tmp rfl) (by first | rfl | exact Dig.one _ | exact hdArr_all _ _ _ _ | exact Dig.oneR _ | (simp; done)) el_api_Digest (by first | rfl | exact Dig.size _ | exact hdArr_size _ _ _ _ | (simp; done)) 1 rfl (by first | rfl | exact Dig.size _ | exact hdArr_size _ _ _ _ | (simp; done)) ?_; clear hst; intro WS4 hst; simp only [List.set_cons_zero, List.set_cons_succ, hdArr_putTag _ _ _ _ _] at hst) | (refine L_storeA rfl rfl hst rfl (by rfl) (ev_tmp rfl) (by first | rfl | exact Dig.one _ | exact hdArr_all _ _ _ _ | exact Dig.oneR _ | (simp; done)) el_api_Digest (by first | rfl | exact Dig.size _ | exact hdArr_size _ _ _ _ | (simp; done)) 2 rfl (by first | rfl | exact Dig.size _ | exact hdArr_size _ _ _ _ | (simp; done)) ?_; clear hst; intro WS4 hst; simp only [List.set_cons_zero, List.set_cons_succ, hdArr_putTag _ _ _ _ _] at hst) | (refine L_storeA rfl rfl hst rfl (by rfl) (ev_tmp rfl) (by first | rfl | exact Dig.one _ | exact hdArr_all _ _ _ _ | exact Dig.oneR _ | (simp; done)) el_api_Digest (by first | rfl | exact Dig.size _ | exact hdArr_size _ _ _ _ | (simp; done)) 3 rfl (by first | rfl | exact Dig.size _ | exact hdArr_size _ _ _ _ | (simp; done)) ?_; clear hst; intro WS4 hst; simp only [List.set_cons_zero, List.set_cons_succ, hdArr_putTag _ _ _ _ _] at hst) | (refine L_storeM rfl rfl hst rfl (by rfl) (ev_tmp rfl) (by first | rfl | exact Dig.one _ | exact hdArr_all _ _ _ _ | exact Dig.oneR _ | (simp; done)) el_api_Digest (by first | rfl | exact Dig.size _ | exact hdArr_size _ _ _ _ | (simp; done)) 0 rfl (by first | exact of_decide_eq_true rfl | (simp; done)) ?_; clear hst; intro WS4 hst; simp only [List.set_cons_zero, List.set_cons_succ, hdArr_putTag _ _ _ _ _] at hst)  | (refine L_storeM rfl rfl hst rfl (by rfl) (ev_tmp rfl) (by first | rfl | exact Dig.one _ | exact hdArr_all _ _ _ _ | exact Dig.oneR _ | (simp; done)) el_api_Digest (by first | rfl | exact Dig.size _ | exact hdArr_size _ _ _ _ | (simp; done)) 1 rfl (by first | exact of_decide_eq_true rfl | (simp; done)) ?_; clear hst; intro WS4 hst; simp only [List.set_cons_zero, List.set_cons_succ, hdArr_putTag _ _ _ _ _] at hst)  | (refine L_storeM rfl rfl hst rfl (by rfl) (ev_tmp rfl) (by first | rfl | exact Dig.one _ | exact hdArr_all _ _ _ _ | exact Dig.oneR _ | (simp; done)) el_api_Digest (by first | rfl | exact Dig.size _ | exact hdArr_size _ _ _ _ | (simp; done)) 2 rfl (by first | exact of_decide_eq_true rfl | (simp; done)) ?_; clear hst; intro WS4 hst; simp only [List.set_cons_zero, List.set_cons_succ, hdArr_putTag _ _ _ _ _] at hst)  | (refine L_storeM rfl rfl hst rfl (by rfl) (ev_tmp rfl) (by first | rfl | exact Dig.one _ | exact hdArr_all _ _ _ _ | exact Dig.oneR _ | (simp; done)) el_api_Digest (by first | rfl | exact Dig.size _ | exact hdArr_size _ _ _ _ | (simp; done)) 3 rfl (by first | exact of_decide_eq_true rfl | (simp; done)) ?_; clear hst; intro WS4 hst; simp only [List.set_cons_zero, List.set_cons_succ, hdArr_putTag _ _ _ _ _] at hst))
     | fail)
    obtain ⟨r, hr⟩ : ∃ r, r = takeN key n0 x0 y0 n x y t (f i).2.2.2 := ⟨_, rfl⟩
    replace hr := Lib.hid hr
    refine wp_region_idx [(0, 0), (1, 0), (2, 0), (3, 0), (4, 2), (5, 2), (6, 2), (7, 2), (8, 2)] (by kernel_rfl) (by kernel_rfl) ?_
    replace hst := hst.drew
    refine idx_q rfl rfl ?_; go_wp2_with fail
    refine idx_q rfl rfl ?_; go_wp2_with (first | (first | (refine L_loadA (d := some 52) rfl rfl rfl (by rfl) Tryd.underlying39 rfl el_api_Head (by first | exact hst.get 0 rfl | exact hst.get 1 rfl | exact hst.get 2 rfl | exact hst.get 3 rfl) (by first | exact Dig.size _ | exact hdArr_size _ _ _ _ | rfl | (simp; done)) ?_) | (refine L_loadM (d := some 52) rfl rfl rfl (by rfl) Tryd.underlying39 rfl el_api_Head (by first | assumption) (by first | exact Dig.size _ | exact hdArr_size _ _ _ _ | rfl | (simp; done)) ?_)) | fail)
    refine idx_q rfl rfl ?_; go_wp2_with (first | (first | (refine L_loadA (d := some 53) rfl rfl rfl (by rfl) Tryd.underlying39 rfl el_api_Head (by first | exact hst.get 0 rfl | exact hst.get 1 rfl | exact hst.get 2 rfl | exact hst.get 3 rfl) (by first | exact Dig.size _ | exact hdArr_size _ _ _ _ | rfl | (simp; done)) ?_) | (refine L_loadM (d := some 53) rfl rfl rfl (by rfl) Tryd.underlying39 rfl el_api_Head (by first | assumption) (by first | exact Dig.size _ | exact hdArr_size _ _ _ _ | rfl | (simp; done)) ?_)) | fail)
    refine idx_q rfl rfl ?_; go_wp2_with fail
    refine idx_g rfl ?_; go_wp2_with fail; refine ⟨by first | exact Below.refl _ _ | exact hnew.below, ?_⟩
    refine idx_g rfl ?_; go_wp2_with (first | (refine L_idxS (d := some 56) rfl rfl rfl (by rfl) (by rfl) Tryd.underlying68 el_S_api_Digest (by first | exact hst.old (by decide) HD.out | assumption | exact hst.sl 0 rfl | exact hst.sl 1 rfl | exact hst.sl 2 rfl | exact hst.sl 3 rfl | exact hst.old (by decide) (by assumption)) (by omega) (by omega) ?_; intro o56 p56 ha56 hr56; (first | subst ha56 | (obtain ⟨h1, h2⟩ := some_addr ha56; subst h1; subst h2; clear ha56) | skip)) | fail); refine ⟨by first | exact Below.refl _ _ | exact hnew.below, ?_⟩
    refine idx_g rfl ?_; go_wp2_with (first | (refine L_load1 (d := some 57) rfl rfl rfl (by rfl) Tryd.underlying74 rfl (HE.out _ _ _ hr56) ?_) | (refine L_load1 (d := some 57) rfl rfl rfl (by rfl) Tryd.underlying74 rfl (by first | assumption | exact cell_of (hst.get 0 rfl) rfl | exact cell_of (hst.get 1 rfl) rfl | exact cell_of (hst.get 2 rfl) rfl | exact cell_of (hst.get 3 rfl) rfl) ?_) | fail); refine ⟨by first | exact Below.refl _ _ | exact hnew.below, ?_⟩
    refine idx_g rfl ?_; go_wp2_with (first | (refine L_load1 (d := some 57) rfl rfl rfl (by rfl) Tryd.underlying74 rfl (HE.out _ _ _ hr56) ?_) | (go_at_call 43; refine (HR.out _ t (hst.old (by decide) hk) (hst.old (by decide) HF.out)).mono ?_; rw [← hr.out]; rintro e Wt ⟨rfl, hnew⟩; replace hst := hst.keep hnew) | fail); refine ⟨by first | exact Below.refl _ _ | exact hnew.below, ?_⟩
    refine idx_g rfl ?_; go_wp2_with fail; refine ⟨by first | exact Below.refl _ _ | exact hnew.below, ?_⟩
    refine idx_nil ?_
    go_wp2_with fail
    refine wp_region_pm (.one 0 3 (.one 2 3 (.one 3 3 (.one 7 3 (.one 1 0 (.one 4 2 (.one 5 2 (.one 6 1 (.one 8 2 (.one 9 2 .nil)))))))))) (by kernel_rfl) (by kernel_rfl) ?_
    replace hst := hst.drew
    refine pm_p rfl rfl ?_; go_wp2_with fail
    refine pm_p rfl rfl ?_; go_wp2_with fail
    refine pm_p rfl rfl ?_; go_wp2_with fail
    refine pm_p rfl rfl ?_; go_wp2_with fail
    refine pm_q rfl rfl ?_; go_wp2_with (first | (first | (refine L_loadA (d := some 60) rfl rfl rfl (by rfl) Tryd.underlying39 rfl el_api_Head (by first | exact hst.get 0 rfl | exact hst.get 1 rfl | exact hst.get 2 rfl | exact hst.get 3 rfl) (by first | exact Dig.size _ | exact hdArr_size _ _ _ _ | rfl | (simp; done)) ?_) | (refine L_loadM (d := some 60) rfl rfl rfl (by rfl) Tryd.underlying39 rfl el_api_Head (by first | assumption) (by first | exact Dig.size _ | exact hdArr_size _ _ _ _ | rfl | (simp; done)) ?_)) | fail)
    refine pm_g rfl ?_; go_wp2_with (first | (refine L_idxS (d := some 63) rfl rfl rfl (by rfl) (by rfl) Tryd.underlying68 el_S_api_Digest (by first | exact hst.old (by decide) HD.out | assumption | exact hst.sl 0 rfl | exact hst.sl 1 rfl | exact hst.sl 2 rfl | exact hst.sl 3 rfl | exact hst.old (by decide) (by assumption)) (by omega) (by omega) ?_; intro o63 p63 ha63 hr63; (first | subst ha63 | (obtain ⟨h1, h2⟩ := some_addr ha63; subst h1; subst h2; clear ha63) | skip)) | fail); refine ⟨by first | exact Below.refl _ _ | exact hnew.below, ?_⟩
    refine pm_g rfl ?_; go_wp2_with (first | (refine L_load1 (d := some 64) rfl rfl rfl (by rfl) Tryd.underlying74 rfl (HE.out _ _ _ hr63) ?_) | (refine L_load1 (d := some 64) rfl rfl rfl (by rfl) Tryd.underlying74 rfl (by first | assumption | exact cell_of (hst.get 0 rfl) rfl | exact cell_of (hst.get 1 rfl) rfl | exact cell_of (hst.get 2 rfl) rfl | exact cell_of (hst.get 3 rfl) rfl) ?_) | fail); refine ⟨by first | exact Below.refl _ _ | exact hnew.below, ?_⟩
    refine pm_e rfl ?_; go_wp2_with (first | (refine L_load1 (d := some 64) rfl rfl rfl (by rfl) Tryd.underlying74 rfl (HE.out _ _ _ hr63) ?_) | (go_at_call 40; refine (HK.out _ n0 x0 y0 z0 t _ H0.out (hst.pick [1, 2, 0, 3] (by decide))).mono ?_; rw [← hr.out]; rintro e Wt ⟨rfl, hst'⟩; simp only [List.filterMap_cons, List.filterMap_nil, List.getElem?_cons_zero, List.getElem?_cons_succ] at hst'; replace hst := hst'; clear hst') | (go_at_call 14; refine (sErrO_any r _ (HEb.out.of hst)).mono ?_; rintro e We ⟨rfl, hnew⟩; replace hst := hst.keep hnew) | fail)
    refine pm_g rfl ?_; go_wp2_with (first | (refine L_load1 (d := some 64) rfl rfl rfl (by rfl) Tryd.underlying74 rfl (HE.out _ _ _ hr63) ?_) | (go_at_call 40; refine (HK.out _ n0 x0 y0 z0 t _ H0.out (hst.pick [1, 2, 0, 3] (by decide))).mono ?_; rw [← hr.out]; rintro e Wt ⟨rfl, hst'⟩; simp only [List.filterMap_cons, List.filterMap_nil, List.getElem?_cons_zero, List.getElem?_cons_succ] at hst'; replace hst := hst'; clear hst') | (go_at_call 14; refine (sErrO_any r _ (HEb.out.of hst)).mono ?_; rintro e We ⟨rfl, hnew⟩; replace hst := hst.keep hnew) | fail); refine ⟨by first | exact Below.refl _ _ | exact hnew.below, ?_⟩
    refine pm_g rfl ?_; go_wp2_with fail; refine ⟨by first | exact Below.refl _ _ | exact hnew.below, ?_⟩
    refine pm_nil ?_
    go_upto_region 15 with fail
    by_cases h0r : r = 0
    ·subst h0r
     rw [pinAft_0] at hst
     have hN := Lib.hid (Int.not_lt.1 (take_zero hr.out.symm).1)
     go_upto_region 16 with (go_big_may; first
      | fail)
     go_upto_region 17 with (go_big_may; first
      | (first | (refine L_loadA (d := some 70) rfl rfl rfl (by rfl) Tryd.underlying39 rfl el_api_Head (by first | exact hst.get 0 rfl | exact hst.get 1 rfl | exact hst.get 2 rfl | exact hst.get 3 rfl) (by first | exact Dig.size _ | exact hdArr_size _ _ _ _ | rfl | (simp; done)) ?_) | (refine L_loadM (d := some 70) rfl rfl rfl (by rfl) Tryd.underlying39 rfl el_api_Head (by first | assumption) (by first | exact Dig.size _ | exact hdArr_size _ _ _ _ | rfl | (simp; done)) ?_))
      | (refine wpl_at (.store 39 (.tmp 10) (.tmp 70)) rfl ?_; first | (refine L_storeA rfl rfl hst rfl (by rfl) (ev_tmp rfl) (by first | rfl | exact Dig.one _ | exact hdArr_all _ _ _ _ | (simp; done)) el_api_Head (by first | rfl | exact Dig.size _ | exact hdArr_size _ _ _ _ | (simp; done)) 0 rfl (by first | rfl | exact Dig.size _ | exact hdArr_size _ _ _ _ | (simp; done)) ?_; clear hst; intro WS1 hst; simp only [List.set_cons_zero, List.set_cons_succ] at hst) | (refine L_storeA rfl rfl hst rfl (by rfl) (ev_tmp rfl) (by first | rfl | exact Dig.one _ | exact hdArr_all _ _ _ _ | (simp; done)) el_api_Head (by first | rfl | exact Dig.size _ | exact hdArr_size _ _ _ _ | (simp; done)) 1 rfl (by first | rfl | exact Dig.size _ | exact hdArr_size _ _ _ _ | (simp; done)) ?_; clear hst; intro WS1 hst; simp only [List.set_cons_zero, List.set_cons_succ] at hst) | (refine L_storeA rfl rfl hst rfl (by rfl) (ev_tmp rfl) (by first | rfl | exact Dig.one _ | exact hdArr_all _ _ _ _ | (simp; done)) el_api_Head (by first | rfl | exact Dig.size _ | exact hdArr_size _ _ _ _ | (simp; done)) 2 rfl (by first | rfl | exact Dig.size _ | exact hdArr_size _ _ _ _ | (simp; done)) ?_; clear hst; intro WS1 hst; simp only [List.set_cons_zero, List.set_cons_succ] at hst) | (refine L_storeA rfl rfl hst rfl (by rfl) (ev_tmp rfl) (by first | rfl | exact Dig.one _ | exact hdArr_all _ _ _ _ | (simp; done)) el_api_Head (by first | rfl | exact Dig.size _ | exact hdArr_size _ _ _ _ | (simp; done)) 3 rfl (by first | rfl | exact Dig.size _ | exact hdArr_size _ _ _ _ | (simp; done)) ?_; clear hst; intro WS1 hst; simp only [List.set_cons_zero, List.set_cons_succ] at hst) | (refine L_storeM rfl rfl hst rfl (by rfl) (ev_tmp rfl) (by first | rfl | exact Dig.one _ | exact hdArr_all _ _ _ _ | (simp; done)) el_api_Head (by first | rfl | exact Dig.size _ | exact hdArr_size _ _ _ _ | (simp; done)) 0 rfl (by first | exact of_decide_eq_true rfl | (simp; done)) ?_; clear hst; intro WS1 hst; simp only [List.set_cons_zero, List.set_cons_succ] at hst)  | (refine L_storeM rfl rfl hst rfl (by rfl) (ev_tmp rfl) (by first | rfl | exact Dig.one _ | exact hdArr_all _ _ _ _ | (simp; done)) el_api_Head (by first | rfl | exact Dig.size _ | exact hdArr_size _ _ _ _ | (simp; done)) 1 rfl (by first | exact of_decide_eq_true rfl | (simp; done)) ?_; clear hst; intro WS1 hst; simp only [List.set_cons_zero, List.set_cons_succ] at hst)  | (refine L_storeM rfl rfl hst rfl (by rfl) (ev_tmp rfl) (by first | rfl | exact Dig.one _ | exact hdArr_all _ _ _ _ | (simp; done)) el_api_Head (by first | rfl | exact Dig.size _ | exact hdArr_size _ _ _ _ | (simp; done)) 2 rfl (by first | exact of_decide_eq_true rfl | (simp; done)) ?_; clear hst; intro WS1 hst; simp only [List.set_cons_zero, List.set_cons_succ] at hst)  | (refine L_storeM rfl rfl hst rfl (by rfl) (ev_tmp rfl) (by first | rfl | exact Dig.one _ | exact hdArr_all _ _ _ _ | (simp; done)) el_api_Head (by first | rfl | exact Dig.size _ | exact hdArr_size _ _ _ _ | (simp; done)) 3 rfl (by first | exact of_decide_eq_true rfl | (simp; done)) ?_; clear hst; intro WS1 hst; simp only [List.set_cons_zero, List.set_cons_succ] at hst))
      | fail)
     refine wp_region_idx [(0, 2), (1, 2), (2, 2), (3, 0), (5, 0), (4, 2), (6, 2), (7, 2)] (by kernel_rfl) (by kernel_rfl) ?_
     replace hst := hst.drew
     refine idx_g rfl ?_; go_wp2_with fail; refine ⟨by first | exact Below.refl _ _ | exact hnew.below, ?_⟩
     refine idx_g rfl ?_; go_wp2_with fail; refine ⟨by first | exact Below.refl _ _ | exact hnew.below, ?_⟩
     refine idx_g rfl ?_; go_wp2_with fail; refine ⟨by first | exact Below.refl _ _ | exact hnew.below, ?_⟩
     refine idx_q rfl rfl ?_; go_wp2_with (first | (refine L_un (t := 74) rfl (by rfl) rfl ?_) | fail)
     refine idx_q rfl rfl ?_; go_wp2_with (first | (refine L_un (t := 76) rfl (by rfl) rfl ?_) | (first | (refine L_loadA (d := some 76) rfl rfl rfl (by rfl) Tryd.underlying39 rfl el_api_Head (by first | exact hst.get 0 rfl | exact hst.get 1 rfl | exact hst.get 2 rfl | exact hst.get 3 rfl) (by first | exact Dig.size _ | exact hdArr_size _ _ _ _ | rfl | (simp; done)) ?_) | (refine L_loadM (d := some 76) rfl rfl rfl (by rfl) Tryd.underlying39 rfl el_api_Head (by first | assumption) (by first | exact Dig.size _ | exact hdArr_size _ _ _ _ | rfl | (simp; done)) ?_)) | fail)
     refine idx_g rfl ?_; go_wp2_with (first | (refine L_un (t := 75) rfl (by rfl) rfl ?_) | (go_at_call 37; refine (held_any _ _ _ _ _ _ _ _ _ _ _ (hst.get 0 rfl)).mono ?_; rintro e Wh ⟨rfl, hnew⟩; replace hst := hst.keep hnew) | (refine L_neA (d := some 77) rfl rfl rfl eqG_Head (ev_tmp rfl) (ev_tmp rfl) (eqHead_self _ _ _ _ _) ?_; rw [bang_t]) | fail); refine ⟨by first | exact Below.refl _ _ | exact hnew.below, ?_⟩
     refine idx_g rfl ?_; go_wp2_with (first | (refine L_un (t := 77) rfl (by rfl) rfl ?_) | (go_at_call 37; refine (held_any _ _ _ _ _ _ _ _ _ _ _ (hst.get 0 rfl)).mono ?_; rintro e Wh ⟨rfl, hnew⟩; replace hst := hst.keep hnew) | (refine L_neA (d := some 77) rfl rfl rfl eqG_Head (ev_tmp rfl) (ev_tmp rfl) (eqHead_self _ _ _ _ _) ?_; rw [bang_t]) | fail); refine ⟨by first | exact Below.refl _ _ | exact hnew.below, ?_⟩
     refine idx_g rfl ?_; go_wp2_with fail; refine ⟨by first | exact Below.refl _ _ | exact hnew.below, ?_⟩
     refine idx_nil ?_
     go_wp2_with fail
     go_roundg g
     case measure => omega
     case rel => exact ⟨i + 1, n, x, y, t, Lib.hid (by have := HI.out; omega), Lib.hid (hN.out), by go_num, hst.pick [0, 1, 3] (by decide)⟩
    ·rw [pinAft_s h0r] at hst
     have hrb : ((r : Int) == 0) = false := by simp; omega
     clear h0r
     go_upto_region 17 with (go_big_may; first
      | fail)
     refine wp_region_idx [(0, 2), (1, 2), (2, 2), (3, 0), (5, 0), (4, 2), (6, 2), (7, 2)] (by kernel_rfl) (by kernel_rfl) ?_
     replace hst := hst.drew
     refine idx_g rfl ?_; go_wp2_with fail; refine ⟨by first | exact Below.refl _ _ | exact hnew.below, ?_⟩
     refine idx_g rfl ?_; go_wp2_with fail; refine ⟨by first | exact Below.refl _ _ | exact hnew.below, ?_⟩
     refine idx_g rfl ?_; go_wp2_with fail; refine ⟨by first | exact Below.refl _ _ | exact hnew.below, ?_⟩
     refine idx_q rfl rfl ?_; go_wp2_with (first | (refine L_un (t := 74) rfl (by rfl) rfl ?_) | fail)
     refine idx_q rfl rfl ?_; go_wp2_with (first | (refine L_un (t := 76) rfl (by rfl) rfl ?_) | (first | (refine L_loadA (d := some 76) rfl rfl rfl (by rfl) Tryd.underlying39 rfl el_api_Head (by first | exact hst.get 0 rfl | exact hst.get 1 rfl | exact hst.get 2 rfl | exact hst.get 3 rfl) (by first | exact Dig.size _ | exact hdArr_size _ _ _ _ | rfl | (simp; done)) ?_) | (refine L_loadM (d := some 76) rfl rfl rfl (by rfl) Tryd.underlying39 rfl el_api_Head (by first | assumption) (by first | exact Dig.size _ | exact hdArr_size _ _ _ _ | rfl | (simp; done)) ?_)) | fail)
     refine idx_g rfl ?_; go_wp2_with (first | (refine L_un (t := 75) rfl (by rfl) rfl ?_) | (go_at_call 37; refine (held_any _ _ _ _ _ _ _ _ _ _ _ (hst.get 0 rfl)).mono ?_; rintro e Wh ⟨rfl, hnew⟩; replace hst := hst.keep hnew) | (refine L_neA (d := some 77) rfl rfl rfl eqG_Head (ev_tmp rfl) (ev_tmp rfl) (eqHead_self _ _ _ _ _) ?_; rw [bang_t]) | fail); refine ⟨by first | exact Below.refl _ _ | exact hnew.below, ?_⟩
     refine idx_g rfl ?_; go_wp2_with (first | (refine L_un (t := 77) rfl (by rfl) rfl ?_) | (go_at_call 37; refine (held_any _ _ _ _ _ _ _ _ _ _ _ (hst.get 0 rfl)).mono ?_; rintro e Wh ⟨rfl, hnew⟩; replace hst := hst.keep hnew) | (refine L_neA (d := some 77) rfl rfl rfl eqG_Head (ev_tmp rfl) (ev_tmp rfl) (eqHead_self _ _ _ _ _) ?_; rw [bang_t]) | fail); refine ⟨by first | exact Below.refl _ _ | exact hnew.below, ?_⟩
     refine idx_g rfl ?_; go_wp2_with fail; refine ⟨by first | exact Below.refl _ _ | exact hnew.below, ?_⟩
     refine idx_nil ?_
     go_wp2_with fail
     go_roundg g
     case measure => omega
     case rel => exact ⟨i + 1, n0, x0, y0, z0, Lib.hid (by have := HI.out; omega), Lib.hid (H0.out), by go_num, hst.pick [0, 1, 3] (by decide)⟩
   | false =>
    go_upto_region 13 with (go_big_may; first
     | fail)
    obtain ⟨r, hr⟩ : ∃ r, r = takeN key n0 x0 y0 n x y z (f i).2.2.2 := ⟨_, rfl⟩
    replace hr := Lib.hid hr
    refine wp_region_idx [(0, 0), (1, 0), (2, 0), (3, 0), (4, 2), (5, 2), (6, 2), (7, 2), (8, 2)] (by kernel_rfl) (by kernel_rfl) ?_
    replace hst := hst.drew
    refine idx_q rfl rfl ?_; go_wp2_with fail
    refine idx_q rfl rfl ?_; go_wp2_with (first | (first | (refine L_loadA (d := some 52) rfl rfl rfl (by rfl) Tryd.underlying39 rfl el_api_Head (by first | exact hst.get 0 rfl | exact hst.get 1 rfl | exact hst.get 2 rfl | exact hst.get 3 rfl) (by first | exact Dig.size _ | exact hdArr_size _ _ _ _ | rfl | (simp; done)) ?_) | (refine L_loadM (d := some 52) rfl rfl rfl (by rfl) Tryd.underlying39 rfl el_api_Head (by first | assumption) (by first | exact Dig.size _ | exact hdArr_size _ _ _ _ | rfl | (simp; done)) ?_)) | fail)
    refine idx_q rfl rfl ?_; go_wp2_with (first | (first | (refine L_loadA (d := some 53) rfl rfl rfl (by rfl) Tryd.underlying39 rfl el_api_Head (by first | exact hst.get 0 rfl | exact hst.get 1 rfl | exact hst.get 2 rfl | exact hst.get 3 rfl) (by first | exact Dig.size _ | exact hdArr_size _ _ _ _ | rfl | (simp; done)) ?_) | (refine L_loadM (d := some 53) rfl rfl rfl (by rfl) Tryd.underlying39 rfl el_api_Head (by first | assumption) (by first | exact Dig.size _ | exact hdArr_size _ _ _ _ | rfl | (simp; done)) ?_)) | fail)
    refine idx_q rfl rfl ?_; go_wp2_with fail
    refine idx_g rfl ?_; go_wp2_with fail; refine ⟨by first | exact Below.refl _ _ | exact hnew.below, ?_⟩
    refine idx_g rfl ?_; go_wp2_with (first | (refine L_idxS (d := some 56) rfl rfl rfl (by rfl) (by rfl) Tryd.underlying68 el_S_api_Digest (by first | exact hst.old (by decide) HD.out | assumption | exact hst.sl 0 rfl | exact hst.sl 1 rfl | exact hst.sl 2 rfl | exact hst.sl 3 rfl | exact hst.old (by decide) (by assumption)) (by omega) (by omega) ?_; intro o56 p56 ha56 hr56; (first | subst ha56 | (obtain ⟨h1, h2⟩ := some_addr ha56; subst h1; subst h2; clear ha56) | skip)) | fail); refine ⟨by first | exact Below.refl _ _ | exact hnew.below, ?_⟩
    refine idx_g rfl ?_; go_wp2_with (first | (refine L_load1 (d := some 57) rfl rfl rfl (by rfl) Tryd.underlying74 rfl (HE.out _ _ _ hr56) ?_) | (refine L_load1 (d := some 57) rfl rfl rfl (by rfl) Tryd.underlying74 rfl (by first | assumption | exact cell_of (hst.get 0 rfl) rfl | exact cell_of (hst.get 1 rfl) rfl | exact cell_of (hst.get 2 rfl) rfl | exact cell_of (hst.get 3 rfl) rfl) ?_) | fail); refine ⟨by first | exact Below.refl _ _ | exact hnew.below, ?_⟩
    refine idx_g rfl ?_; go_wp2_with (first | (refine L_load1 (d := some 57) rfl rfl rfl (by rfl) Tryd.underlying74 rfl (HE.out _ _ _ hr56) ?_) | (go_at_call 43; refine (HR.out _ z (hst.old (by decide) hk) (hst.old (by decide) HF.out)).mono ?_; rw [← hr.out]; rintro e Wt ⟨rfl, hnew⟩; replace hst := hst.keep hnew) | fail); refine ⟨by first | exact Below.refl _ _ | exact hnew.below, ?_⟩
    refine idx_g rfl ?_; go_wp2_with fail; refine ⟨by first | exact Below.refl _ _ | exact hnew.below, ?_⟩
    refine idx_nil ?_
    go_wp2_with fail
    refine wp_region_pm (.one 0 3 (.one 2 3 (.one 3 3 (.one 7 3 (.one 1 0 (.one 4 2 (.one 5 2 (.one 6 1 (.one 8 2 (.one 9 2 .nil)))))))))) (by kernel_rfl) (by kernel_rfl) ?_
    replace hst := hst.drew
    refine pm_p rfl rfl ?_; go_wp2_with fail
    refine pm_p rfl rfl ?_; go_wp2_with fail
    refine pm_p rfl rfl ?_; go_wp2_with fail
    refine pm_p rfl rfl ?_; go_wp2_with fail
    refine pm_q rfl rfl ?_; go_wp2_with (first | (first | (refine L_loadA (d := some 60) rfl rfl rfl (by rfl) Tryd.underlying39 rfl el_api_Head (by first | exact hst.get 0 rfl | exact hst.get 1 rfl | exact hst.get 2 rfl | exact hst.get 3 rfl) (by first | exact Dig.size _ | exact hdArr_size _ _ _ _ | rfl | (simp; done)) ?_) | (refine L_loadM (d := some 60) rfl rfl rfl (by rfl) Tryd.underlying39 rfl el_api_Head (by first | assumption) (by first | exact Dig.size _ | exact hdArr_size _ _ _ _ | rfl | (simp; done)) ?_)) | fail)
    refine pm_g rfl ?_; go_wp2_with (first | (refine L_idxS (d := some 63) rfl rfl rfl (by rfl) (by rfl) Tryd.underlying68 el_S_api_Digest (by first | exact hst.old (by decide) HD.out | assumption | exact hst.sl 0 rfl | exact hst.sl 1 rfl | exact hst.sl 2 rfl | exact hst.sl 3 rfl | exact hst.old (by decide) (by assumption)) (by omega) (by omega) ?_; intro o63 p63 ha63 hr63; (first | subst ha63 | (obtain ⟨h1, h2⟩ := some_addr ha63; subst h1; subst h2; clear ha63) | skip)) | fail); refine ⟨by first | exact Below.refl _ _ | exact hnew.below, ?_⟩
    refine pm_g rfl ?_; go_wp2_with (first | (refine L_load1 (d := some 64) rfl rfl rfl (by rfl) Tryd.underlying74 rfl (HE.out _ _ _ hr63) ?_) | (refine L_load1 (d := some 64) rfl rfl rfl (by rfl) Tryd.underlying74 rfl (by first | assumption | exact cell_of (hst.get 0 rfl) rfl | exact cell_of (hst.get 1 rfl) rfl | exact cell_of (hst.get 2 rfl) rfl | exact cell_of (hst.get 3 rfl) rfl) ?_) | fail); refine ⟨by first | exact Below.refl _ _ | exact hnew.below, ?_⟩
    refine pm_e rfl ?_; go_wp2_with (first | (refine L_load1 (d := some 64) rfl rfl rfl (by rfl) Tryd.underlying74 rfl (HE.out _ _ _ hr63) ?_) | (go_at_call 40; refine (HK.out _ n0 x0 y0 z0 z _ H0.out (hst.pick [1, 2, 0, 3] (by decide))).mono ?_; rw [← hr.out]; rintro e Wt ⟨rfl, hst'⟩; simp only [List.filterMap_cons, List.filterMap_nil, List.getElem?_cons_zero, List.getElem?_cons_succ] at hst'; replace hst := hst'; clear hst') | (go_at_call 14; refine (sErrO_any r _ (HEb.out.of hst)).mono ?_; rintro e We ⟨rfl, hnew⟩; replace hst := hst.keep hnew) | fail)
    refine pm_g rfl ?_; go_wp2_with (first | (refine L_load1 (d := some 64) rfl rfl rfl (by rfl) Tryd.underlying74 rfl (HE.out _ _ _ hr63) ?_) | (go_at_call 40; refine (HK.out _ n0 x0 y0 z0 z _ H0.out (hst.pick [1, 2, 0, 3] (by decide))).mono ?_; rw [← hr.out]; rintro e Wt ⟨rfl, hst'⟩; simp only [List.filterMap_cons, List.filterMap_nil, List.getElem?_cons_zero, List.getElem?_cons_succ] at hst'; replace hst := hst'; clear hst') | (go_at_call 14; refine (sErrO_any r _ (HEb.out.of hst)).mono ?_; rintro e We ⟨rfl, hnew⟩; replace hst := hst.keep hnew) | fail); refine ⟨by first | exact Below.refl _ _ | exact hnew.below, ?_⟩
    refine pm_g rfl ?_; go_wp2_with fail; refine ⟨by first | exact Below.refl _ _ | exact hnew.below, ?_⟩
    refine pm_nil ?_
    go_upto_region 15 with fail
    by_cases h0r : r = 0
    ·subst h0r
     rw [pinAft_0] at hst
     have hN := Lib.hid (Int.not_lt.1 (take_zero hr.out.symm).1)
     go_upto_region 16 with (go_big_may; first
      | fail)
     go_upto_region 17 with (go_big_may; first
      | (first | (refine L_loadA (d := some 70) rfl rfl rfl (by rfl) Tryd.underlying39 rfl el_api_Head (by first | exact hst.get 0 rfl | exact hst.get 1 rfl | exact hst.get 2 rfl | exact hst.get 3 rfl) (by first | exact Dig.size _ | exact hdArr_size _ _ _ _ | rfl | (simp; done)) ?_) | (refine L_loadM (d := some 70) rfl rfl rfl (by rfl) Tryd.underlying39 rfl el_api_Head (by first | assumption) (by first | exact Dig.size _ | exact hdArr_size _ _ _ _ | rfl | (simp; done)) ?_))
      | (refine wpl_at (.store 39 (.tmp 10) (.tmp 70)) rfl ?_; first | (refine L_storeA rfl rfl hst rfl (by rfl) (ev_tmp rfl) (by first | rfl | exact Dig.one _ | exact hdArr_all _ _ _ _ | (simp; done)) el_api_Head (by first | rfl | exact Dig.size _ | exact hdArr_size _ _ _ _ | (simp; done)) 0 rfl (by first | rfl | exact Dig.size _ | exact hdArr_size _ _ _ _ | (simp; done)) ?_; clear hst; intro WS1 hst; simp only [List.set_cons_zero, List.set_cons_succ] at hst) | (refine L_storeA rfl rfl hst rfl (by rfl) (ev_tmp rfl) (by first | rfl | exact Dig.one _ | exact hdArr_all _ _ _ _ | (simp; done)) el_api_Head (by first | rfl | exact Dig.size _ | exact hdArr_size _ _ _ _ | (simp; done)) 1 rfl (by first | rfl | exact Dig.size _ | exact hdArr_size _ _ _ _ | (simp; done)) ?_; clear hst; intro WS1 hst; simp only [List.set_cons_zero, List.set_cons_succ] at hst) | (refine L_storeA rfl rfl hst rfl (by rfl) (ev_tmp rfl) (by first | rfl | exact Dig.one _ | exact hdArr_all _ _ _ _ | (simp; done)) el_api_Head (by first | rfl | exact Dig.size _ | exact hdArr_size _ _ _ _ | (simp; done)) 2 rfl (by first | rfl | exact Dig.size _ | exact hdArr_size _ _ _ _ | (simp; done)) ?_; clear hst; intro WS1 hst; simp only [List.set_cons_zero, List.set_cons_succ] at hst) | (refine L_storeA rfl rfl hst rfl (by rfl) (ev_tmp rfl) (by first | rfl | exact Dig.one _ | exact hdArr_all _ _ _ _ | (simp; done)) el_api_Head (by first | rfl | exact Dig.size _ | exact hdArr_size _ _ _ _ | (simp; done)) 3 rfl (by first | rfl | exact Dig.size _ | exact hdArr_size _ _ _ _ | (simp; done)) ?_; clear hst; intro WS1 hst; simp only [List.set_cons_zero, List.set_cons_succ] at hst) | (refine L_storeM rfl rfl hst rfl (by rfl) (ev_tmp rfl) (by first | rfl | exact Dig.one _ | exact hdArr_all _ _ _ _ | (simp; done)) el_api_Head (by first | rfl | exact Dig.size _ | exact hdArr_size _ _ _ _ | (simp; done)) 0 rfl (by first | exact of_decide_eq_true rfl | (simp; done)) ?_; clear hst; intro WS1 hst; simp only [List.set_cons_zero, List.set_cons_succ] at hst)  | (refine L_storeM rfl rfl hst rfl (by rfl) (ev_tmp rfl) (by first | rfl | exact Dig.one _ | exact hdArr_all _ _ _ _ | (simp; done)) el_api_Head (by first | rfl | exact Dig.size _ | exact hdArr_size _ _ _ _ | (simp; done)) 1 rfl (by first | exact of_decide_eq_true rfl | (simp; done)) ?_; clear hst; intro WS1 hst; simp only [List.set_cons_zero, List.set_cons_succ] at hst)  | (refine L_storeM rfl rfl hst rfl (by rfl) (ev_tmp rfl) (by first | rfl | exact Dig.one _ | exact hdArr_all _ _ _ _ | (simp; done)) el_api_Head (by first | rfl | exact Dig.size _ | exact hdArr_size _ _ _ _ | (simp; done)) 2 rfl (by first | exact of_decide_eq_true rfl | (simp; done)) ?_; clear hst; intro WS1 hst; simp only [List.set_cons_zero, List.set_cons_succ] at hst)  | (refine L_storeM rfl rfl hst rfl (by rfl) (ev_tmp rfl) (by first | rfl | exact Dig.one _ | exact hdArr_all _ _ _ _ | (simp; done)) el_api_Head (by first | rfl | exact Dig.size _ | exact hdArr_size _ _ _ _ | (simp; done)) 3 rfl (by first | exact of_decide_eq_true rfl | (simp; done)) ?_; clear hst; intro WS1 hst; simp only [List.set_cons_zero, List.set_cons_succ] at hst))
      | fail)
     refine wp_region_idx [(0, 2), (1, 2), (2, 2), (3, 0), (5, 0), (4, 2), (6, 2), (7, 2)] (by kernel_rfl) (by kernel_rfl) ?_
     replace hst := hst.drew
     refine idx_g rfl ?_; go_wp2_with fail; refine ⟨by first | exact Below.refl _ _ | exact hnew.below, ?_⟩
     refine idx_g rfl ?_; go_wp2_with fail; refine ⟨by first | exact Below.refl _ _ | exact hnew.below, ?_⟩
     refine idx_g rfl ?_; go_wp2_with fail; refine ⟨by first | exact Below.refl _ _ | exact hnew.below, ?_⟩
     refine idx_q rfl rfl ?_; go_wp2_with (first | (refine L_un (t := 74) rfl (by rfl) rfl ?_) | fail)
     refine idx_q rfl rfl ?_; go_wp2_with (first | (refine L_un (t := 76) rfl (by rfl) rfl ?_) | (first | (refine L_loadA (d := some 76) rfl rfl rfl (by rfl) Tryd.underlying39 rfl el_api_Head (by first | exact hst.get 0 rfl | exact hst.get 1 rfl | exact hst.get 2 rfl | exact hst.get 3 rfl) (by first | exact Dig.size _ | exact hdArr_size _ _ _ _ | rfl | (simp; done)) ?_) | (refine L_loadM (d := some 76) rfl rfl rfl (by rfl) Tryd.underlying39 rfl el_api_Head (by first | assumption) (by first | exact Dig.size _ | exact hdArr_size _ _ _ _ | rfl | (simp; done)) ?_)) | fail)
     refine idx_g rfl ?_; go_wp2_with (first | (refine L_un (t := 75) rfl (by rfl) rfl ?_) | (go_at_call 37; refine (held_any _ _ _ _ _ _ _ _ _ _ _ (hst.get 0 rfl)).mono ?_; rintro e Wh ⟨rfl, hnew⟩; replace hst := hst.keep hnew) | (refine L_neA (d := some 77) rfl rfl rfl eqG_Head (ev_tmp rfl) (ev_tmp rfl) (eqHead_self _ _ _ _ _) ?_; rw [bang_t]) | fail); refine ⟨by first | exact Below.refl _ _ | exact hnew.below, ?_⟩
     refine idx_g rfl ?_; go_wp2_with (first | (refine L_un (t := 77) rfl (by rfl) rfl ?_) | (go_at_call 37; refine (held_any _ _ _ _ _ _ _ _ _ _ _ (hst.get 0 rfl)).mono ?_; rintro e Wh ⟨rfl, hnew⟩; replace hst := hst.keep hnew) | (refine L_neA (d := some 77) rfl rfl rfl eqG_Head (ev_tmp rfl) (ev_tmp rfl) (eqHead_self _ _ _ _ _) ?_; rw [bang_t]) | fail); refine ⟨by first | exact Below.refl _ _ | exact hnew.below, ?_⟩
     refine idx_g rfl ?_; go_wp2_with fail; refine ⟨by first | exact Below.refl _ _ | exact hnew.below, ?_⟩
     refine idx_nil ?_
     go_wp2_with fail
     go_roundg g
     case measure => omega
     case rel => exact ⟨i + 1, n, x, y, z, Lib.hid (by have := HI.out; omega), Lib.hid (hN.out), by go_num, hst.pick [0, 1, 3] (by decide)⟩
    ·rw [pinAft_s h0r] at hst
     have hrb : ((r : Int) == 0) = false := by simp; omega
     clear h0r
     go_upto_region 17 with (go_big_may; first
      | fail)
     refine wp_region_idx [(0, 2), (1, 2), (2, 2), (3, 0), (5, 0), (4, 2), (6, 2), (7, 2)] (by kernel_rfl) (by kernel_rfl) ?_
     replace hst := hst.drew
     refine idx_g rfl ?_; go_wp2_with fail; refine ⟨by first | exact Below.refl _ _ | exact hnew.below, ?_⟩
     refine idx_g rfl ?_; go_wp2_with fail; refine ⟨by first | exact Below.refl _ _ | exact hnew.below, ?_⟩
     refine idx_g rfl ?_; go_wp2_with fail; refine ⟨by first | exact Below.refl _ _ | exact hnew.below, ?_⟩
     refine idx_q rfl rfl ?_; go_wp2_with (first | (refine L_un (t := 74) rfl (by rfl) rfl ?_) | fail)
     refine idx_q rfl rfl ?_; go_wp2_with (first | (refine L_un (t := 76) rfl (by rfl) rfl ?_) | (first | (refine L_loadA (d := some 76) rfl rfl rfl (by rfl) Tryd.underlying39 rfl el_api_Head (by first | exact hst.get 0 rfl | exact hst.get 1 rfl | exact hst.get 2 rfl | exact hst.get 3 rfl) (by first | exact Dig.size _ | exact hdArr_size _ _ _ _ | rfl | (simp; done)) ?_) | (refine L_loadM (d := some 76) rfl rfl rfl (by rfl) Tryd.underlying39 rfl el_api_Head (by first | assumption) (by first | exact Dig.size _ | exact hdArr_size _ _ _ _ | rfl | (simp; done)) ?_)) | fail)
     refine idx_g rfl ?_; go_wp2_with (first | (refine L_un (t := 75) rfl (by rfl) rfl ?_) | (go_at_call 37; refine (held_any _ _ _ _ _ _ _ _ _ _ _ (hst.get 0 rfl)).mono ?_; rintro e Wh ⟨rfl, hnew⟩; replace hst := hst.keep hnew) | (refine L_neA (d := some 77) rfl rfl rfl eqG_Head (ev_tmp rfl) (ev_tmp rfl) (eqHead_self _ _ _ _ _) ?_; rw [bang_t]) | fail); refine ⟨by first | exact Below.refl _ _ | exact hnew.below, ?_⟩
     refine idx_g rfl ?_; go_wp2_with (first | (refine L_un (t := 77) rfl (by rfl) rfl ?_) | (go_at_call 37; refine (held_any _ _ _ _ _ _ _ _ _ _ _ (hst.get 0 rfl)).mono ?_; rintro e Wh ⟨rfl, hnew⟩; replace hst := hst.keep hnew) | (refine L_neA (d := some 77) rfl rfl rfl eqG_Head (ev_tmp rfl) (ev_tmp rfl) (eqHead_self _ _ _ _ _) ?_; rw [bang_t]) | fail); refine ⟨by first | exact Below.refl _ _ | exact hnew.below, ?_⟩
     refine idx_g rfl ?_; go_wp2_with fail; refine ⟨by first | exact Below.refl _ _ | exact hnew.below, ?_⟩
     refine idx_nil ?_
     go_wp2_with fail
     go_roundg g
     case measure => omega
     case rel => exact ⟨i + 1, n0, x0, y0, z0, Lib.hid (by have := HI.out; omega), Lib.hid (H0.out), by go_num, hst.pick [0, 1, 3] (by decide)⟩
  ·obtain rfl : gk = 0 := by omega
   obtain rfl : i = hn := by omega
   clear hi
   go_wp2_with (first
    | fail)
   go_ret
   exact ⟨rfl, hst.forget⟩
end Go.Proofs.YtkbleigmfcleaaaDoor

set_option maxRecDepth 20000
set_option linter.unusedSimpArgs false
set_option linter.unusedVariables false
namespace Go.Proofs.YtkbleigmfcleaaaDoor
open Go.ChangeShapes Go.WideShapes Go.RowKit
def ebCell : Value := .iface 155 (.agg #[.pointer (some ⟨2, 26, none⟩)])
theorem etG : Tryd.prog.globalNamed "errors.errorType" = some 0 := by kernel_rfl
theorem rtT : (Tryd.prog.cutTypes.find? (·.1 == "internal/reflectlite.rtype")).map (·.2) = some 155 := by kernel_rfl
theorem oneRow : ((List.range 203).filter fun t => Tryd.prog.rowNamed t [101, 114, 114, 111, 114]) = [26] := by kernel_rfl
theorem nTypes : Tryd.prog.types.size = 203 := by kernel_rfl
theorem eb_of {W : World} (h : handlesMet Tryd.prog [("errors.errorType", Rows.laid_errors_errorType)] W) : Eb W := by
 obtain ⟨name, u, ty, e1, e2, e3, e4, e5⟩ := h _ (List.mem_singleton.2 rfl)
 have en : name = [101, 114, 114, 111, 114] := (Option.some.inj e1).symm
 subst en
 obtain rfl := Option.some.inj (rtT.symm.trans e2)
 have hm : ty ∈ (List.range 203).filter fun t => Tryd.prog.rowNamed t [101, 114, 114, 111, 114] := List.mem_filter.2 ⟨List.mem_range.2 (by rw [← nTypes]; exact e3), e4⟩
 rw [oneRow] at hm
 obtain rfl := List.mem_singleton.1 hm
 have hh : typeHandle Tryd.prog 26 = .pointer (some ⟨2, 26, none⟩) := by kernel_rfl
 rw [hh] at e5
 simpa [Eb] using World.var?_cell etG e5 0
end Go.Proofs.YtkbleigmfcleaaaDoor

namespace Go.Proofs.YtkbleigmfcleaaaDoor.pinTakes
open Go.ChangeShapes Go.WideShapes Go.ChangeAt Go.RowKit
theorem own : ownKnob Tryd.prog.godebug = none := by kernel_rfl
theorem laidOut : laidOutB Tryd.prog = true := by kernel_rfl
theorem cellsD : Tryd.prog.cellsOf 23 = 32 := by kernel_rfl
theorem cells8 : Tryd.prog.cellsOf 5 = 1 := by kernel_rfl
set_option maxHeartbeats 4000000 in
set_option maxRecDepth 100000 in
theorem contract (H : Type) (enc : TypeId × Value → H) (W : World) (base : Nat) (args : Array Value) (ds gs : List (DataW H)) (before : List MemPlace)
  (hval : ∀ (j : Nat) t v, Tryd.f12.params[j]? = some t → args[j]? = some v → Value.okWide Tryd.prog W .any base t v)
  (hW : DataW.Whole enc Tryd.prog Tryd.f12.params.toList Rows.pinTakesSpec.vars false W args.toList ds gs before) (hT : Tb W) (hE : Eb W)
  (hz : (DataW.weightsEach Tryd.prog (Tryd.f12.params.toList ++ (OpenSpec.ofChange Rows.pinTakesSpec).bare.plain.varTypes Tryd.prog) (ds ++ gs)).all (· ≤ reachBytes) = true) :
  Calls Tryd.prog 12 args W fun e W' => ∃ v, e = .returned v ∧ Rows.pinTakesSpec.post enc Tryd.prog Tryd.f12 false true false false W args v W' := by
 have hW' := hW
 obtain ⟨p, q, hA0, hV, rfl, hfz, hnd⟩ := hW
 have hA : DataW.TrodAll enc Tryd.prog W 0 (fun _ => true) true Tryd.f12.params.toList args.toList ds p := hA0
 rw [Tryd.params12] at hA hval hz
 obtain ⟨v0, vs0, d0, ds0, p0, q0, hargs, rfl, rfl, h0, r0⟩ := trodAll_cons hA
 obtain ⟨v1, vs1, d1, ds1, p1, q1, rfl, rfl, rfl, h1, r1⟩ := trodAll_cons r0
 obtain ⟨v2, vs2, d2, ds2, p2, q2, rfl, rfl, rfl, h2, r2⟩ := trodAll_cons r1
 obtain ⟨v3, vs3, d3, ds3, p3, q3, rfl, rfl, rfl, h3, r3⟩ := trodAll_cons r2
 obtain ⟨rfl, rfl, rfl⟩ := trodAll_nil r3
 obtain rfl : args = #[v0, v1, v2, v3] := by cases args; simp_all
 obtain ⟨rfl, rfl⟩ := trodVars_none hV
 obtain ⟨A0, n0, c0, a0, rfl, hs0, hd0⟩ := open_bytesS Tryd.underlying49 Tryd.underlying5 cells8 (hval 0 _ v0 rfl rfl) h0
 have hn0 : n0 * 1 ≤ 140737488351232 := by
  rcases hd0 with ⟨_, h0⟩ | ⟨el, sp, rfl, hel⟩
  ·rw [h0]; decide
  ·have := sized_slice hz (j := 0) (e := 5) rfl rfl Tryd.underlying49
   rw [show Tryd.prog.bytesOf 5 = 1 from by kernel_rfl] at this
   have := reach_le this
   rw [← hel]
   omega
 obtain ⟨A1, n1, c1, a1, rfl, hs1, hw1, hd1⟩ := open_headsS Tryd.underlying67 Tryd.underlying39 Tryd.underlying3 rfl rfl rfl Tryd.underlying23 Tryd.underlying5 cells8 cellsD rfl rfl rfl rfl (by kernel_rfl) (by kernel_rfl) (hval 1 _ v1 rfl rfl) h1
 obtain ⟨A2, n2, c2, a2, rfl, hs2, hp2, hd2⟩ := open_digss Tryd.underlying68 Tryd.underlying74 Tryd.underlying23 Tryd.underlying5 cells8 cellsD (by kernel_rfl) (hval 2 _ v2 rfl rfl) h2
 obtain ⟨a3, rfl, rfl, rfl⟩ := open_bool Tryd.underlying4 (hval 3 _ v3 rfl rfl) h3
 have lt0 : ∀ x ∈ p0, x.block < W.heap.size := by obtain ⟨m, hm⟩ := h0; exact DataW.trod_lt m _ _ _ hm
 have lt1 : ∀ x ∈ p1, x.block < W.heap.size := by obtain ⟨m, hm⟩ := h1; exact DataW.trod_lt m _ _ _ hm
 have lt2 : ∀ x ∈ p2, x.block < W.heap.size := by obtain ⟨m, hm⟩ := h2; exact DataW.trod_lt m _ _ _ hm
 clear hA0
 refine (pinTakes_any W hT hE a0 A0 n0 c0 hs0 hn0 a1 A1 n1 c1 hs1 (fun q hq => wf64 (hw1 q hq)) A2 n2 c2 a2 hs2 hp2 a3).mono fun e W' ⟨he, hst⟩ => ?_
 have bel := hst.below
 subst he
 exact ⟨_, rfl, _, _, _, [], _, [], hW', trodAll_mk1 (shut_bool Tryd.underlying4 _),
  (trodAll_cons_mk (Below.trod laidOut (by kernel_rfl) (of_decide_eq_true (by kernel_rfl)) h0 bel lt0) (trodAll_cons_mk (Below.trod laidOut (by kernel_rfl) (of_decide_eq_true (by kernel_rfl)) h1 bel lt1) (trodAll_cons_mk (Below.trod laidOut (by kernel_rfl) (of_decide_eq_true (by kernel_rfl)) h2 bel lt2) (trodAll_cons_mk (shut_bool Tryd.underlying4 a3) trodAll_mk0)))), rfl, bel.frame _, fun h => by cases h⟩
noncomputable def laidWorld0 (os : Os) : World :=
 { World.holding Tryd.prog os ⟨#[], #[], []⟩ with heap := (World.holding Tryd.prog os ⟨#[], #[], []⟩).heap.modify 1 fun
   | .cells _ t frozen => .cells tblArr t frozen
   | o => o }
noncomputable def laidWorld (os : Os) : World :=
 { laidWorld0 os with heap := (laidWorld0 os).heap.modify 0 fun
   | .cells _ t frozen => .cells #[ebCell] t frozen
   | o => o }
theorem laid_met (os : Os) : laidMetH Tryd.prog Rows.pinTakesRow.laid ((laidWorld os).forCall (fun _ _ => 0) ⟨#[], #[.slice none 0 0, .slice none 0 0, .slice none 0 0, .bool false], []⟩).memory :=
 laidMetH_of_parts (laidMet_of_run' 8 (by kernel_rfl) (by kernel_rfl)) (by kernel_rfl)
theorem reads (os : Os) {H : Type} (enc : TypeId × Value → H) : ∃ places, DataW.whole enc Tryd.prog ((laidWorld os).forCall (fun _ _ => 0) ⟨#[], #[.slice none 0 0, .slice none 0 0, .slice none 0 0, .bool false], []⟩).memory Tryd.f12.params.toList Rows.pinTakesSpec.vars false (#[.slice none 0 0, .slice none 0 0, .slice none 0 0, .bool false] : Array Value).toList 8 = some ([.nil, .nil, .nil, .lit (.bool false)], [], places) :=
 ⟨[], by kernel_rfl⟩
set_option maxRecDepth 100000 in
theorem lifted (os : Os) (started : os.Started) (H : Type) (enc : TypeId × Value → H) (F : Stop.Interp) :
  ReturnsInHanded {} Tryd.checked os 12 .any ((OpenSpec.ofChange Rows.pinTakesSpec).preRow enc Tryd.prog Tryd.f12 Rows.pinTakesRow.domain false Rows.pinTakesRow.laid) (((OpenSpec.ofChange Rows.pinTakesSpec).at F).post enc Tryd.prog Tryd.f12 false true false false) := by
 obtain ⟨places, hx⟩ := reads os enc
 refine returnsInHanded_of_row (C := Tryd.checked) (s := (OpenSpec.ofChange Rows.pinTakesSpec)) own started (by kernel_rfl) Tryd.func12
  (witness_row_at (enc := enc) (C := Tryd.checked) false (laidWorld os) #[.slice none 0 0, .slice none 0 0, .slice none 0 0, .bool false] rfl (by kernel_rfl) (by kernel_rfl) (by kernel_rfl)
   (OpenSpec.preRow_of_cond 8 hx (by kernel_rfl) (fun k hk => by cases hk) (by kernel_rfl) (laid_met os))) ?_
 intro W base args ds gs before hval hW _ _ hz hL _ _
 exact contract H enc W base args ds gs before hval hW (tb_of (show laidMet Tryd.prog [("oathbook/sha.rounds", Rows.laid_oathbook_sha_rounds)] W ∧ handlesMet Tryd.prog [("errors.errorType", Rows.laid_errors_errorType)] W from hL).1) (eb_of (show laidMet Tryd.prog [("oathbook/sha.rounds", Rows.laid_oathbook_sha_rounds)] W ∧ handlesMet Tryd.prog [("errors.errorType", Rows.laid_errors_errorType)] W from hL).2) hz
theorem said : Rows.PinTakesSaid :=
 OpenClaim.holds_of_cond 12 Tryd.f12 rfl rfl rfl rfl rfl rfl rfl ⟨rfl, rfl, rfl, rfl, rfl⟩ rfl rfl rfl rfl rfl (by kernel_rfl) Tryd.func12 (by kernel_rfl)
  (of_decide_eq_true (by kernel_rfl)) (by unfold Func.isWrapper; first | (rw [if_pos (by decide +kernel)]; kernel_rfl) | (rw [if_neg (by decide +kernel)]; exact ⟨rfl, rfl⟩))
  (fun os started H enc _ F => by rw [OpenClaim.pre_eq_preRow]; exact lifted os started H enc F)
theorem plain (f : FuncId) (fn : Func) (hf : Tryd.pinned.checked.prog.funcNamed "oathbook/oathbooklaw3.PinTakes" = some f) (hfn : Tryd.pinned.checked.prog.funcs[f]? = some fn) :
  true = Tryd.pinned.checked.prog.looks [] ∧ ∀ (j : Nat) t, fn.params[j]? = some t → Tryd.pinned.checked.prog.wantsStandIn t = false := by
 obtain rfl : f = 12 := Option.some.inj ((show Tryd.prog.funcNamed "oathbook/oathbooklaw3.PinTakes" = some 12 by kernel_rfl).symm.trans hf) |>.symm
 obtain rfl : fn = Tryd.f12 := (Option.some.inj (Tryd.func12.symm.trans hfn)).symm
 refine ⟨by kernel_rfl, fun j t ht => ?_⟩
 rw [Tryd.params12] at ht
 have hm := Array.mem_of_getElem? ht
 have ha : ∀ t ∈ #[49, 67, 68, 4], Tryd.prog.wantsStandIn t = false := by
  intro t ht
  simp only [List.mem_toArray, List.mem_cons, List.not_mem_nil, or_false] at ht
  rcases ht with rfl | rfl | rfl | rfl <;> kernel_rfl
 exact ha t hm
theorem proved : Rows.PinTakesCardSaid :=
 Claim7.holds_tied_plain_at .later [] _ _ _ _ said (fun _ h => by cases h) (by kernel_rfl) (fun _ h => by cases h) pinTakes_row_tie rfl ⟨rfl, rfl⟩ (by kernel_rfl) rfl plain (by kernel_rfl)
#print axioms proved
end Go.Proofs.YtkbleigmfcleaaaDoor.pinTakes
