/-
  Proved here, ahead of the law: GrowTells: the law returns true for every input, and leaves its arguments as they were.
-/
import Derived.Test.YtfpppmamkmaneaaDoorTreePlain
import Derived.Test.YtfpppmamkmaneaaDoorPath
import Derived.Test.YtfpppmamkmaneaaDoorFork
import Derived.Test.YtfpppmamkmaneaaDoorLawF
set_option maxRecDepth 20000
set_option linter.unusedSimpArgs false
set_option linter.unusedVariables false
namespace Go.Proofs.YtfpppmamkmaneaaDoor
def plN (n m : Nat) (own : Bool) : Nat :=
 if m = n then (if own then 0 else 1)
 else if _h : n < 2 then 0
 else if m ≤ halfN n then plN (halfN n) m own + 1
 else plN (n - halfN n) (m - halfN n) false + 1
termination_by n
decreasing_by
 ·exact halfN_lt n (by omega)
 ·have := halfN_pos n
  omega
theorem plN_all (n : Nat) (own : Bool) : plN n n own = if own then 0 else 1 := by rw [plN, if_pos rfl]
theorem plN_left {n m : Nat} {own : Bool} (h : m ≠ n) (h2 : 2 ≤ n) (hk : m ≤ halfN n) : plN n m own = plN (halfN n) m own + 1 := by rw [plN, if_neg h, dif_neg (by omega), if_pos hk]
theorem plN_right {n m : Nat} {own : Bool} (h : m ≠ n) (h2 : 2 ≤ n) (hk : ¬ m ≤ halfN n) : plN n m own = plN (n - halfN n) (m - halfN n) false + 1 := by rw [plN, if_neg h, dif_neg (by omega), if_neg hk]
theorem plN_le : ∀ (n m : Nat) (own : Bool), plN n m own ≤ n + 1 := by
 intro n
 induction n using Nat.strongRecOn with
 | ind n ih =>
 intro m own
 by_cases h : m = n
 ·subst h
  rw [plN_all]
  split <;> omega
 ·by_cases h2 : n < 2
  ·rw [plN, if_neg h, dif_pos h2]
   omega
  ·have h1 := halfN_lt n (by omega)
   have h3 := halfN_pos n
   by_cases hk : m ≤ halfN n
   ·have := ih _ h1 m own
    rw [plN_left h (by omega) hk]
    omega
   ·have := ih (n - halfN n) (by omega) (m - halfN n) false
    rw [plN_right h (by omega) hk]
    omega
def gpN (ls : List Dig) (m : Nat) (own : Bool) : List Dig :=
 if m = ls.length then (if own then [] else [rootN ls])
 else if _h : ls.length < 2 then []
 else if m ≤ halfN ls.length then gpN (ls.take (halfN ls.length)) m own ++ [rootN (ls.drop (halfN ls.length))]
 else gpN (ls.drop (halfN ls.length)) (m - halfN ls.length) false ++ [rootN (ls.take (halfN ls.length))]
termination_by ls.length
decreasing_by
 ·have := halfN_lt ls.length (by omega)
  rw [List.length_take]
  omega
 ·have := halfN_pos ls.length
  rw [List.length_drop]
  omega
theorem gpN_all (ls : List Dig) {m : Nat} (own : Bool) (h : m = ls.length) : gpN ls m own = if own then [] else [rootN ls] := by rw [gpN, if_pos h]
theorem gpN_left {ls : List Dig} {m : Nat} {own : Bool} (h : m ≠ ls.length) (h2 : 2 ≤ ls.length) (hk : m ≤ halfN ls.length) : gpN ls m own = gpN (ls.take (halfN ls.length)) m own ++ [rootN (ls.drop (halfN ls.length))] := by
 rw [gpN, if_neg h, dif_neg (by omega), if_pos hk]
theorem gpN_right {ls : List Dig} {m : Nat} {own : Bool} (h : m ≠ ls.length) (h2 : 2 ≤ ls.length) (hk : ¬ m ≤ halfN ls.length) : gpN ls m own = gpN (ls.drop (halfN ls.length)) (m - halfN ls.length) false ++ [rootN (ls.take (halfN ls.length))] := by
 rw [gpN, if_neg h, dif_neg (by omega), if_neg hk]
theorem length_gpN : ∀ (n : Nat) (ls : List Dig) (m : Nat) (own : Bool), ls.length = n → (gpN ls m own).length = plN n m own := by
 intro n
 induction n using Nat.strongRecOn with
 | ind n ih =>
 intro ls m own hl
 by_cases h : m = n
 ·subst h
  rw [gpN_all ls own hl.symm, plN_all]
  split <;> rfl
 ·by_cases h2 : n < 2
  ·rw [gpN, if_neg (by omega), dif_pos (by omega), plN, if_neg h, dif_pos h2]
   rfl
  ·have h1 := halfN_lt n (by omega)
   have h3 := halfN_pos n
   by_cases hk : m ≤ halfN n
   ·rw [gpN_left (by omega) (by omega) (by rw [hl]; exact hk), plN_left h (by omega) hk, List.length_append, hl, ih _ h1 (ls.take (halfN n)) m own (by rw [List.length_take]; omega), List.length_singleton]
   ·rw [gpN_right (by omega) (by omega) (by rw [hl]; exact hk), plN_right h (by omega) hk, List.length_append, hl, ih (n - halfN n) (by omega) (ls.drop (halfN n)) (m - halfN n) false (by rw [List.length_drop]; omega), List.length_singleton]
def grN (n m : Nat) (own : Bool) (old : Dig) (p : List Dig) : Dig × Dig :=
 if m = n then (if own then (old, old) else (p.getLastD zeroD, p.getLastD zeroD))
 else if _h : n < 2 then (old, old)
 else if m ≤ halfN n then
  ((grN (halfN n) m own old p.dropLast).1, nodeN (grN (halfN n) m own old p.dropLast).2 (p.getLastD zeroD))
 else
  (nodeN (p.getLastD zeroD) (grN (n - halfN n) (m - halfN n) false old p.dropLast).1, nodeN (p.getLastD zeroD) (grN (n - halfN n) (m - halfN n) false old p.dropLast).2)
termination_by n
decreasing_by
 all_goals first
  | exact halfN_lt n (by omega)
  | (have := halfN_pos n; omega)
theorem grN_all (n : Nat) (own : Bool) (old : Dig) (p : List Dig) : grN n n own old p = if own then (old, old) else (p.getLastD zeroD, p.getLastD zeroD) := by rw [grN, if_pos rfl]
theorem grN_left {n m : Nat} {own : Bool} {old : Dig} (h : m ≠ n) (h2 : 2 ≤ n) (hk : m ≤ halfN n) (q : List Dig) (d : Dig) : grN n m own old (q ++ [d]) = ((grN (halfN n) m own old q).1, nodeN (grN (halfN n) m own old q).2 d) := by
 rw [grN, if_neg h, dif_neg (by omega), if_pos hk]
 simp
theorem grN_right {n m : Nat} {own : Bool} {old : Dig} (h : m ≠ n) (h2 : 2 ≤ n) (hk : ¬ m ≤ halfN n) (q : List Dig) (d : Dig) : grN n m own old (q ++ [d]) = (nodeN d (grN (n - halfN n) (m - halfN n) false old q).1, nodeN d (grN (n - halfN n) (m - halfN n) false old q).2) := by
 rw [grN, if_neg h, dif_neg (by omega), if_neg hk]
 simp
theorem root_take {ls : List Dig} {m : Nat} (h2 : 2 ≤ ls.length) (hk : ¬ m ≤ halfN ls.length) (hm : m ≤ ls.length) :
  rootN (ls.take m) = nodeN (rootN (ls.take (halfN ls.length))) (rootN ((ls.drop (halfN ls.length)).take (m - halfN ls.length))) := by
 have h3 := halfN_pos ls.length
 have hl : (ls.take m).length = m := by rw [List.length_take]; omega
 have hh : halfN m = halfN ls.length := by
  have hu : ls.length - 1 < 2 ^ (Nat.log2 (ls.length - 1) + 1) := Nat.lt_log2_self
  refine halfN_of (Nat.log2 (ls.length - 1)) rfl (by omega) ?_
  unfold halfN
  rw [Nat.pow_succ] at hu
  omega
 rw [rootN_more (ls.take m) (by omega), hl, hh, List.take_take, Nat.min_eq_left (by omega), List.drop_take]
theorem grow_proves : ∀ (n : Nat) (ls : List Dig) (m : Nat) (own : Bool) (old : Dig), ls.length = n → 1 ≤ m → m ≤ n → (own = true → old = rootN (ls.take m)) → grN n m own old (gpN ls m own) = (rootN (ls.take m), rootN ls) := by
 intro n
 induction n using Nat.strongRecOn with
 | ind n ih =>
 intro ls m own old hl h1 hm ho
 by_cases h : m = n
 ·subst h
  rw [gpN_all ls own hl.symm, grN_all, List.take_of_length_le (by omega)]
  cases own with
  | true =>
   have := ho rfl
   rw [List.take_of_length_le (by omega)] at this
   simp [this]
  | false => simp
 ·have h2 : 2 ≤ n := by omega
  have hlt := halfN_lt n h2
  have hps := halfN_pos n
  by_cases hk : m ≤ halfN n
  ·have hl' : (ls.take (halfN n)).length = halfN n := by rw [List.length_take]; omega
   have ht : (ls.take (halfN n)).take m = ls.take m := by rw [List.take_take, Nat.min_eq_left hk]
   have := ih _ hlt (ls.take (halfN n)) m own old hl' h1 hk (fun e => by rw [ht]; exact ho e)
   rw [gpN_left (by omega) (by omega) (by rw [hl]; exact hk), hl, grN_left h h2 hk, this, ht, rootN_more ls (by omega), hl]
  ·have hl' : (ls.drop (halfN n)).length = n - halfN n := by rw [List.length_drop, hl]
   have := ih (n - halfN n) (by omega) (ls.drop (halfN n)) (m - halfN n) false old hl' (by omega) (by omega) (fun e => by cases e)
   rw [gpN_right (by omega) (by omega) (by rw [hl]; exact hk), hl, grN_right h h2 hk, this, root_take (m := m) (by omega) (by rw [hl]; exact hk) (by omega), rootN_more ls (by omega), hl]
end Go.Proofs.YtfpppmamkmaneaaDoor

set_option linter.unusedSimpArgs false
set_option linter.unusedVariables false
namespace Go.Proofs.YtfpppmamkmaneaaDoor
open Go.RowKit
set_option maxHeartbeats 8000000 in
set_option maxRecDepth 100000 in
theorem gproof_any : ∀ (n : Nat) (ls : List Dig) (A : Option Addr) (c m : Nat) (own : Bool) (w : World), Tb w → SlR w A n c 32 (digsL ls) → 1 ≤ m → m ≤ n → n ≤ 256 →
  Calls Tryd.prog 58 #[.slice A n c, .int .i64 (m : Int), .bool own] w fun e w' => ∃ O oc, e = .returned (.slice O (plN n m own) oc) ∧ St w w' [.row O (plN n m own) oc 25 32 (digsL (gpN ls m own))] := by
 intro n
 induction n using Nat.strongRecOn with
 | ind n ih =>
 intro ls A c m own w hT hx hm1 hmn hn
 have hst := St.refl w
 have HT := Lib.hid hT
 have hl : ls.length = n := by have := hx.1; rw [length_digsL] at this; omega
 have hcap := hx.2.1
 clear hT
 by_cases h : m = n
 ·subst h
  rw [gpN_all ls own hl.symm, plN_all]
  cases own with
  | true =>
   clear ih
   go_enter Tryd.func58, Tryd.ntmps58
   go_wp2_with (first
    | fail)
   go_ret
   exact ⟨_, _, rfl, hst.nilRow 25 32⟩
  | false =>
   have HR := Lib.hid (fun w hT hs => tRoot_any ls A m c w hT hs hn)
   have HB := Lib.hid (show (rootN ls).arr.toList = digsL [rootN ls] by rw [digsL_single, Dig.toList])
   clear ih
   generalize rootN ls = r at *
   go_enter Tryd.func58, Tryd.ntmps58
   go_wp2_with (first
    | (go_at_call 16; (try clear hnew); refine (HR.out _ (HT.out.of hst) (hst.old (by decide) hx)).mono ?_; rintro e Wk1 ⟨rfl, hnew⟩; replace hst := hst.keep hnew)
    | (refine L_allocA (d := some 7) rfl rfl rfl el_api_Digest ?_; (try clear hnew); intro g7 W7 hnew; replace hst := hst.trans hnew; simp only [List.cons_append, List.nil_append] at hst)
    | (refine wpl_at (.store 25 (.tmp 7) (.tmp 22)) rfl ?_; first | (refine L_storeA rfl rfl hst rfl (by rfl) (ev_tmp rfl) (by first | rfl | exact Dig.one _ | (simp; done)) el_api_Digest (by first | rfl | exact Dig.size _ | (simp; done)) 0 rfl (by first | rfl | exact Dig.size _ | (simp; done)) ?_; clear hst; intro WS6 hst; simp only [List.set_cons_zero, List.set_cons_succ] at hst) | (refine L_storeA rfl rfl hst rfl (by rfl) (ev_tmp rfl) (by first | rfl | exact Dig.one _ | (simp; done)) el_api_Digest (by first | rfl | exact Dig.size _ | (simp; done)) 1 rfl (by first | rfl | exact Dig.size _ | (simp; done)) ?_; clear hst; intro WS6 hst; simp only [List.set_cons_zero, List.set_cons_succ] at hst) | (refine L_storeM rfl rfl hst rfl (by rfl) (ev_tmp rfl) (by first | rfl | exact Dig.one _ | (simp; done)) el_api_Digest (by first | rfl | exact Dig.size _ | (simp; done)) 0 rfl (by first | exact of_decide_eq_true rfl | (simp; done)) ?_; clear hst; intro WS6 hst; simp only [List.set_cons_zero, List.set_cons_succ] at hst)  | (refine L_storeM rfl rfl hst rfl (by rfl) (ev_tmp rfl) (by first | rfl | exact Dig.one _ | (simp; done)) el_api_Digest (by first | rfl | exact Dig.size _ | (simp; done)) 1 rfl (by first | exact of_decide_eq_true rfl | (simp; done)) ?_; clear hst; intro WS6 hst; simp only [List.set_cons_zero, List.set_cons_succ] at hst))
    | (first | (refine L_loadA (d := some 24) rfl rfl rfl (by rfl) Tryd.underlying25 rfl el_api_Digest (by first | exact hst.get 0 rfl | exact hst.get 1 rfl) (by first | rfl | exact Dig.size _ | (simp; done)) ?_) | (refine L_loadM (d := some 24) rfl rfl rfl (by rfl) Tryd.underlying25 rfl el_api_Digest (by first | assumption) (by first | rfl | exact Dig.size _ | (simp; done)) ?_))
    | (refine L_buildS (d := some 25) rfl rfl rfl [_] (bs_1 (ev_tmp rfl)) rfl Tryd.underlying22 el_api_Digest rfl (by first | (simp [Value.cells]; done) | (simp [Value.cells, Dig.size]; done)) (by decide) (by decide) ?_; (try clear hnew); intro g25 W25 hnew; replace hst := hst.trans hnew; simp only [List.cons_append, List.nil_append] at hst; simp only [List.flatMap_cons, List.flatMap_nil, List.append_nil, Value.cells, List.toList_toArray] at hst)
    | fail)
   go_ret
   refine ⟨_, _, rfl, ?_⟩
   (try simp only [Bool.false_eq_true, if_false])
   rw [← HB.out]
   exact hst.pick [0] (by decide)
 ·have hlt := halfN_lt n (by omega)
  have hps := halfN_pos n
  have h' : ((m : Int) == (n : Int)) = false := by rw [beq_eq_false_iff_ne]; omega
  have HF := Lib.hid (fun w => half_any n (by omega) (by omega) w)
  have H1 := Lib.hid (show ((digsL ls).drop (0 * 32)).take ((halfN n - 0) * 32) = digsL (ls.take (halfN n)) by rw [digsL_cut]; rfl)
  have H2 := Lib.hid (show ((digsL ls).drop (halfN n * 32)).take ((n - halfN n) * 32) = digsL (ls.drop (halfN n)) by rw [digsL_cut, List.take_of_length_le (by rw [List.length_drop]; omega)])
  by_cases hk : m ≤ halfN n
  ·have hle := plN_le (halfN n) m own
   rw [plN_left h (by omega) hk]
   have HI := Lib.hid (fun A c w hT hs => ih (halfN n) hlt (ls.take (halfN n)) A c m own w hT hs hm1 hk (by omega))
   have HR := Lib.hid (fun A c w hT hs => tRoot_any (ls.drop (halfN n)) A (n - halfN n) c w hT hs (by omega))
   have HB := Lib.hid (show digsL (gpN (ls.take (halfN n)) m own) ++ (rootN (ls.drop (halfN n))).arr.toList = digsL (gpN ls m own) by
    rw [gpN_left (ls := ls) (by omega) (by omega) (by rw [hl]; exact hk), hl, digsL_append, digsL_single, Dig.toList])
   have hk' : (m : Int) ≤ (halfN n : Int) := by omega
   clear ih hl
   generalize plN (halfN n) m own = r at *
   generalize halfN n = k at *
   generalize rootN (ls.drop k) = x at *
   go_enter Tryd.func58, Tryd.ntmps58
   go_upto_region 1 with (first
    | fail)
   go_upto_region 6 with (first
    | fail)
   go_upto_region 7 with (first
    | (go_at_call 53; (try clear hnew); refine (HF.out _).mono ?_; rintro e Wk2 ⟨rfl, hnew⟩; replace hst := hst.keep hnew)
    | fail)
   go_upto_region 8 with (first
    | fail)
   go_upto_region 9 with (first
    | (go_at_call 16; (try clear hnew); refine (HR.out A35 c35 _ (HT.out.of hst) (by rw [← H2.out]; exact hst.old (by decide) hs35)).mono ?_; rintro e Wk3 ⟨rfl, hnew⟩; replace hst := hst.keep hnew)
    | (first | (refine L_cutV (d := some 35) rfl rfl rfl (by rfl) Tryd.underlying22 el_api_Digest (by decide) hx k n _ (Or.inr ⟨_, _, rfl, by first | exact ev_tmp rfl | (rw [ev_tmp rfl]; congr 1; omega)⟩) (Or.inl ⟨rfl, rfl, rfl⟩) (Or.inl ⟨rfl, rfl⟩) (by omega) (by omega) (by omega) (by omega) ?_; intro A35 c35 hs35) | (refine L_cutO (d := some 35) rfl rfl hst rfl (by rfl) Tryd.underlying22 el_api_Digest 0 rfl (by first | rfl | omega) k n _ (Or.inr ⟨_, _, rfl, by first | exact ev_tmp rfl | (rw [ev_tmp rfl]; congr 1; omega)⟩) (Or.inl ⟨rfl, rfl, rfl⟩) (Or.inl ⟨rfl, rfl⟩) (by omega) (by omega) (by omega) (by omega) ?_; clear hst; intro A35 c35 hst; simp only [List.set_cons_zero, List.set_cons_succ] at hst) | (refine L_cutO (d := some 35) rfl rfl hst rfl (by rfl) Tryd.underlying22 el_api_Digest 1 rfl (by first | rfl | omega) k n _ (Or.inr ⟨_, _, rfl, by first | exact ev_tmp rfl | (rw [ev_tmp rfl]; congr 1; omega)⟩) (Or.inl ⟨rfl, rfl, rfl⟩) (Or.inl ⟨rfl, rfl⟩) (by omega) (by omega) (by omega) (by omega) ?_; clear hst; intro A35 c35 hst; simp only [List.set_cons_zero, List.set_cons_succ] at hst) | (refine L_cutS (d := some 35) rfl rfl rfl (by rfl) Tryd.underlying22 el_api_Digest (by decide) (by first | assumption | exact hst.old (by decide) (by assumption) | exact hst.sl 0 rfl | exact hst.sl 1 rfl) k n _ (Or.inr ⟨_, _, rfl, by first | exact ev_tmp rfl | (rw [ev_tmp rfl]; congr 1; omega)⟩) (Or.inl ⟨rfl, rfl, rfl⟩) (Or.inl ⟨rfl, rfl⟩) (by omega) (by omega) (by omega) (by omega) ?_; intro A35 c35 hs35))
    | (refine L_allocA (d := some 10) rfl rfl rfl el_api_Digest ?_; (try clear hnew); intro g10 W10 hnew; replace hst := hst.trans hnew; simp only [List.cons_append, List.nil_append] at hst)
    | (refine wpl_at (.store 25 (.tmp 10) (.tmp 37)) rfl ?_; first | (refine L_storeA rfl rfl hst rfl (by rfl) (ev_tmp rfl) (by first | rfl | exact Dig.one _ | (simp; done)) el_api_Digest (by first | rfl | exact Dig.size _ | (simp; done)) 0 rfl (by first | rfl | exact Dig.size _ | (simp; done)) ?_; clear hst; intro WS8 hst; simp only [List.set_cons_zero, List.set_cons_succ] at hst) | (refine L_storeA rfl rfl hst rfl (by rfl) (ev_tmp rfl) (by first | rfl | exact Dig.one _ | (simp; done)) el_api_Digest (by first | rfl | exact Dig.size _ | (simp; done)) 1 rfl (by first | rfl | exact Dig.size _ | (simp; done)) ?_; clear hst; intro WS8 hst; simp only [List.set_cons_zero, List.set_cons_succ] at hst) | (refine L_storeM rfl rfl hst rfl (by rfl) (ev_tmp rfl) (by first | rfl | exact Dig.one _ | (simp; done)) el_api_Digest (by first | rfl | exact Dig.size _ | (simp; done)) 0 rfl (by first | exact of_decide_eq_true rfl | (simp; done)) ?_; clear hst; intro WS8 hst; simp only [List.set_cons_zero, List.set_cons_succ] at hst)  | (refine L_storeM rfl rfl hst rfl (by rfl) (ev_tmp rfl) (by first | rfl | exact Dig.one _ | (simp; done)) el_api_Digest (by first | rfl | exact Dig.size _ | (simp; done)) 1 rfl (by first | exact of_decide_eq_true rfl | (simp; done)) ?_; clear hst; intro WS8 hst; simp only [List.set_cons_zero, List.set_cons_succ] at hst))
    | fail)
   (try clear hnew)
   refine wp_region_pn (.one 0 3 (.one 1 3 (.one 3 3 (.one 4 3 (.one 2 0 (.one 6 0 (.two 5 (.one 7 2 (.one 8 1 (.one 9 2 .nil))) 7 (.one 5 2 (.one 8 1 (.one 9 2 .nil)))))))))) (by kernel_rfl) (by kernel_rfl) ?_
   replace hst := hst.drew
   refine pn_p rfl rfl ?_; go_wp2_with fail
   refine pn_p rfl rfl ?_; go_wp2_with fail
   refine pn_p rfl rfl ?_; go_wp2_with fail
   refine pn_p rfl rfl ?_; go_wp2_with fail
   refine pn_q rfl rfl ?_; go_wp2_with (first | (first | (refine L_cutV (d := some 41) rfl rfl rfl (by rfl) Tryd.underlying22 el_api_Digest (by decide) hx 0 k _ (Or.inl ⟨rfl, rfl⟩) (Or.inr ⟨_, _, rfl, by first | exact ev_tmp rfl | (rw [ev_tmp rfl]; congr 1; omega)⟩) (Or.inl ⟨rfl, rfl⟩) (by omega) (by omega) (by omega) (by omega) ?_; intro A41 c41 hs41) | (refine L_cutO (d := some 41) rfl rfl hst rfl (by rfl) Tryd.underlying22 el_api_Digest 0 rfl (by first | rfl | omega) 0 k _ (Or.inl ⟨rfl, rfl⟩) (Or.inr ⟨_, _, rfl, by first | exact ev_tmp rfl | (rw [ev_tmp rfl]; congr 1; omega)⟩) (Or.inl ⟨rfl, rfl⟩) (by omega) (by omega) (by omega) (by omega) ?_; clear hst; intro A41 c41 hst; simp only [List.set_cons_zero, List.set_cons_succ] at hst) | (refine L_cutO (d := some 41) rfl rfl hst rfl (by rfl) Tryd.underlying22 el_api_Digest 1 rfl (by first | rfl | omega) 0 k _ (Or.inl ⟨rfl, rfl⟩) (Or.inr ⟨_, _, rfl, by first | exact ev_tmp rfl | (rw [ev_tmp rfl]; congr 1; omega)⟩) (Or.inl ⟨rfl, rfl⟩) (by omega) (by omega) (by omega) (by omega) ?_; clear hst; intro A41 c41 hst; simp only [List.set_cons_zero, List.set_cons_succ] at hst) | (refine L_cutO (d := some 41) rfl rfl hst rfl (by rfl) Tryd.underlying22 el_api_Digest 2 rfl (by first | rfl | omega) 0 k _ (Or.inl ⟨rfl, rfl⟩) (Or.inr ⟨_, _, rfl, by first | exact ev_tmp rfl | (rw [ev_tmp rfl]; congr 1; omega)⟩) (Or.inl ⟨rfl, rfl⟩) (by omega) (by omega) (by omega) (by omega) ?_; clear hst; intro A41 c41 hst; simp only [List.set_cons_zero, List.set_cons_succ] at hst) | (refine L_cutO (d := some 41) rfl rfl hst rfl (by rfl) Tryd.underlying22 el_api_Digest 3 rfl (by first | rfl | omega) 0 k _ (Or.inl ⟨rfl, rfl⟩) (Or.inr ⟨_, _, rfl, by first | exact ev_tmp rfl | (rw [ev_tmp rfl]; congr 1; omega)⟩) (Or.inl ⟨rfl, rfl⟩) (by omega) (by omega) (by omega) (by omega) ?_; clear hst; intro A41 c41 hst; simp only [List.set_cons_zero, List.set_cons_succ] at hst) | (refine L_cutS (d := some 41) rfl rfl rfl (by rfl) Tryd.underlying22 el_api_Digest (by decide) (by first | assumption | exact hst.old (by decide) (by assumption) | exact hst.sl 0 rfl | exact hst.sl 1 rfl | exact hst.sl 2 rfl | exact hst.sl 3 rfl) 0 k _ (Or.inl ⟨rfl, rfl⟩) (Or.inr ⟨_, _, rfl, by first | exact ev_tmp rfl | (rw [ev_tmp rfl]; congr 1; omega)⟩) (Or.inl ⟨rfl, rfl⟩) (by omega) (by omega) (by omega) (by omega) ?_; intro A41 c41 hs41)) | fail)
   refine pn_q rfl rfl ?_; go_wp2_with (first | (first | (refine L_loadA (d := some 45) rfl rfl rfl (by rfl) Tryd.underlying25 rfl el_api_Digest (by first | exact hst.get 0 rfl | exact hst.get 1 rfl | exact hst.get 2 rfl | exact hst.get 3 rfl) (by first | rfl | exact Dig.size _ | (simp; done)) ?_) | (refine L_loadM (d := some 45) rfl rfl rfl (by rfl) Tryd.underlying25 rfl el_api_Digest (by first | assumption) (by first | rfl | exact Dig.size _ | (simp; done)) ?_)) | fail)
   refine pn_two rfl rfl ?_ ?_
   ·go_wp2_with (first | (go_at_call 58; (try clear hnew); refine (HI.out A41 c41 _ (HT.out.of hst) (by rw [← H1.out]; exact hst.old (by decide) hs41)).mono ?_; rintro e Wk4 ⟨O44, c44, rfl, hnew⟩; replace hst := hst.trans hnew; simp only [List.cons_append, List.nil_append] at hst) | fail); refine ⟨by first | exact Below.refl _ _ | exact hnew.below, ?_⟩
    refine pn_g rfl ?_; go_wp2_with (first | (refine L_buildS (d := some 46) rfl rfl rfl [_] (bs_1 (ev_tmp rfl)) rfl Tryd.underlying22 el_api_Digest rfl (by first | (simp [Value.cells]; done) | (simp [Value.cells, Dig.size]; done)) (by decide) (by decide) ?_; (try clear hnew); intro g46 W46 hnew; replace hst := hst.trans hnew; simp only [List.cons_append, List.nil_append] at hst; simp only [List.flatMap_cons, List.flatMap_nil, List.append_nil, Value.cells, List.toList_toArray] at hst) | fail); refine ⟨by first | exact Below.refl _ _ | exact hnew.below, ?_⟩
    refine pn_e rfl ?_; go_wp2_with (first | (go_at_call 58; (try clear hnew); refine (HI.out A41 c41 _ (HT.out.of hst) (by rw [← H1.out]; exact hst.old (by decide) hs41)).mono ?_; rintro e Wk4 ⟨O44, c44, rfl, hnew⟩; replace hst := hst.trans hnew; simp only [List.cons_append, List.nil_append] at hst) | (refine L_appendO (d := some 47) rfl rfl hst rfl (by rfl) (by rfl) Tryd.underlying22 el_api_Digest rfl (by decide) (by decide) 0 rfl (by first | rfl | omega) (by first | exact hst.sl 0 rfl | exact hst.sl 1 rfl | exact hst.sl 2 rfl | exact hst.sl 3 rfl | assumption | exact hst.old (by decide) (by assumption)) (by first | exact oneCell_bytes | (simp [Value.oneCell']; done) | exact dig_oneL _) (by omega) ?_; clear hst; intro A47 c47 W47 hst; simp only [List.set_cons_zero, List.set_cons_succ, List.nil_append, Nat.zero_add] at hst) | (refine L_appendO (d := some 47) rfl rfl hst rfl (by rfl) (by rfl) Tryd.underlying22 el_api_Digest rfl (by decide) (by decide) 1 rfl (by first | rfl | omega) (by first | exact hst.sl 0 rfl | exact hst.sl 1 rfl | exact hst.sl 2 rfl | exact hst.sl 3 rfl | assumption | exact hst.old (by decide) (by assumption)) (by first | exact oneCell_bytes | (simp [Value.oneCell']; done) | exact dig_oneL _) (by omega) ?_; clear hst; intro A47 c47 W47 hst; simp only [List.set_cons_zero, List.set_cons_succ, List.nil_append, Nat.zero_add] at hst) | (refine L_appendO (d := some 47) rfl rfl hst rfl (by rfl) (by rfl) Tryd.underlying22 el_api_Digest rfl (by decide) (by decide) 2 rfl (by first | rfl | omega) (by first | exact hst.sl 0 rfl | exact hst.sl 1 rfl | exact hst.sl 2 rfl | exact hst.sl 3 rfl | assumption | exact hst.old (by decide) (by assumption)) (by first | exact oneCell_bytes | (simp [Value.oneCell']; done) | exact dig_oneL _) (by omega) ?_; clear hst; intro A47 c47 W47 hst; simp only [List.set_cons_zero, List.set_cons_succ, List.nil_append, Nat.zero_add] at hst) | (refine L_appendO (d := some 47) rfl rfl hst rfl (by rfl) (by rfl) Tryd.underlying22 el_api_Digest rfl (by decide) (by decide) 3 rfl (by first | rfl | omega) (by first | exact hst.sl 0 rfl | exact hst.sl 1 rfl | exact hst.sl 2 rfl | exact hst.sl 3 rfl | assumption | exact hst.old (by decide) (by assumption)) (by first | exact oneCell_bytes | (simp [Value.oneCell']; done) | exact dig_oneL _) (by omega) ?_; clear hst; intro A47 c47 W47 hst; simp only [List.set_cons_zero, List.set_cons_succ, List.nil_append, Nat.zero_add] at hst) | (refine L_appendF (d := some 47) rfl rfl rfl (by rfl) (by rfl) Tryd.underlying22 el_api_Digest rfl (by decide) (by assumption) (by first | assumption | exact hst.sl 0 rfl | exact hst.sl 1 rfl | exact hst.sl 2 rfl | exact hst.sl 3 rfl | assumption | exact hst.old (by decide) (by assumption)) (by omega) (by omega) (by omega) ?_; (try clear hnew); intro A47 c47 W47 hnew; replace hst := hst.trans hnew; simp only [List.cons_append, List.nil_append] at hst) | fail)
    refine pn_g rfl ?_; go_wp2_with fail; refine ⟨by first | exact Below.refl _ _ | exact hnew.below, ?_⟩
    refine pn_nil ?_
    go_wp2_with fail
    go_ret
    refine ⟨_, _, rfl, ?_⟩
    rw [HB.out] at hst
    first | exact hst.pick [0] (by decide) | exact hst.pick [1] (by decide)
   ·go_wp2_with (first | (refine L_buildS (d := some 46) rfl rfl rfl [_] (bs_1 (ev_tmp rfl)) rfl Tryd.underlying22 el_api_Digest rfl (by first | (simp [Value.cells]; done) | (simp [Value.cells, Dig.size]; done)) (by decide) (by decide) ?_; (try clear hnew); intro g46 W46 hnew; replace hst := hst.trans hnew; simp only [List.cons_append, List.nil_append] at hst; simp only [List.flatMap_cons, List.flatMap_nil, List.append_nil, Value.cells, List.toList_toArray] at hst) | fail); refine ⟨by first | exact Below.refl _ _ | exact hnew.below, ?_⟩
    refine pn_g rfl ?_; go_wp2_with (first | (go_at_call 58; (try clear hnew); refine (HI.out A41 c41 _ (HT.out.of hst) (by rw [← H1.out]; exact hst.old (by decide) hs41)).mono ?_; rintro e Wk4 ⟨O44, c44, rfl, hnew⟩; replace hst := hst.trans hnew; simp only [List.cons_append, List.nil_append] at hst) | fail); refine ⟨by first | exact Below.refl _ _ | exact hnew.below, ?_⟩
    refine pn_e rfl ?_; go_wp2_with (first | (go_at_call 58; (try clear hnew); refine (HI.out A41 c41 _ (HT.out.of hst) (by rw [← H1.out]; exact hst.old (by decide) hs41)).mono ?_; rintro e Wk4 ⟨O44, c44, rfl, hnew⟩; replace hst := hst.trans hnew; simp only [List.cons_append, List.nil_append] at hst) | (refine L_appendO (d := some 47) rfl rfl hst rfl (by rfl) (by rfl) Tryd.underlying22 el_api_Digest rfl (by decide) (by decide) 0 rfl (by first | rfl | omega) (by first | exact hst.sl 0 rfl | exact hst.sl 1 rfl | exact hst.sl 2 rfl | exact hst.sl 3 rfl | assumption | exact hst.old (by decide) (by assumption)) (by first | exact oneCell_bytes | (simp [Value.oneCell']; done) | exact dig_oneL _) (by omega) ?_; clear hst; intro A47 c47 W47 hst; simp only [List.set_cons_zero, List.set_cons_succ, List.nil_append, Nat.zero_add] at hst) | (refine L_appendO (d := some 47) rfl rfl hst rfl (by rfl) (by rfl) Tryd.underlying22 el_api_Digest rfl (by decide) (by decide) 1 rfl (by first | rfl | omega) (by first | exact hst.sl 0 rfl | exact hst.sl 1 rfl | exact hst.sl 2 rfl | exact hst.sl 3 rfl | assumption | exact hst.old (by decide) (by assumption)) (by first | exact oneCell_bytes | (simp [Value.oneCell']; done) | exact dig_oneL _) (by omega) ?_; clear hst; intro A47 c47 W47 hst; simp only [List.set_cons_zero, List.set_cons_succ, List.nil_append, Nat.zero_add] at hst) | (refine L_appendO (d := some 47) rfl rfl hst rfl (by rfl) (by rfl) Tryd.underlying22 el_api_Digest rfl (by decide) (by decide) 2 rfl (by first | rfl | omega) (by first | exact hst.sl 0 rfl | exact hst.sl 1 rfl | exact hst.sl 2 rfl | exact hst.sl 3 rfl | assumption | exact hst.old (by decide) (by assumption)) (by first | exact oneCell_bytes | (simp [Value.oneCell']; done) | exact dig_oneL _) (by omega) ?_; clear hst; intro A47 c47 W47 hst; simp only [List.set_cons_zero, List.set_cons_succ, List.nil_append, Nat.zero_add] at hst) | (refine L_appendO (d := some 47) rfl rfl hst rfl (by rfl) (by rfl) Tryd.underlying22 el_api_Digest rfl (by decide) (by decide) 3 rfl (by first | rfl | omega) (by first | exact hst.sl 0 rfl | exact hst.sl 1 rfl | exact hst.sl 2 rfl | exact hst.sl 3 rfl | assumption | exact hst.old (by decide) (by assumption)) (by first | exact oneCell_bytes | (simp [Value.oneCell']; done) | exact dig_oneL _) (by omega) ?_; clear hst; intro A47 c47 W47 hst; simp only [List.set_cons_zero, List.set_cons_succ, List.nil_append, Nat.zero_add] at hst) | (refine L_appendF (d := some 47) rfl rfl rfl (by rfl) (by rfl) Tryd.underlying22 el_api_Digest rfl (by decide) (by assumption) (by first | assumption | exact hst.sl 0 rfl | exact hst.sl 1 rfl | exact hst.sl 2 rfl | exact hst.sl 3 rfl | assumption | exact hst.old (by decide) (by assumption)) (by omega) (by omega) (by omega) ?_; (try clear hnew); intro A47 c47 W47 hnew; replace hst := hst.trans hnew; simp only [List.cons_append, List.nil_append] at hst) | fail)
    refine pn_g rfl ?_; go_wp2_with fail; refine ⟨by first | exact Below.refl _ _ | exact hnew.below, ?_⟩
    refine pn_nil ?_
    go_wp2_with fail
    go_ret
    refine ⟨_, _, rfl, ?_⟩
    rw [HB.out] at hst
    first | exact hst.pick [0] (by decide) | exact hst.pick [1] (by decide)
  ·have hle := plN_le (n - halfN n) (m - halfN n) false
   rw [plN_right h (by omega) hk]
   have HI := Lib.hid (fun A c w hT hs => ih (n - halfN n) (by omega) (ls.drop (halfN n)) A c (m - halfN n) false w hT hs (by omega) (by omega) (by omega))
   have HR := Lib.hid (fun A c w hT hs => tRoot_any (ls.take (halfN n)) A (halfN n) c w hT hs (by omega))
   have HB := Lib.hid (show digsL (gpN (ls.drop (halfN n)) (m - halfN n) false) ++ (rootN (ls.take (halfN n))).arr.toList = digsL (gpN ls m own) by
    rw [gpN_right (ls := ls) (by omega) (by omega) (by rw [hl]; exact hk), hl, digsL_append, digsL_single, Dig.toList])
   have e1 : (((m - halfN n : Nat)) : Int) = (m : Int) - (halfN n : Int) := by omega
   rw [e1] at HI
   have hk' : ¬ (m : Int) ≤ (halfN n : Int) := by omega
   clear ih hl e1
   generalize plN (n - halfN n) (m - halfN n) false = r at *
   generalize halfN n = k at *
   generalize rootN (ls.take k) = x at *
   go_enter Tryd.func58, Tryd.ntmps58
   go_upto_region 1 with (first
    | fail)
   go_upto_region 6 with (first
    | fail)
   go_upto_region 7 with (first
    | (go_at_call 53; (try clear hnew); refine (HF.out _).mono ?_; rintro e Wk5 ⟨rfl, hnew⟩; replace hst := hst.keep hnew)
    | fail)
   go_upto_region 10 with (first
    | fail)
   go_upto_region 11 with (first
    | (go_at_call 16; (try clear hnew); refine (HR.out A51 c51 _ (HT.out.of hst) (by rw [← H1.out]; exact hst.old (by decide) hs51)).mono ?_; rintro e Wk6 ⟨rfl, hnew⟩; replace hst := hst.keep hnew)
    | (first | (refine L_cutV (d := some 51) rfl rfl rfl (by rfl) Tryd.underlying22 el_api_Digest (by decide) hx 0 k _ (Or.inl ⟨rfl, rfl⟩) (Or.inr ⟨_, _, rfl, by first | exact ev_tmp rfl | (rw [ev_tmp rfl]; congr 1; omega)⟩) (Or.inl ⟨rfl, rfl⟩) (by omega) (by omega) (by omega) (by omega) ?_; intro A51 c51 hs51) | (refine L_cutO (d := some 51) rfl rfl hst rfl (by rfl) Tryd.underlying22 el_api_Digest 0 rfl (by first | rfl | omega) 0 k _ (Or.inl ⟨rfl, rfl⟩) (Or.inr ⟨_, _, rfl, by first | exact ev_tmp rfl | (rw [ev_tmp rfl]; congr 1; omega)⟩) (Or.inl ⟨rfl, rfl⟩) (by omega) (by omega) (by omega) (by omega) ?_; clear hst; intro A51 c51 hst; simp only [List.set_cons_zero, List.set_cons_succ] at hst) | (refine L_cutO (d := some 51) rfl rfl hst rfl (by rfl) Tryd.underlying22 el_api_Digest 1 rfl (by first | rfl | omega) 0 k _ (Or.inl ⟨rfl, rfl⟩) (Or.inr ⟨_, _, rfl, by first | exact ev_tmp rfl | (rw [ev_tmp rfl]; congr 1; omega)⟩) (Or.inl ⟨rfl, rfl⟩) (by omega) (by omega) (by omega) (by omega) ?_; clear hst; intro A51 c51 hst; simp only [List.set_cons_zero, List.set_cons_succ] at hst) | (refine L_cutS (d := some 51) rfl rfl rfl (by rfl) Tryd.underlying22 el_api_Digest (by decide) (by first | assumption | exact hst.old (by decide) (by assumption) | exact hst.sl 0 rfl | exact hst.sl 1 rfl) 0 k _ (Or.inl ⟨rfl, rfl⟩) (Or.inr ⟨_, _, rfl, by first | exact ev_tmp rfl | (rw [ev_tmp rfl]; congr 1; omega)⟩) (Or.inl ⟨rfl, rfl⟩) (by omega) (by omega) (by omega) (by omega) ?_; intro A51 c51 hs51))
    | (refine L_allocA (d := some 12) rfl rfl rfl el_api_Digest ?_; (try clear hnew); intro g12 W12 hnew; replace hst := hst.trans hnew; simp only [List.cons_append, List.nil_append] at hst)
    | (refine wpl_at (.store 25 (.tmp 12) (.tmp 53)) rfl ?_; first | (refine L_storeA rfl rfl hst rfl (by rfl) (ev_tmp rfl) (by first | rfl | exact Dig.one _ | (simp; done)) el_api_Digest (by first | rfl | exact Dig.size _ | (simp; done)) 0 rfl (by first | rfl | exact Dig.size _ | (simp; done)) ?_; clear hst; intro WS8 hst; simp only [List.set_cons_zero, List.set_cons_succ] at hst) | (refine L_storeA rfl rfl hst rfl (by rfl) (ev_tmp rfl) (by first | rfl | exact Dig.one _ | (simp; done)) el_api_Digest (by first | rfl | exact Dig.size _ | (simp; done)) 1 rfl (by first | rfl | exact Dig.size _ | (simp; done)) ?_; clear hst; intro WS8 hst; simp only [List.set_cons_zero, List.set_cons_succ] at hst) | (refine L_storeM rfl rfl hst rfl (by rfl) (ev_tmp rfl) (by first | rfl | exact Dig.one _ | (simp; done)) el_api_Digest (by first | rfl | exact Dig.size _ | (simp; done)) 0 rfl (by first | exact of_decide_eq_true rfl | (simp; done)) ?_; clear hst; intro WS8 hst; simp only [List.set_cons_zero, List.set_cons_succ] at hst)  | (refine L_storeM rfl rfl hst rfl (by rfl) (ev_tmp rfl) (by first | rfl | exact Dig.one _ | (simp; done)) el_api_Digest (by first | rfl | exact Dig.size _ | (simp; done)) 1 rfl (by first | exact of_decide_eq_true rfl | (simp; done)) ?_; clear hst; intro WS8 hst; simp only [List.set_cons_zero, List.set_cons_succ] at hst))
    | fail)
   (try clear hnew)
   refine wp_region_pn (.one 0 3 (.one 1 3 (.one 3 3 (.one 4 3 (.one 2 0 (.one 5 0 (.one 7 0 (.two 6 (.one 8 2 (.one 9 1 (.one 10 2 .nil))) 8 (.one 6 2 (.one 9 1 (.one 10 2 .nil))))))))))) (by kernel_rfl) (by kernel_rfl) ?_
   replace hst := hst.drew
   refine pn_p rfl rfl ?_; go_wp2_with fail
   refine pn_p rfl rfl ?_; go_wp2_with fail
   refine pn_p rfl rfl ?_; go_wp2_with fail
   refine pn_p rfl rfl ?_; go_wp2_with fail
   refine pn_q rfl rfl ?_; go_wp2_with (first | (first | (refine L_cutV (d := some 57) rfl rfl rfl (by rfl) Tryd.underlying22 el_api_Digest (by decide) hx k n _ (Or.inr ⟨_, _, rfl, by first | exact ev_tmp rfl | (rw [ev_tmp rfl]; congr 1; omega)⟩) (Or.inl ⟨rfl, rfl, rfl⟩) (Or.inl ⟨rfl, rfl⟩) (by omega) (by omega) (by omega) (by omega) ?_; intro A57 c57 hs57) | (refine L_cutO (d := some 57) rfl rfl hst rfl (by rfl) Tryd.underlying22 el_api_Digest 0 rfl (by first | rfl | omega) k n _ (Or.inr ⟨_, _, rfl, by first | exact ev_tmp rfl | (rw [ev_tmp rfl]; congr 1; omega)⟩) (Or.inl ⟨rfl, rfl, rfl⟩) (Or.inl ⟨rfl, rfl⟩) (by omega) (by omega) (by omega) (by omega) ?_; clear hst; intro A57 c57 hst; simp only [List.set_cons_zero, List.set_cons_succ] at hst) | (refine L_cutO (d := some 57) rfl rfl hst rfl (by rfl) Tryd.underlying22 el_api_Digest 1 rfl (by first | rfl | omega) k n _ (Or.inr ⟨_, _, rfl, by first | exact ev_tmp rfl | (rw [ev_tmp rfl]; congr 1; omega)⟩) (Or.inl ⟨rfl, rfl, rfl⟩) (Or.inl ⟨rfl, rfl⟩) (by omega) (by omega) (by omega) (by omega) ?_; clear hst; intro A57 c57 hst; simp only [List.set_cons_zero, List.set_cons_succ] at hst) | (refine L_cutO (d := some 57) rfl rfl hst rfl (by rfl) Tryd.underlying22 el_api_Digest 2 rfl (by first | rfl | omega) k n _ (Or.inr ⟨_, _, rfl, by first | exact ev_tmp rfl | (rw [ev_tmp rfl]; congr 1; omega)⟩) (Or.inl ⟨rfl, rfl, rfl⟩) (Or.inl ⟨rfl, rfl⟩) (by omega) (by omega) (by omega) (by omega) ?_; clear hst; intro A57 c57 hst; simp only [List.set_cons_zero, List.set_cons_succ] at hst) | (refine L_cutO (d := some 57) rfl rfl hst rfl (by rfl) Tryd.underlying22 el_api_Digest 3 rfl (by first | rfl | omega) k n _ (Or.inr ⟨_, _, rfl, by first | exact ev_tmp rfl | (rw [ev_tmp rfl]; congr 1; omega)⟩) (Or.inl ⟨rfl, rfl, rfl⟩) (Or.inl ⟨rfl, rfl⟩) (by omega) (by omega) (by omega) (by omega) ?_; clear hst; intro A57 c57 hst; simp only [List.set_cons_zero, List.set_cons_succ] at hst) | (refine L_cutS (d := some 57) rfl rfl rfl (by rfl) Tryd.underlying22 el_api_Digest (by decide) (by first | assumption | exact hst.old (by decide) (by assumption) | exact hst.sl 0 rfl | exact hst.sl 1 rfl | exact hst.sl 2 rfl | exact hst.sl 3 rfl) k n _ (Or.inr ⟨_, _, rfl, by first | exact ev_tmp rfl | (rw [ev_tmp rfl]; congr 1; omega)⟩) (Or.inl ⟨rfl, rfl, rfl⟩) (Or.inl ⟨rfl, rfl⟩) (by omega) (by omega) (by omega) (by omega) ?_; intro A57 c57 hs57)) | fail)
   refine pn_q rfl rfl ?_; go_wp2_with fail
   refine pn_q rfl rfl ?_; go_wp2_with (first | (first | (refine L_loadA (d := some 62) rfl rfl rfl (by rfl) Tryd.underlying25 rfl el_api_Digest (by first | exact hst.get 0 rfl | exact hst.get 1 rfl | exact hst.get 2 rfl | exact hst.get 3 rfl) (by first | rfl | exact Dig.size _ | (simp; done)) ?_) | (refine L_loadM (d := some 62) rfl rfl rfl (by rfl) Tryd.underlying25 rfl el_api_Digest (by first | assumption) (by first | rfl | exact Dig.size _ | (simp; done)) ?_)) | fail)
   refine pn_two rfl rfl ?_ ?_
   ·go_wp2_with (first | (go_at_call 58; (try clear hnew); refine (HI.out A57 c57 _ (HT.out.of hst) (by rw [← H2.out]; exact hst.old (by decide) hs57)).mono ?_; rintro e Wk7 ⟨O61, c61, rfl, hnew⟩; replace hst := hst.trans hnew; simp only [List.cons_append, List.nil_append] at hst) | fail); refine ⟨by first | exact Below.refl _ _ | exact hnew.below, ?_⟩
    refine pn_g rfl ?_; go_wp2_with (first | (refine L_buildS (d := some 63) rfl rfl rfl [_] (bs_1 (ev_tmp rfl)) rfl Tryd.underlying22 el_api_Digest rfl (by first | (simp [Value.cells]; done) | (simp [Value.cells, Dig.size]; done)) (by decide) (by decide) ?_; (try clear hnew); intro g63 W63 hnew; replace hst := hst.trans hnew; simp only [List.cons_append, List.nil_append] at hst; simp only [List.flatMap_cons, List.flatMap_nil, List.append_nil, Value.cells, List.toList_toArray] at hst) | fail); refine ⟨by first | exact Below.refl _ _ | exact hnew.below, ?_⟩
    refine pn_e rfl ?_; go_wp2_with (first | (go_at_call 58; (try clear hnew); refine (HI.out A57 c57 _ (HT.out.of hst) (by rw [← H2.out]; exact hst.old (by decide) hs57)).mono ?_; rintro e Wk7 ⟨O61, c61, rfl, hnew⟩; replace hst := hst.trans hnew; simp only [List.cons_append, List.nil_append] at hst) | (refine L_appendO (d := some 64) rfl rfl hst rfl (by rfl) (by rfl) Tryd.underlying22 el_api_Digest rfl (by decide) (by decide) 0 rfl (by first | rfl | omega) (by first | exact hst.sl 0 rfl | exact hst.sl 1 rfl | exact hst.sl 2 rfl | exact hst.sl 3 rfl | assumption | exact hst.old (by decide) (by assumption)) (by first | exact oneCell_bytes | (simp [Value.oneCell']; done) | exact dig_oneL _) (by omega) ?_; clear hst; intro A64 c64 W64 hst; simp only [List.set_cons_zero, List.set_cons_succ, List.nil_append, Nat.zero_add] at hst) | (refine L_appendO (d := some 64) rfl rfl hst rfl (by rfl) (by rfl) Tryd.underlying22 el_api_Digest rfl (by decide) (by decide) 1 rfl (by first | rfl | omega) (by first | exact hst.sl 0 rfl | exact hst.sl 1 rfl | exact hst.sl 2 rfl | exact hst.sl 3 rfl | assumption | exact hst.old (by decide) (by assumption)) (by first | exact oneCell_bytes | (simp [Value.oneCell']; done) | exact dig_oneL _) (by omega) ?_; clear hst; intro A64 c64 W64 hst; simp only [List.set_cons_zero, List.set_cons_succ, List.nil_append, Nat.zero_add] at hst) | (refine L_appendO (d := some 64) rfl rfl hst rfl (by rfl) (by rfl) Tryd.underlying22 el_api_Digest rfl (by decide) (by decide) 2 rfl (by first | rfl | omega) (by first | exact hst.sl 0 rfl | exact hst.sl 1 rfl | exact hst.sl 2 rfl | exact hst.sl 3 rfl | assumption | exact hst.old (by decide) (by assumption)) (by first | exact oneCell_bytes | (simp [Value.oneCell']; done) | exact dig_oneL _) (by omega) ?_; clear hst; intro A64 c64 W64 hst; simp only [List.set_cons_zero, List.set_cons_succ, List.nil_append, Nat.zero_add] at hst) | (refine L_appendO (d := some 64) rfl rfl hst rfl (by rfl) (by rfl) Tryd.underlying22 el_api_Digest rfl (by decide) (by decide) 3 rfl (by first | rfl | omega) (by first | exact hst.sl 0 rfl | exact hst.sl 1 rfl | exact hst.sl 2 rfl | exact hst.sl 3 rfl | assumption | exact hst.old (by decide) (by assumption)) (by first | exact oneCell_bytes | (simp [Value.oneCell']; done) | exact dig_oneL _) (by omega) ?_; clear hst; intro A64 c64 W64 hst; simp only [List.set_cons_zero, List.set_cons_succ, List.nil_append, Nat.zero_add] at hst) | (refine L_appendF (d := some 64) rfl rfl rfl (by rfl) (by rfl) Tryd.underlying22 el_api_Digest rfl (by decide) (by assumption) (by first | assumption | exact hst.sl 0 rfl | exact hst.sl 1 rfl | exact hst.sl 2 rfl | exact hst.sl 3 rfl | assumption | exact hst.old (by decide) (by assumption)) (by omega) (by omega) (by omega) ?_; (try clear hnew); intro A64 c64 W64 hnew; replace hst := hst.trans hnew; simp only [List.cons_append, List.nil_append] at hst) | fail)
    refine pn_g rfl ?_; go_wp2_with fail; refine ⟨by first | exact Below.refl _ _ | exact hnew.below, ?_⟩
    refine pn_nil ?_
    go_wp2_with fail
    go_ret
    refine ⟨_, _, rfl, ?_⟩
    rw [HB.out] at hst
    first | exact hst.pick [0] (by decide) | exact hst.pick [1] (by decide)
   ·go_wp2_with (first | (refine L_buildS (d := some 63) rfl rfl rfl [_] (bs_1 (ev_tmp rfl)) rfl Tryd.underlying22 el_api_Digest rfl (by first | (simp [Value.cells]; done) | (simp [Value.cells, Dig.size]; done)) (by decide) (by decide) ?_; (try clear hnew); intro g63 W63 hnew; replace hst := hst.trans hnew; simp only [List.cons_append, List.nil_append] at hst; simp only [List.flatMap_cons, List.flatMap_nil, List.append_nil, Value.cells, List.toList_toArray] at hst) | fail); refine ⟨by first | exact Below.refl _ _ | exact hnew.below, ?_⟩
    refine pn_g rfl ?_; go_wp2_with (first | (go_at_call 58; (try clear hnew); refine (HI.out A57 c57 _ (HT.out.of hst) (by rw [← H2.out]; exact hst.old (by decide) hs57)).mono ?_; rintro e Wk7 ⟨O61, c61, rfl, hnew⟩; replace hst := hst.trans hnew; simp only [List.cons_append, List.nil_append] at hst) | fail); refine ⟨by first | exact Below.refl _ _ | exact hnew.below, ?_⟩
    refine pn_e rfl ?_; go_wp2_with (first | (go_at_call 58; (try clear hnew); refine (HI.out A57 c57 _ (HT.out.of hst) (by rw [← H2.out]; exact hst.old (by decide) hs57)).mono ?_; rintro e Wk7 ⟨O61, c61, rfl, hnew⟩; replace hst := hst.trans hnew; simp only [List.cons_append, List.nil_append] at hst) | (refine L_appendO (d := some 64) rfl rfl hst rfl (by rfl) (by rfl) Tryd.underlying22 el_api_Digest rfl (by decide) (by decide) 0 rfl (by first | rfl | omega) (by first | exact hst.sl 0 rfl | exact hst.sl 1 rfl | exact hst.sl 2 rfl | exact hst.sl 3 rfl | assumption | exact hst.old (by decide) (by assumption)) (by first | exact oneCell_bytes | (simp [Value.oneCell']; done) | exact dig_oneL _) (by omega) ?_; clear hst; intro A64 c64 W64 hst; simp only [List.set_cons_zero, List.set_cons_succ, List.nil_append, Nat.zero_add] at hst) | (refine L_appendO (d := some 64) rfl rfl hst rfl (by rfl) (by rfl) Tryd.underlying22 el_api_Digest rfl (by decide) (by decide) 1 rfl (by first | rfl | omega) (by first | exact hst.sl 0 rfl | exact hst.sl 1 rfl | exact hst.sl 2 rfl | exact hst.sl 3 rfl | assumption | exact hst.old (by decide) (by assumption)) (by first | exact oneCell_bytes | (simp [Value.oneCell']; done) | exact dig_oneL _) (by omega) ?_; clear hst; intro A64 c64 W64 hst; simp only [List.set_cons_zero, List.set_cons_succ, List.nil_append, Nat.zero_add] at hst) | (refine L_appendO (d := some 64) rfl rfl hst rfl (by rfl) (by rfl) Tryd.underlying22 el_api_Digest rfl (by decide) (by decide) 2 rfl (by first | rfl | omega) (by first | exact hst.sl 0 rfl | exact hst.sl 1 rfl | exact hst.sl 2 rfl | exact hst.sl 3 rfl | assumption | exact hst.old (by decide) (by assumption)) (by first | exact oneCell_bytes | (simp [Value.oneCell']; done) | exact dig_oneL _) (by omega) ?_; clear hst; intro A64 c64 W64 hst; simp only [List.set_cons_zero, List.set_cons_succ, List.nil_append, Nat.zero_add] at hst) | (refine L_appendO (d := some 64) rfl rfl hst rfl (by rfl) (by rfl) Tryd.underlying22 el_api_Digest rfl (by decide) (by decide) 3 rfl (by first | rfl | omega) (by first | exact hst.sl 0 rfl | exact hst.sl 1 rfl | exact hst.sl 2 rfl | exact hst.sl 3 rfl | assumption | exact hst.old (by decide) (by assumption)) (by first | exact oneCell_bytes | (simp [Value.oneCell']; done) | exact dig_oneL _) (by omega) ?_; clear hst; intro A64 c64 W64 hst; simp only [List.set_cons_zero, List.set_cons_succ, List.nil_append, Nat.zero_add] at hst) | (refine L_appendF (d := some 64) rfl rfl rfl (by rfl) (by rfl) Tryd.underlying22 el_api_Digest rfl (by decide) (by assumption) (by first | assumption | exact hst.sl 0 rfl | exact hst.sl 1 rfl | exact hst.sl 2 rfl | exact hst.sl 3 rfl | assumption | exact hst.old (by decide) (by assumption)) (by omega) (by omega) (by omega) ?_; (try clear hnew); intro A64 c64 W64 hnew; replace hst := hst.trans hnew; simp only [List.cons_append, List.nil_append] at hst) | fail)
    refine pn_g rfl ?_; go_wp2_with fail; refine ⟨by first | exact Below.refl _ _ | exact hnew.below, ?_⟩
    refine pn_nil ?_
    go_wp2_with fail
    go_ret
    refine ⟨_, _, rfl, ?_⟩
    rw [HB.out] at hst
    first | exact hst.pick [0] (by decide) | exact hst.pick [1] (by decide)
set_option maxHeartbeats 1000000 in
theorem gProof_any (ls : List Dig) (A : Option Addr) (n c m : Nat) (w : World) (hT : Tb w) (hx : SlR w A n c 32 (digsL ls)) (h1 : 1 ≤ m) (hmn : m ≤ n) (hn : n ≤ 256) :
  Calls Tryd.prog 22 #[.slice A n c, .int .i64 (m : Int)] w fun e w' => ∃ O oc, e = .returned (.tuple #[.slice O (plN n m true) oc, .nilIface]) ∧ St w w' [.row O (plN n m true) oc 25 32 (digsL (gpN ls m true))] := by
 have hst := St.refl w
 have HP := Lib.hid (gproof_any n ls A c m true w hT hx h1 hmn hn)
 have t1 : ¬ (256 : Int) < (n : Int) := by omega
 have t2 : ¬ (m : Int) < 1 := by omega
 have t3 : ¬ (n : Int) < (m : Int) := by omega
 go_enter Tryd.func22, Tryd.ntmps22
 go_wp2_with (first
  | (go_at_call 58; refine HP.out.mono ?_; rintro e W21 ⟨O, oc, rfl, hnew⟩; replace hst := hnew)
  | fail)
 exact bp_two rfl rfl rfl rfl ⟨_, _, rfl, hst⟩
theorem gProof_full (A : Option Addr) (n c : Nat) (m : Int) (w : World) (hn : 256 < n) :
  Calls Tryd.prog 22 #[.slice A n c, .int .i64 m] w fun e w' => e = .returned (.tuple #[.slice none 0 0, errV 4]) ∧ St w w' [] := by
 have hst := St.refl w
 have h1 : (256 : Int) < (n : Int) := by omega
 go_enter Tryd.func22, Tryd.ntmps22
 go_wp2_with (first
  | fail)
 exact bp_two rfl rfl rfl rfl ⟨rfl, hst⟩
theorem gProof_range (A : Option Addr) (n c : Nat) (m : Int) (w : World) (hn : n ≤ 256) (hi : m < 1 ∨ (n : Int) < m) :
  Calls Tryd.prog 22 #[.slice A n c, .int .i64 m] w fun e w' => e = .returned (.tuple #[.slice none 0 0, errV 2]) ∧ St w w' [] := by
 have hst := St.refl w
 have h1 : ¬ (256 : Int) < (n : Int) := by omega
 by_cases h2 : m < 1
 ·go_enter Tryd.func22, Tryd.ntmps22
  go_wp2_with (first
   | fail)
  exact bp_two rfl rfl rfl rfl ⟨rfl, hst⟩
 ·have h3 : (n : Int) < m := by omega
  go_enter Tryd.func22, Tryd.ntmps22
  go_wp2_with (first
   | fail)
  exact bp_two rfl rfl rfl rfl ⟨rfl, hst⟩
end Go.Proofs.YtfpppmamkmaneaaDoor

set_option maxRecDepth 20000
set_option linter.unusedSimpArgs false
set_option linter.unusedVariables false
namespace Go.Proofs.YtfpppmamkmaneaaDoor
open Go.RowKit
def fArr (old : Dig) (A : Option Addr) (n c : Nat) : Array Value := old.arr.push (.slice A n c)
theorem fArr_size (old : Dig) (A : Option Addr) (n c : Nat) : (fArr old A n c).size = 33 := by simp [fArr, Dig.size]
theorem fArr_at (old : Dig) (A : Option Addr) (n c : Nat) : (fArr old A n c)[32]? = some (.slice A n c) := by
 have h := Dig.size old
 rw [fArr, Array.getElem?_push, if_pos h.symm]
theorem fArr_set (old : Dig) (A B : Option Addr) (n c m d : Nat) : (fArr old A n c).setIfInBounds 32 (.slice B m d) = fArr old B m d := by
 have h := Dig.size old
 apply Array.ext_getElem?
 intro i
 rw [Array.getElem?_setIfInBounds, fArr_size, fArr, fArr, Array.getElem?_push, Array.getElem?_push, h]
 by_cases hi : 32 = i
 ·subst hi; simp
 ·rw [if_neg hi, if_neg (by omega), if_neg (by omega)]
theorem fArr_old {W : World} {g : Nat} {t : TypeId} {fr : Nat × Nat} {old : Dig} {A : Option Addr} {n c : Nat} (h : W.heap[g]? = some (.cells (fArr old A n c) t fr)) : W.rangeAt g 0 old.arr.toList := rangeAt_of_cells h fun j v hv => by
 have hj : j < 32 := by
  have := (List.getElem?_eq_some_iff.1 hv).1
  rw [Array.length_toList, Dig.size] at this
  exact this
 have h := Dig.size old
 rw [Nat.zero_add, fArr, Array.getElem?_push, if_neg (by omega)]
 simpa using hv
theorem el_grow_folder : ElemIs Tryd.prog 86 (.agg (fArr zeroD none 0 0)) 33 56 := by unfold ElemIs; kernel_rfl
theorem el_S_api_Digest : ElemIs Tryd.prog 22 (.slice none 0 0) 1 24 := by unfold ElemIs; kernel_rfl
theorem el_error : ElemIs Tryd.prog 27 (.nilIface) 1 16 := by unfold ElemIs; kernel_rfl
section
variable {ops : Array Oper} {rest : List Oper} {o : Oper} {a : Act} {W : World} {Q : Exit → Act → World → Prop} {d : Option Tmp}
theorem L_buildF (hd : o.dst = d) (hw : Region.wanted o (yielded ops a.tmps) = true) {x y : Operand} (ho : o.op = .build 86 #[(0, x), (1, y)]) {old : Dig} (hx : a.eval x = .agg old.arr) {A : Option Addr} {n c : Nat} (hy : a.eval y = .slice A n c)
  (h : wpList Tryd.prog ops Q rest (a.put d (.agg (fArr old A n c))) W) : wpList Tryd.prog ops Q (o :: rest) a W := by
 refine L_val hd hw ?_ h
 unfold execOp
 simp only [ho]
 have hz := el_grow_folder.run_zero W
 have h1 := el_api_Digest.run_size W
 have h2 := el_S_api_Digest.run_size W
 have h3 : (fArr zeroD none 0 0).size = 33 := fArr_size _ _ _ _
 have h4 : Array.foldl (fun (cs : Array Value) (x : Value × Nat) => cs.setIfInBounds x.snd x.fst) (fArr zeroD none 0 0) old.arr.zipIdx 0 32 = fArr old none 0 0 := by
  have h := Dig.size old
  have h' := Dig.size zeroD
  have e1 : 32 = old.arr.zipIdx.size := by simp [h]
  have h5 := fold_put old.arr.toList 0 0 (fArr zeroD none 0 0) (by simp [h, h3])
  simp only [Nat.zero_add] at h5
  rw [e1, ← Array.foldl_toList, Array.toList_zipIdx, h5]
  unfold putAt fArr
  apply Array.ext'
  simp [h, h']
 simp [Instr.build, hz, run_underlying Tryd.underlying86, h1, h2, hx, hy, Value.cells, Instr.fill, h3, Dig.size, h4, fArr_size, fArr_set]
end
section
variable {P : Program} {a : Act} {W : World}
theorem bp_cell2 {fn : Func} {R : Ending → World → Prop} {p q : Tmp} {ty ty' : TypeId} (hr : fn.results = #[.cell p ty, .cell q ty']) (hd : a.defers = []) {g g' : Nat} (hp : a.tmps.toList[p]? = some (.pointer (some ⟨g, 0, none⟩))) (hq : a.tmps.toList[q]? = some (.pointer (some ⟨g', 0, none⟩))) {t t' : TypeId} {cs cs' : Array Value} {fr fr' : Nat × Nat} (hg : W.heap[g]? = some (.cells cs t fr)) (hg' : W.heap[g']? = some (.cells cs' t' fr'))
  {td td' : TypeDesc} (hu : P.underlying ty = some td) (hrow : td.isRow = true) (hu' : P.underlying ty' = some td') (hrow' : td'.isRow = true) {z z' : Value} {s s' b b' : Nat} (he : ElemIs P ty z s b) (hs : cs.size = s) (he' : ElemIs P ty' z' s' b') (hs' : cs'.size = s') (hR : R (.returned (.tuple #[.agg cs, .agg cs'])) W) : bodyPost P fn R .ret a W := by
 have hp' : a.tmps[p]?.getD undef = .pointer (some ⟨g, 0, none⟩) := by
  have : a.tmps[p]? = some (.pointer (some ⟨g, 0, none⟩)) := by simpa using hp
  simp [this]
 have hq' : a.tmps[q]?.getD undef = .pointer (some ⟨g', 0, none⟩) := by
  have : a.tmps[q]? = some (.pointer (some ⟨g', 0, none⟩)) := by simpa using hq
  simp [this]
 refine bodyPost_ret ?_ hd hR
 simp [results, hr, hp', hq', asAddr, run_loadVar_row W g t ty cs fr td hg hu (by cases td <;> simp_all [TypeDesc.isRow]) (by rw [he.size, hs]), run_loadVar_row W g' t' ty' cs' fr' td' hg' hu' (by cases td' <;> simp_all [TypeDesc.isRow]) (by rw [he'.size, hs'])]
end
theorem St.keep3 {w0 W : World} {L : List Res} {a x y z : Res} (h : St w0 W (a :: x :: y :: z :: L)) : St w0 W (a :: L) := h.drop ((((List.Sublist.refl L).cons z).cons y).cons x |>.cons_cons a)
theorem St.keep2 {w0 W : World} {L : List Res} {a x y : Res} (h : St w0 W (a :: x :: y :: L)) : St w0 W (a :: L) := h.drop (((List.Sublist.refl L).cons y).cons x |>.cons_cons a)
end Go.Proofs.YtfpppmamkmaneaaDoor

set_option maxRecDepth 20000
set_option linter.unusedSimpArgs false
set_option linter.unusedVariables false
namespace Go.Proofs.YtfpppmamkmaneaaDoor
open Go.RowKit
section
variable {P : Program} {ops : Array Oper} {Q : Act → World → Prop} {md : Region.Mode}
inductive Pm where
 | nil
 | one (i k : Nat) (r : Pm)
 | two (i ki : Nat) (r : Pm) (j kj : Nat) (s : Pm)
def Pm.len : Pm → Nat
 | .nil => 0
 | .one _ _ r => r.len + 1
 | .two _ _ r _ _ _ => r.len + 1
def Pm.f : Pm → Nat → Bool
 | .nil, _ => false
 | .one i k r, x => (i == x && k != 1) || r.f x
 | .two i ki r j kj s, x => (i == x && ki == 2) || (j == x && kj == 2) || r.f x || s.f x
def wpPm (P : Program) (ops : Array Oper) (Q : Act → World → Prop) : Pm → Act → World → Prop
 | .nil, a, w => Q a w
 | .one i k r, a, w => ∃ o, ops[i]? = some o ∧ (k = 0 → CalmV P (execOp a.eval o)) ∧ (k = 3 → PureV P (execOp a.eval o)) ∧
   wpList P ops (onlyN fun a' w' => (k = 2 → Below w.heap.size w w') ∧ wpPm P ops Q r a' w') [o] a w
 | .two i ki r j kj s, a, w => (∃ o, ops[i]? = some o ∧ wpList P ops (onlyN fun a' w' => (ki = 2 → Below w.heap.size w w') ∧ wpPm P ops Q r a' w') [o] a w) ∧
   (∃ o, ops[j]? = some o ∧ wpList P ops (onlyN fun a' w' => (kj = 2 → Below w.heap.size w w') ∧ wpPm P ops Q s a' w') [o] a w)
def planM (md : Region.Mode) (ops : Array Oper) (F : Nat → Bool) : Pm → Array Bool → Bool
 | .nil, listed => (Region.ready md ops listed).isEmpty
 | .one i k r, listed =>
  (if k == 0 then
   (Region.ready md ops listed).contains i && (match ops[i]? with
    | none => false
    | some oi => ((waits md ops i).all fun j => !listed.getD j true && match ops[j]? with
      | some oj => oj.after.any (fun e => Region.binds md e && (e.on == i || (waits md ops i).contains e.on))
      | none => true) && (List.range ops.size).all fun j => j == i || listed.getD j true || match ops[j]? with
     | some oj => (waits md ops i).contains j || (oi.apart ops oj && F j)
     | none => true)
  else if k == 3 then
   (Region.ready md ops listed).contains i && (match ops[i]? with
    | none => false
    | some oi => ((waits md ops i).all fun j => !listed.getD j true && match ops[j]? with
      | some oj => oj.after.any (fun e => Region.binds md e && (e.on == i || (waits md ops i).contains e.on))
      | none => true) && (List.range ops.size).all fun j => j == i || listed.getD j true || match ops[j]? with
     | some oj => (waits md ops i).contains j || oi.apart ops oj
     | none => true)
  else Region.ready md ops listed == [i] && (k == 1 || k == 2) && (k == 2 || !F i)) && planM md ops F r (listed.setIfInBounds i true)
 | .two i ki r j kj s, listed => Region.ready md ops listed == [i, j] && (ki == 2 || !F i) && (kj == 2 || !F j) && r.len == s.len && planM md ops F r (listed.setIfInBounds i true) && planM md ops F s (listed.setIfInBounds j true)
theorem wpAnyF_of_pm {F : Nat → Bool} (hs : Region.noSelect ops = true) : ∀ (p : Pm) (listed : Array Bool) (a : Act) (w : World), planM md ops F p listed = true → wpPm P ops Q p a w → wpAnyF P md ops F Q p.len listed a w
 | .nil, listed, a, w, hp, h => ⟨by simpa [planM] using hp, h⟩
 | .two i ki r j kj s, listed, a, w, hp, h => by
  obtain ⟨⟨oi, hoi, hli⟩, oj, hoj, hlj⟩ := h
  simp only [planM, Bool.and_eq_true, beq_iff_eq] at hp
  obtain ⟨⟨⟨⟨⟨hr, hki⟩, hkj⟩, hlen⟩, h1⟩, h2⟩ := hp
  refine ⟨fun h0 => absurd h0 (by simp [hr]), fun x hx => ?_⟩
  rw [hr] at hx
  rcases List.mem_cons.1 hx with rfl | hx
  ·refine wpOp_mono (fun a' w' hh => ⟨fun hF => ?_, wpAnyF_of_pm hs r _ _ _ h1 hh.2⟩) (wpOp_of_list hoi hli)
   refine hh.1 ?_
   simpa [hF] using hki
  ·obtain rfl : x = j := by simpa using hx
   refine wpOp_mono (fun a' w' hh => ⟨fun hF => ?_, ?_⟩) (wpOp_of_list hoj hlj)
   ·refine hh.1 ?_
    simpa [hF] using hkj
   ·have := wpAnyF_of_pm hs s _ _ _ h2 hh.2
    rw [← hlen] at this
    exact this
 | .one i k r, listed, a, w, hp, h => by
  obtain ⟨o, ho, hcalm, hpure, hl⟩ := h
  unfold planM at hp
  simp only [Bool.and_eq_true] at hp
  obtain ⟨h1, h2⟩ := hp
  unfold wpList at hl
  by_cases hk3 : k = 3
  ·subst hk3
   have hk' : ((3 : Nat) == 0) = false := rfl
   simp only [hk', Bool.false_eq_true, if_false, beq_self_eq_true, if_true, Bool.and_eq_true, ho] at h1
   obtain ⟨hr, hwt, hf⟩ := h1
   have hr' : i ∈ Region.ready md ops listed := by simpa using hr
   have hw1 : ∀ j ∈ waits md ops i, listed.getD j true = false := fun j hj => by
    have h3 := List.all_eq_true.1 hwt j hj
    simp only [Bool.and_eq_true, Bool.not_eq_true'] at h3
    exact h3.1
   have hw2 : ∀ j oj, ops[j]? = some oj → j ∈ waits md ops i → ∃ e ∈ oj.after, Region.binds md e = true ∧ (e.on = i ∨ e.on ∈ waits md ops i) := fun j oj hoj hj => by
    have h3 := List.all_eq_true.1 hwt j hj
    simp only [Bool.and_eq_true, hoj] at h3
    obtain ⟨e, he, hb⟩ := Array.any_eq_true'.1 h3.2
    simp only [Bool.and_eq_true, Bool.or_eq_true, beq_iff_eq, List.contains_iff_mem] at hb
    exact ⟨e, he, hb.1, hb.2⟩
   have hfree : ∀ j oj, ops[j]? = some oj → j ≠ i → listed.getD j true = false → j ∉ waits md ops i → o.apart ops oj = true := by
    intro j oj hj hne hun hno
    have h3 := List.all_eq_true.1 hf j (List.mem_range.2 (Array.getElem?_eq_some_iff.1 hj).1)
    simp only [hj, Bool.or_eq_true, beq_iff_eq, hne, false_or, hun, Bool.false_eq_true, List.contains_iff_mem] at h3
    rcases h3 with h3 | h3
    ·exact absurd h3 hno
    ·exact h3
   by_cases hw : Region.wanted o (yielded ops a.tmps) = true
   ·rw [if_pos hw] at hl
    rcases hl with hl | ⟨_, hlets⟩
    case inr => exact absurd hlets onlyN_out
    unfold Oper.wp at hl
    cases hrun : (execOp a.eval o).run P w with
    | ok n w' =>
     obtain ⟨⟨v, rfl⟩, rfl, hst⟩ := hpure rfl w n w' hrun
     rw [hrun] at hl
     simp only [Oper.upon, wpList] at hl
     exact wpAnyF_firstP ho (Region.noSelect_spec hs) hw2 r.len listed a w' hw1 hfree hr' (.inl ⟨hw, hst⟩)
      (wpAnyF_of_pm hs r _ _ _ h2 hl.2)
    | halt x w' =>
     rw [hrun] at hl
     cases x <;> simp only [Oper.upon] at hl
     exact (hl : False).elim
   ·rw [if_neg hw] at hl
    exact wpAnyF_firstP ho (Region.noSelect_spec hs) hw2 r.len listed a w hw1 hfree hr' (.inr ⟨by simpa using hw, rfl⟩)
      (wpAnyF_of_pm hs r _ _ _ h2 hl.2)
  by_cases hk : k = 0
  ·subst hk
   simp only [beq_self_eq_true, if_true, Bool.and_eq_true, ho] at h1
   obtain ⟨hr, hwt, hf⟩ := h1
   have hr' : i ∈ Region.ready md ops listed := by simpa using hr
   have hw1 : ∀ j ∈ waits md ops i, listed.getD j true = false := fun j hj => by
    have h3 := List.all_eq_true.1 hwt j hj
    simp only [Bool.and_eq_true, Bool.not_eq_true'] at h3
    exact h3.1
   have hw2 : ∀ j oj, ops[j]? = some oj → j ∈ waits md ops i → ∃ e ∈ oj.after, Region.binds md e = true ∧ (e.on = i ∨ e.on ∈ waits md ops i) := fun j oj hoj hj => by
    have h3 := List.all_eq_true.1 hwt j hj
    simp only [Bool.and_eq_true, hoj] at h3
    obtain ⟨e, he, hb⟩ := Array.any_eq_true'.1 h3.2
    simp only [Bool.and_eq_true, Bool.or_eq_true, beq_iff_eq, List.contains_iff_mem] at hb
    exact ⟨e, he, hb.1, hb.2⟩
   have hfree : ∀ j oj, ops[j]? = some oj → j ≠ i → listed.getD j true = false → j ∉ waits md ops i → o.apart ops oj = true ∧ F j = true := by
    intro j oj hj hne hun hno
    have h3 := List.all_eq_true.1 hf j (List.mem_range.2 (Array.getElem?_eq_some_iff.1 hj).1)
    simp only [hj, Bool.or_eq_true, beq_iff_eq, hne, false_or, hun, Bool.false_eq_true, Bool.and_eq_true, List.contains_iff_mem] at h3
    rcases h3 with h3 | h3
    ·exact absurd h3 hno
    ·exact h3
   by_cases hw : Region.wanted o (yielded ops a.tmps) = true
   ·rw [if_pos hw] at hl
    rcases hl with hl | ⟨_, hlets⟩
    case inr => exact absurd hlets onlyN_out
    unfold Oper.wp at hl
    cases hrun : (execOp a.eval o).run P w with
    | ok n w' =>
     obtain ⟨⟨v, rfl⟩, rfl, hst⟩ := hcalm rfl w n w' hrun
     rw [hrun] at hl
     simp only [Oper.upon, wpList] at hl
     exact wpAnyF_firstT (wb := w') ho (Region.noSelect_spec hs) hw2 r.len listed a w' (Below.refl _ _) hw1 hfree hr' (.inl ⟨hw, hst⟩)
      (wpAnyF_of_pm hs r _ _ _ h2 hl.2)
    | halt x w' =>
     rw [hrun] at hl
     cases x <;> simp only [Oper.upon] at hl
     exact (hl : False).elim
   ·rw [if_neg hw] at hl
    exact wpAnyF_firstT (wb := w) ho (Region.noSelect_spec hs) hw2 r.len listed a w (Below.refl _ _) hw1 hfree hr' (.inr ⟨by simpa using hw, rfl⟩)
      (wpAnyF_of_pm hs r _ _ _ h2 hl.2)
  ·have hk' : (k == 0) = false := by simpa using hk
   have hk3' : (k == 3) = false := by simpa using hk3
   simp only [hk', hk3', Bool.false_eq_true, if_false, Bool.and_eq_true] at h1
   obtain ⟨⟨hr, _⟩, hF⟩ := h1
   have hr' : Region.ready md ops listed = [i] := by simpa using hr
   refine ⟨fun h0 => absurd h0 (by simp [hr']), fun j hj => ?_⟩
   obtain rfl : j = i := by simpa [hr'] using hj
   have hgr : ∀ (w' : World), (k = 2 → Below w.heap.size w w') → F j = true → Below w.heap.size w w' := fun w' hh hFj => by
    refine hh ?_
    simp only [Bool.or_eq_true, beq_iff_eq, hFj, Bool.not_true, Bool.false_eq_true, or_false] at hF
    exact hF
   unfold Go.wpOp
   simp only [ho]
   split
   ·rename_i hw
    rw [if_pos hw] at hl
    rcases hl with hl | ⟨_, hlets⟩
    case inr => exact absurd hlets onlyN_out
    refine .inl ?_
    unfold Oper.wp at *
    generalize (execOp a.eval o).run P w = rr at *
    cases rr with
    | ok n w' =>
     cases n <;> simp only [Oper.upon] at hl ⊢
     case value u => exact ⟨hgr _ hl.1, wpAnyF_of_pm hs r _ _ _ h2 hl.2⟩
     case skip => exact ⟨hgr _ hl.1, wpAnyF_of_pm hs r _ _ _ h2 hl.2⟩
     case defer d => exact ⟨hgr _ hl.1, wpAnyF_of_pm hs r _ _ _ h2 hl.2⟩
     case enter f args =>
      refine Calls.mono hl fun e w'' he => ?_
      cases e with
      | returned u => exact ⟨hgr _ he.1, wpAnyF_of_pm hs r _ _ _ h2 he.2⟩
      | panicked c => exact (he : False).elim
      | outgrown => exact absurd he onlyN_out
     case row row args => exact Rows.mono hl fun u w'' he => ⟨hgr _ he.1, wpAnyF_of_pm hs r _ _ _ h2 he.2⟩
    | halt x w' =>
     cases x <;> simp only [Oper.upon] at hl ⊢
     exact (hl : False).elim
   ·rename_i hw
    rw [if_neg hw] at hl
    exact ⟨hgr _ hl.1, wpAnyF_of_pm hs r _ _ _ h2 hl.2⟩
def planMOK (ops : Array Oper) (p : Pm) : Bool :=
 Region.noSelect ops && planM .any ops p.f p (Array.replicate ops.size false) && p.len == ops.size
theorem wp_region_pm {id : Nat} {l : List Oper} {Q : Exit → Act → World → Prop} {a : Act} {w : World} (p : Pm) (hm : P.follows .mixedOrders = true) (hp : planMOK l.toArray p = true)
  (h : wpPm P l.toArray (fun a w => Q .normal a w) p a w.drew) : (Code.region id l.toArray true).wp P Q a w := by
 simp only [planMOK, Bool.and_eq_true, beq_iff_eq] at hp
 obtain ⟨⟨hs, hp⟩, hlen⟩ := hp
 refine Code.wp_mono (Q := onlyN fun a w => Q .normal a w) (fun e a w q => ?_) (wp_region_any hm ?_)
 ·cases e <;> first | exact q | exact (q : False).elim
 ·have := wpAnyF_of_pm hs p (Array.replicate l.toArray.size false) a w.drew hp h
  rw [hlen] at this
  exact wpAny_of_F _ _ _ _ this
theorem pm_nil {a : Act} {w : World} (h : Q a w) : wpPm P ops Q .nil a w := h
theorem pm_q {i : Nat} {r : Pm} {o : Oper} {a : Act} {w : World} (ho : ops[i]? = some o) (hc : calmK a.eval o.op = true)
  (h : wpList P ops (Exit.then (wpPm P ops Q r) fun _ _ _ => False) [o] a w) : wpPm P ops Q (.one i 0 r) a w :=
 ⟨o, ho, fun _ => calmV_k hc, fun e => absurd e (by decide), by
  have : (fun (a' : Act) (w' : World) => ((0 : Nat) = 2 → Below w.heap.size w w') ∧ wpPm P ops Q r a' w') = wpPm P ops Q r := by
   funext a' w'; simp
  rw [this]; exact h⟩
theorem pm_qv {i : Nat} {r : Pm} {o : Oper} {a : Act} {w : World} (ho : ops[i]? = some o) (hc : CalmV P (execOp a.eval o))
  (h : wpList P ops (Exit.then (wpPm P ops Q r) fun _ _ _ => False) [o] a w) : wpPm P ops Q (.one i 0 r) a w :=
 ⟨o, ho, fun _ => hc, fun e => absurd e (by decide), by
  have : (fun (a' : Act) (w' : World) => ((0 : Nat) = 2 → Below w.heap.size w w') ∧ wpPm P ops Q r a' w') = wpPm P ops Q r := by
   funext a' w'; simp
  rw [this]; exact h⟩
theorem pm_qf {i : Nat} {r : Pm} {o : Oper} {a : Act} {w : World} (ho : ops[i]? = some o) {s : TypeId} {x : Operand} {f : Nat} (hop : o.op = .fieldAddr s x f) (hf : fieldB P s f = true)
  (h : wpList P ops (Exit.then (wpPm P ops Q r) fun _ _ _ => False) [o] a w) : wpPm P ops Q (.one i 0 r) a w := by
 refine pm_qv ho ?_ h
 unfold execOp
 simp only [hop]
 refine CalmV.of (Calm.fieldAt_slot _ _ _ (fun fs y hu hy => ?_))
 simp only [fieldB, hu, hy] at hf
 exact hf
theorem pm_p {i : Nat} {r : Pm} {o : Oper} {a : Act} {w : World} (ho : ops[i]? = some o) (hc : pureK o.op = true)
  (h : wpList P ops (Exit.then (wpPm P ops Q r) fun _ _ _ => False) [o] a w) : wpPm P ops Q (.one i 3 r) a w :=
 ⟨o, ho, fun e => absurd e (by decide), fun _ => pureV_k hc, by
  have : (fun (a' : Act) (w' : World) => ((3 : Nat) = 2 → Below w.heap.size w w') ∧ wpPm P ops Q r a' w') = wpPm P ops Q r := by
   funext a' w'; simp
  rw [this]; exact h⟩
theorem pm_e {i : Nat} {r : Pm} {o : Oper} {a : Act} {w : World} (ho : ops[i]? = some o)
  (h : wpList P ops (Exit.then (wpPm P ops Q r) fun _ _ _ => False) [o] a w) : wpPm P ops Q (.one i 1 r) a w :=
 ⟨o, ho, fun e => absurd e (by decide), fun e => absurd e (by decide), by
  have : (fun (a' : Act) (w' : World) => ((1 : Nat) = 2 → Below w.heap.size w w') ∧ wpPm P ops Q r a' w') = wpPm P ops Q r := by
   funext a' w'; simp
  rw [this]; exact h⟩
theorem pm_g {i : Nat} {r : Pm} {o : Oper} {a : Act} {w : World} (ho : ops[i]? = some o)
  (h : wpList P ops (Exit.then (fun a' w' => Below w.heap.size w w' ∧ wpPm P ops Q r a' w') fun _ _ _ => False) [o] a w) : wpPm P ops Q (.one i 2 r) a w :=
 ⟨o, ho, fun e => absurd e (by decide), fun e => absurd e (by decide), by
  have : (fun (a' : Act) (w' : World) => ((2 : Nat) = 2 → Below w.heap.size w w') ∧ wpPm P ops Q r a' w') = fun a' w' => Below w.heap.size w w' ∧ wpPm P ops Q r a' w' := by
   funext a' w'; simp
  rw [this]; exact h⟩
theorem pm_two {i j ki kj : Nat} {r s : Pm} {o u : Oper} {a : Act} {w : World} (ho : ops[i]? = some o) (hu : ops[j]? = some u)
  (h1 : wpList P ops (Exit.then (fun a' w' => (ki = 2 → Below w.heap.size w w') ∧ wpPm P ops Q r a' w') fun _ _ _ => False) [o] a w)
  (h2 : wpList P ops (Exit.then (fun a' w' => (kj = 2 → Below w.heap.size w w') ∧ wpPm P ops Q s a' w') fun _ _ _ => False) [u] a w) : wpPm P ops Q (.two i ki r j kj s) a w :=
 ⟨⟨o, ho, h1⟩, u, hu, h2⟩
end
end Go.Proofs.YtfpppmamkmaneaaDoor
