/-
  Proved here: the contracts of the reference's tree: Half, Node, Long, Folded. Condition: at most 256 leaves.
-/
import Derived.Test.YtfpppmamkmaneaaDoorRefOf
import Derived.Test.YtfpppmamkmaneaaDoorTreePlain
import Derived.Test.YtfpppmamkmaneaaDoorLawF
import Derived.Test.YtfpppmamkmaneaaDoorDrawT
import Derived.Test.YtfpppmamkmaneaaDoorLawC
set_option maxRecDepth 20000
set_option linter.unusedSimpArgs false
set_option linter.unusedVariables false
namespace Go.Proofs.YtfpppmamkmaneaaDoor
open Go.RowKit

set_option maxHeartbeats 1000000 in
theorem rnode_any (l r : Dig) (w : World) : Calls Tryd.prog 36 #[l.v, r.v] w fun e w' => e = .returned (nodeN l r).v ∧ St w w' [] := by
  have hst := St.refl w
  have HD := Lib.hid (show digsL [l, r] = l.arr.toList ++ r.arr.toList by simp [digsL, Dig.toList])
  go_enter Tryd.func36, Tryd.ntmps36
  go_wp2_with (first
    | (go_at_call 67; (try clear hnew); refine (rof_any 1 [l, r] _ _ _ _ (by rw [HD.out]; exact hst.sl 0 rfl) (by decide)).mono ?_; rintro e Wk1 ⟨rfl, hnew⟩; replace hst := hst.keep hnew)
    | (refine L_boxA (d := some 2) rfl rfl rfl (ev_tmp rfl) ?_; (try clear hnew); intro g2 W2 hnew; replace hst := hst.trans hnew; simp only [List.cons_append, List.nil_append] at hst)
    | (refine L_boxA (d := some 3) rfl rfl rfl (ev_tmp rfl) ?_; (try clear hnew); intro g3 W3 hnew; replace hst := hst.trans hnew; simp only [List.cons_append, List.nil_append] at hst)
    | (refine L_allocA (d := some 4) rfl rfl rfl el_api_Digest ?_; (try clear hnew); intro g4 W4 hnew; replace hst := hst.trans hnew; simp only [List.cons_append, List.nil_append] at hst)
    | (first | (refine L_loadA (d := some 5) rfl rfl rfl (by rfl) Tryd.underlying25 rfl el_api_Digest (by first | exact hst.get 0 rfl | exact hst.get 1 rfl | exact hst.get 2 rfl | exact hst.get 3 rfl | exact hst.get 4 rfl | exact hst.get 5 rfl) (by first | rfl | exact Dig.size _ | (simp; done)) ?_) | (refine L_loadM (d := some 5) rfl rfl rfl (by rfl) Tryd.underlying25 rfl el_api_Digest (by first | assumption) (by first | rfl | exact Dig.size _ | (simp; done)) ?_))
    | (first | (refine L_loadA (d := some 6) rfl rfl rfl (by rfl) Tryd.underlying25 rfl el_api_Digest (by first | exact hst.get 0 rfl | exact hst.get 1 rfl | exact hst.get 2 rfl | exact hst.get 3 rfl | exact hst.get 4 rfl | exact hst.get 5 rfl) (by first | rfl | exact Dig.size _ | (simp; done)) ?_) | (refine L_loadM (d := some 6) rfl rfl rfl (by rfl) Tryd.underlying25 rfl el_api_Digest (by first | assumption) (by first | rfl | exact Dig.size _ | (simp; done)) ?_))
    | (refine L_buildS (d := some 7) rfl rfl rfl [_, _] (bs_2 (ev_tmp rfl) (ev_tmp rfl)) rfl Tryd.underlying22 el_api_Digest rfl (by first | (simp [Value.cells]; done) | (simp [Value.cells, Dig.size]; done)) (by decide) (by decide) ?_; (try clear hnew); intro g7 W7 hnew; replace hst := hst.trans hnew; simp only [List.cons_append, List.nil_append] at hst; simp only [List.flatMap_cons, List.flatMap_nil, List.append_nil, Value.cells, List.toList_toArray] at hst)
    | (refine wpl_at (.store 25 (.tmp 4) (.tmp 8)) rfl ?_; first | (refine L_storeA rfl rfl hst rfl (by rfl) (ev_tmp rfl) (by first | rfl | exact Dig.one _ | (simp; done)) el_api_Digest (by first | rfl | exact Dig.size _ | (simp; done)) 0 rfl (by first | rfl | exact Dig.size _ | (simp; done)) ?_; clear hst; intro WS4 hst; simp only [List.set_cons_zero, List.set_cons_succ] at hst) | (refine L_storeA rfl rfl hst rfl (by rfl) (ev_tmp rfl) (by first | rfl | exact Dig.one _ | (simp; done)) el_api_Digest (by first | rfl | exact Dig.size _ | (simp; done)) 1 rfl (by first | rfl | exact Dig.size _ | (simp; done)) ?_; clear hst; intro WS4 hst; simp only [List.set_cons_zero, List.set_cons_succ] at hst) | (refine L_storeA rfl rfl hst rfl (by rfl) (ev_tmp rfl) (by first | rfl | exact Dig.one _ | (simp; done)) el_api_Digest (by first | rfl | exact Dig.size _ | (simp; done)) 2 rfl (by first | rfl | exact Dig.size _ | (simp; done)) ?_; clear hst; intro WS4 hst; simp only [List.set_cons_zero, List.set_cons_succ] at hst) | (refine L_storeA rfl rfl hst rfl (by rfl) (ev_tmp rfl) (by first | rfl | exact Dig.one _ | (simp; done)) el_api_Digest (by first | rfl | exact Dig.size _ | (simp; done)) 3 rfl (by first | rfl | exact Dig.size _ | (simp; done)) ?_; clear hst; intro WS4 hst; simp only [List.set_cons_zero, List.set_cons_succ] at hst) | (refine L_storeA rfl rfl hst rfl (by rfl) (ev_tmp rfl) (by first | rfl | exact Dig.one _ | (simp; done)) el_api_Digest (by first | rfl | exact Dig.size _ | (simp; done)) 4 rfl (by first | rfl | exact Dig.size _ | (simp; done)) ?_; clear hst; intro WS4 hst; simp only [List.set_cons_zero, List.set_cons_succ] at hst) | (refine L_storeA rfl rfl hst rfl (by rfl) (ev_tmp rfl) (by first | rfl | exact Dig.one _ | (simp; done)) el_api_Digest (by first | rfl | exact Dig.size _ | (simp; done)) 5 rfl (by first | rfl | exact Dig.size _ | (simp; done)) ?_; clear hst; intro WS4 hst; simp only [List.set_cons_zero, List.set_cons_succ] at hst) | (refine L_storeM rfl rfl hst rfl (by rfl) (ev_tmp rfl) (by first | rfl | exact Dig.one _ | (simp; done)) el_api_Digest (by first | rfl | exact Dig.size _ | (simp; done)) 0 rfl (by first | exact of_decide_eq_true rfl | (simp; done)) ?_; clear hst; intro WS4 hst; simp only [List.set_cons_zero, List.set_cons_succ] at hst)  | (refine L_storeM rfl rfl hst rfl (by rfl) (ev_tmp rfl) (by first | rfl | exact Dig.one _ | (simp; done)) el_api_Digest (by first | rfl | exact Dig.size _ | (simp; done)) 1 rfl (by first | exact of_decide_eq_true rfl | (simp; done)) ?_; clear hst; intro WS4 hst; simp only [List.set_cons_zero, List.set_cons_succ] at hst)  | (refine L_storeM rfl rfl hst rfl (by rfl) (ev_tmp rfl) (by first | rfl | exact Dig.one _ | (simp; done)) el_api_Digest (by first | rfl | exact Dig.size _ | (simp; done)) 2 rfl (by first | exact of_decide_eq_true rfl | (simp; done)) ?_; clear hst; intro WS4 hst; simp only [List.set_cons_zero, List.set_cons_succ] at hst)  | (refine L_storeM rfl rfl hst rfl (by rfl) (ev_tmp rfl) (by first | rfl | exact Dig.one _ | (simp; done)) el_api_Digest (by first | rfl | exact Dig.size _ | (simp; done)) 3 rfl (by first | exact of_decide_eq_true rfl | (simp; done)) ?_; clear hst; intro WS4 hst; simp only [List.set_cons_zero, List.set_cons_succ] at hst)  | (refine L_storeM rfl rfl hst rfl (by rfl) (ev_tmp rfl) (by first | rfl | exact Dig.one _ | (simp; done)) el_api_Digest (by first | rfl | exact Dig.size _ | (simp; done)) 4 rfl (by first | exact of_decide_eq_true rfl | (simp; done)) ?_; clear hst; intro WS4 hst; simp only [List.set_cons_zero, List.set_cons_succ] at hst)  | (refine L_storeM rfl rfl hst rfl (by rfl) (ev_tmp rfl) (by first | rfl | exact Dig.one _ | (simp; done)) el_api_Digest (by first | rfl | exact Dig.size _ | (simp; done)) 5 rfl (by first | exact of_decide_eq_true rfl | (simp; done)) ?_; clear hst; intro WS4 hst; simp only [List.set_cons_zero, List.set_cons_succ] at hst))
    | fail)
  refine bp_cell rfl rfl rfl (hst.get 1 rfl) Tryd.underlying25 rfl el_api_Digest (by first | rfl | exact Dig.size _ | (simp; done)) ?_
  exact ⟨rfl, hst.forget⟩

set_option maxHeartbeats 1000000 in
theorem rhalf_any (n : Nat) (h2 : 2 ≤ n) (hn : n ≤ 256) (w : World) : Calls Tryd.prog 55 #[.int .i64 (n : Int)] w fun e w' => e = .returned (.int .i64 (halfN n : Int)) ∧ St w w' [] := by
  have hst := St.refl w
  go_enter Tryd.func55, Tryd.ntmps55
  go_wp2_with (first
    | fail)
  go_loopg [3] (n - 1) (fun gk s3 wr => ∃ (k j : Nat), Hid (k + gk = n) ∧ Hid (k = 2 ^ j) ∧ k < n ∧ 0 < k ∧ s3 = .int .i64 (k : Int) ∧ St w wr [])
  case atStart => exact ⟨1, 0, Lib.hid (by omega), Lib.hid rfl, by omega, by omega, rfl, hst⟩
  case round =>
    clear hst
    obtain ⟨k, j, HI, HJ, hkn, hk0, rfl, hst⟩ := hrel
    have hi := HI.out
    by_cases hin : 2 * k < n
    · clear hi
      go_wp2_with (first
        | fail)
      go_roundg (n - 2 * k)
      case measure => have hi := HI.out; omega
      case rel =>
        have hi := HI.out
        exact ⟨2 * k, j + 1, Lib.hid (by omega), Lib.hid (by rw [HJ.out, Nat.pow_succ]; omega), hin, by omega, by go_num, hst⟩
    · have hh := halfN_of j HJ.out hkn (by omega)
      have HH := Lib.hid hh
      clear hi HI hh HJ
      go_wp2_with (first
        | fail)
      go_ret
      exact ⟨by rw [HH.out]; rfl, hst⟩

theorem longN_le : ∀ (n i : Nat), longN i n ≤ n := by
  intro n
  induction n using Nat.strongRecOn with
  | ind n ih =>
  intro i
  by_cases h : n < 2
  · rw [longN_one i h]; exact Nat.zero_le _
  · have h1 := halfN_lt n (by omega)
    have h2 := halfN_pos n
    by_cases hi : i < halfN n
    · rw [longN_left (by omega) hi]; have := ih _ h1 i; omega
    · rw [longN_right (by omega) hi]; have := ih (n - halfN n) (by omega) (i - halfN n); omega

set_option maxHeartbeats 2000000 in
theorem rlong_any : ∀ (n i : Nat) (w : World), i < n → n ≤ 256 → Calls Tryd.prog 18 #[.int .i64 (i : Int), .int .i64 (n : Int)] w fun e w' => e = .returned (.int .i64 (longN i n : Int)) ∧ St w w' [] := by
  intro n
  induction n using Nat.strongRecOn with
  | ind n ih =>
  intro i w hin hn
  have hst := St.refl w
  by_cases h1 : n = 1
  · subst h1
    rw [longN_one i (by omega)]
    go_enter Tryd.func18, Tryd.ntmps18
    go_wp2_with (first
      | fail)
    go_ret
    exact ⟨rfl, hst⟩
  · have hlt := halfN_lt n (by omega)
    have hps := halfN_pos n
    have h1' : ¬ (n : Int) = 1 := by omega
    have HF := Lib.hid (fun w => rhalf_any n (by omega) (by omega) w)
    by_cases hk : i < halfN n
    · have HN := Lib.hid (show longN i n = longN i (halfN n) + 1 from longN_left (by omega) hk)
      have hle := longN_le (halfN n) i
      have HI := Lib.hid (fun w => ih (halfN n) hlt i w hk (by omega))
      rw [HN.out]
      generalize halfN n = k at *
      generalize longN i k = r at *
      go_enter Tryd.func18, Tryd.ntmps18
      go_wp2_with (first
        | (go_at_call 55; (try clear hnew); refine (HF.out _).mono ?_; rintro e Wk2 ⟨rfl, hnew⟩; replace hst := hst.keep hnew)
        | (go_at_call 18; (try clear hnew); refine (HI.out _).mono ?_; rintro e Wk3 ⟨rfl, hnew⟩; replace hst := hst.keep hnew)
        | fail)
      go_ret
      exact ⟨congrArg Ending.returned (by go_num), hst⟩
    · have HN := Lib.hid (show longN i n = longN (i - halfN n) (n - halfN n) + 1 from longN_right (by omega) hk)
      have hle := longN_le (n - halfN n) (i - halfN n)
      have HI := Lib.hid (fun w => ih (n - halfN n) (by omega) (i - halfN n) w (by omega) (by omega))
      rw [HN.out]
      have e1 : (((i - halfN n : Nat)) : Int) = (i : Int) - (halfN n : Int) := by omega
      have e2 : (((n - halfN n : Nat)) : Int) = (n : Int) - (halfN n : Int) := by omega
      rw [e1, e2] at HI
      clear e1 e2
      generalize longN (i - halfN n) (n - halfN n) = r at *
      generalize halfN n = k at *
      go_enter Tryd.func18, Tryd.ntmps18
      go_wp2_with (first
        | (go_at_call 55; (try clear hnew); refine (HF.out _).mono ?_; rintro e Wk4 ⟨rfl, hnew⟩; replace hst := hst.keep hnew)
        | (go_at_call 18; (try clear hnew); refine (HI.out _).mono ?_; rintro e Wk5 ⟨rfl, hnew⟩; replace hst := hst.keep hnew)
        | fail)
      go_ret
      exact ⟨congrArg Ending.returned (by go_num), hst⟩

theorem path_last (path : List Dig) (m : Nat) (hl : path.length = m + 1) : ∃ rest p, path = rest ++ [p] ∧ rest.length = m ∧ ((digsL path).drop (m * 32)).take 32 = p.arr.toList ∧ ((digsL path).drop (0 * 32)).take ((m - 0) * 32) = digsL rest := by
  refine ⟨path.take m, path[m]'(by omega), ?_, by rw [List.length_take]; omega, by rw [Dig.toList]; exact digsL_at path m (by omega), ?_⟩
  · have := List.take_succ_eq_append_getElem (l := path) (i := m) (by omega)
    rw [← this, List.take_of_length_le (by omega)]
  · rw [digsL_cut]
    rfl

set_option maxHeartbeats 4000000 in
theorem rfolded_any : ∀ (n : Nat) (l : Dig) (path : List Dig) (A : Option Addr) (m c i : Nat) (w : World), SlR w A m c 32 (digsL path) → m = longN i n → i < n → n ≤ 256 →
    Calls Tryd.prog 34 #[l.v, .int .i64 (i : Int), .int .i64 (n : Int), .slice A m c] w fun e w' => e = .returned (foldedN l i n path).v ∧ St w w' [] := by
  intro n
  induction n using Nat.strongRecOn with
  | ind n ih =>
  intro l path A m c i w hx hm hin hn
  have hst := St.refl w
  have hl : path.length = m := by have := hx.1; rw [length_digsL] at this; omega
  have hcap := hx.2.1
  have hmax := hx.2.2.1
  simp only [maxLen] at hmax
  by_cases h1 : n = 1
  · subst h1
    rw [foldedN_one l i (by omega)]
    clear hm hl
    go_enter Tryd.func34, Tryd.ntmps34
    go_wp2_with (first
      | (refine L_boxA (d := some 4) rfl rfl rfl (ev_tmp rfl) ?_; (try clear hnew); intro g4 W4 hnew; replace hst := hst.trans hnew; simp only [List.cons_append, List.nil_append] at hst)
      | (refine L_allocA (d := some 8) rfl rfl rfl el_api_Digest ?_; (try clear hnew); intro g8 W8 hnew; replace hst := hst.trans hnew; simp only [List.cons_append, List.nil_append] at hst)
      | (first | (refine L_loadA (d := some 14) rfl rfl rfl (by rfl) Tryd.underlying25 rfl el_api_Digest (by first | exact hst.get 0 rfl | exact hst.get 1 rfl) (by first | rfl | exact Dig.size _ | (simp; done)) ?_) | (refine L_loadM (d := some 14) rfl rfl rfl (by rfl) Tryd.underlying25 rfl el_api_Digest (by first | assumption) (by first | rfl | exact Dig.size _ | (simp; done)) ?_))
      | (refine wpl_at (.store 25 (.tmp 8) (.tmp 14)) rfl ?_; first | (refine L_storeA rfl rfl hst rfl (by rfl) (ev_tmp rfl) (by first | rfl | exact Dig.one _ | (simp; done)) el_api_Digest (by first | rfl | exact Dig.size _ | (simp; done)) 0 rfl (by first | rfl | exact Dig.size _ | (simp; done)) ?_; clear hst; intro WS1 hst; simp only [List.set_cons_zero, List.set_cons_succ] at hst) | (refine L_storeA rfl rfl hst rfl (by rfl) (ev_tmp rfl) (by first | rfl | exact Dig.one _ | (simp; done)) el_api_Digest (by first | rfl | exact Dig.size _ | (simp; done)) 1 rfl (by first | rfl | exact Dig.size _ | (simp; done)) ?_; clear hst; intro WS1 hst; simp only [List.set_cons_zero, List.set_cons_succ] at hst) | (refine L_storeM rfl rfl hst rfl (by rfl) (ev_tmp rfl) (by first | rfl | exact Dig.one _ | (simp; done)) el_api_Digest (by first | rfl | exact Dig.size _ | (simp; done)) 0 rfl (by first | exact of_decide_eq_true rfl | (simp; done)) ?_; clear hst; intro WS1 hst; simp only [List.set_cons_zero, List.set_cons_succ] at hst)  | (refine L_storeM rfl rfl hst rfl (by rfl) (ev_tmp rfl) (by first | rfl | exact Dig.one _ | (simp; done)) el_api_Digest (by first | rfl | exact Dig.size _ | (simp; done)) 1 rfl (by first | exact of_decide_eq_true rfl | (simp; done)) ?_; clear hst; intro WS1 hst; simp only [List.set_cons_zero, List.set_cons_succ] at hst))
      | fail)
    refine bp_cell rfl rfl rfl (hst.get 0 rfl) Tryd.underlying25 rfl el_api_Digest (by first | rfl | exact Dig.size _ | (simp; done)) ?_
    exact ⟨rfl, hst.forget⟩
  · have hlt := halfN_lt n (by omega)
    have hps := halfN_pos n
    have h1' : ¬ (n : Int) = 1 := by omega
    have HF := Lib.hid (fun w => rhalf_any n (by omega) (by omega) w)
    by_cases hk : i < halfN n
    · rw [longN_left (by omega) hk] at hm
      obtain ⟨rest, p, rfl, hr, hp, hc⟩ := path_last path (longN i (halfN n)) (by omega)
      rw [foldedN_left l (by omega) hk rest p hr]
      obtain ⟨r, hr'⟩ : ∃ r, r = longN i (halfN n) := ⟨_, rfl⟩
      rw [← hr'] at hm hp hc
      subst hm
      have HP := Lib.hid (show ((digsL (rest ++ [p])).drop ((r : Int).toNat * 32)).take 32 = p.arr.toList from hp)
      have HC := Lib.hid hc
      have HI := Lib.hid (fun A c w hs => ih (halfN n) hlt l rest A r c i w hs hr' hk (by omega))
      clear hr hr' hp hc hl ih
      generalize foldedN l i (halfN n) rest = u at *
      generalize halfN n = k at *
      go_enter Tryd.func34, Tryd.ntmps34
      go_wp2_with (first
        | (go_at_call 55; (try clear hnew); refine (HF.out _).mono ?_; rintro e Wk6 ⟨rfl, hnew⟩; replace hst := hst.keep hnew)
        | (refine L_loadM (d := some 22) rfl rfl rfl (by rfl) Tryd.underlying25 rfl el_api_Digest (cs := p.arr) (by rw [← HP.out]; exact hr21) (Dig.size _) ?_)
        | (refine L_boxA (d := some 4) rfl rfl rfl (ev_tmp rfl) ?_; (try clear hnew); intro g4 W4 hnew; replace hst := hst.trans hnew; simp only [List.cons_append, List.nil_append] at hst)
        | (refine L_allocA (d := some 8) rfl rfl rfl el_api_Digest ?_; (try clear hnew); intro g8 W8 hnew; replace hst := hst.trans hnew; simp only [List.cons_append, List.nil_append] at hst)
        | (refine L_idxS (d := some 21) rfl rfl rfl (by rfl) (by rfl) Tryd.underlying22 el_api_Digest (by first | exact hst.old (by decide) hx | assumption | exact hst.sl 0 rfl | exact hst.sl 1 rfl | exact hst.sl 2 rfl | exact hst.old (by decide) (by assumption)) (by omega) (by omega) ?_; intro o21 p21 ha21 hr21; (first | subst ha21 | (obtain ⟨h1, h2⟩ := some_addr ha21; subst h1; subst h2; clear ha21) | skip))
        | (first | (refine L_loadA (d := some 22) rfl rfl rfl (by rfl) Tryd.underlying25 rfl el_api_Digest (by first | exact hst.get 0 rfl | exact hst.get 1 rfl | exact hst.get 2 rfl) (by first | rfl | exact Dig.size _ | (simp; done)) ?_) | (refine L_loadM (d := some 22) rfl rfl rfl (by rfl) Tryd.underlying25 rfl el_api_Digest (by first | assumption) (by first | rfl | exact Dig.size _ | (simp; done)) ?_))
        | (refine L_allocA (d := some 10) rfl rfl rfl el_api_Digest ?_; (try clear hnew); intro g10 W10 hnew; replace hst := hst.trans hnew; simp only [List.cons_append, List.nil_append] at hst)
        | (refine wpl_at (.store 25 (.tmp 10) (.tmp 22)) rfl ?_; first | (refine L_storeA rfl rfl hst rfl (by rfl) (ev_tmp rfl) (by first | rfl | exact Dig.one _ | (simp; done)) el_api_Digest (by first | rfl | exact Dig.size _ | (simp; done)) 0 rfl (by first | rfl | exact Dig.size _ | (simp; done)) ?_; clear hst; intro WS7 hst; simp only [List.set_cons_zero, List.set_cons_succ] at hst) | (refine L_storeA rfl rfl hst rfl (by rfl) (ev_tmp rfl) (by first | rfl | exact Dig.one _ | (simp; done)) el_api_Digest (by first | rfl | exact Dig.size _ | (simp; done)) 1 rfl (by first | rfl | exact Dig.size _ | (simp; done)) ?_; clear hst; intro WS7 hst; simp only [List.set_cons_zero, List.set_cons_succ] at hst) | (refine L_storeA rfl rfl hst rfl (by rfl) (ev_tmp rfl) (by first | rfl | exact Dig.one _ | (simp; done)) el_api_Digest (by first | rfl | exact Dig.size _ | (simp; done)) 2 rfl (by first | rfl | exact Dig.size _ | (simp; done)) ?_; clear hst; intro WS7 hst; simp only [List.set_cons_zero, List.set_cons_succ] at hst) | (refine L_storeM rfl rfl hst rfl (by rfl) (ev_tmp rfl) (by first | rfl | exact Dig.one _ | (simp; done)) el_api_Digest (by first | rfl | exact Dig.size _ | (simp; done)) 0 rfl (by first | exact of_decide_eq_true rfl | (simp; done)) ?_; clear hst; intro WS7 hst; simp only [List.set_cons_zero, List.set_cons_succ] at hst)  | (refine L_storeM rfl rfl hst rfl (by rfl) (ev_tmp rfl) (by first | rfl | exact Dig.one _ | (simp; done)) el_api_Digest (by first | rfl | exact Dig.size _ | (simp; done)) 1 rfl (by first | exact of_decide_eq_true rfl | (simp; done)) ?_; clear hst; intro WS7 hst; simp only [List.set_cons_zero, List.set_cons_succ] at hst)  | (refine L_storeM rfl rfl hst rfl (by rfl) (ev_tmp rfl) (by first | rfl | exact Dig.one _ | (simp; done)) el_api_Digest (by first | rfl | exact Dig.size _ | (simp; done)) 2 rfl (by first | exact of_decide_eq_true rfl | (simp; done)) ?_; clear hst; intro WS7 hst; simp only [List.set_cons_zero, List.set_cons_succ] at hst))
        | (first | (refine L_cutV (d := some 27) rfl rfl rfl (by rfl) Tryd.underlying22 el_api_Digest (by decide) hx 0 r _ (Or.inl ⟨rfl, rfl⟩) (Or.inr ⟨_, _, rfl, by first | exact ev_tmp rfl | (rw [ev_tmp rfl]; congr 1; omega)⟩) (Or.inl ⟨rfl, rfl⟩) (by omega) (by omega) (by omega) (by omega) ?_; intro A27 c27 hs27) | (refine L_cutO (d := some 27) rfl rfl hst rfl (by rfl) Tryd.underlying22 el_api_Digest 0 rfl (by first | rfl | omega) 0 r _ (Or.inl ⟨rfl, rfl⟩) (Or.inr ⟨_, _, rfl, by first | exact ev_tmp rfl | (rw [ev_tmp rfl]; congr 1; omega)⟩) (Or.inl ⟨rfl, rfl⟩) (by omega) (by omega) (by omega) (by omega) ?_; clear hst; intro A27 c27 hst; simp only [List.set_cons_zero, List.set_cons_succ] at hst) | (refine L_cutO (d := some 27) rfl rfl hst rfl (by rfl) Tryd.underlying22 el_api_Digest 1 rfl (by first | rfl | omega) 0 r _ (Or.inl ⟨rfl, rfl⟩) (Or.inr ⟨_, _, rfl, by first | exact ev_tmp rfl | (rw [ev_tmp rfl]; congr 1; omega)⟩) (Or.inl ⟨rfl, rfl⟩) (by omega) (by omega) (by omega) (by omega) ?_; clear hst; intro A27 c27 hst; simp only [List.set_cons_zero, List.set_cons_succ] at hst) | (refine L_cutO (d := some 27) rfl rfl hst rfl (by rfl) Tryd.underlying22 el_api_Digest 2 rfl (by first | rfl | omega) 0 r _ (Or.inl ⟨rfl, rfl⟩) (Or.inr ⟨_, _, rfl, by first | exact ev_tmp rfl | (rw [ev_tmp rfl]; congr 1; omega)⟩) (Or.inl ⟨rfl, rfl⟩) (by omega) (by omega) (by omega) (by omega) ?_; clear hst; intro A27 c27 hst; simp only [List.set_cons_zero, List.set_cons_succ] at hst) | (refine L_cutS (d := some 27) rfl rfl rfl (by rfl) Tryd.underlying22 el_api_Digest (by decide) (by first | exact hst.old (by decide) hx | assumption | exact hst.old (by decide) (by assumption) | exact hst.sl 0 rfl | exact hst.sl 1 rfl | exact hst.sl 2 rfl) 0 r _ (Or.inl ⟨rfl, rfl⟩) (Or.inr ⟨_, _, rfl, by first | exact ev_tmp rfl | (rw [ev_tmp rfl]; congr 1; omega)⟩) (Or.inl ⟨rfl, rfl⟩) (by omega) (by omega) (by omega) (by omega) ?_; intro A27 c27 hs27))
        | fail)
      (try clear hnew)
      refine wp_region_idx [(0, 0), (1, 0), (2, 0), (3, 0), (5, 0), (4, 2), (6, 2), (7, 1)] (by kernel_rfl) (by kernel_rfl) ?_
      replace hst := hst.drew
      refine idx_q rfl rfl ?_; go_wp2_with (first | (first | (refine L_loadA (d := some 31) rfl rfl rfl (by rfl) Tryd.underlying25 rfl el_api_Digest (by first | exact hst.get 0 rfl | exact hst.get 1 rfl | exact hst.get 2 rfl) (by first | rfl | exact Dig.size _ | (simp; done)) ?_) | (refine L_loadM (d := some 31) rfl rfl rfl (by rfl) Tryd.underlying25 rfl el_api_Digest (by first | assumption) (by first | rfl | exact Dig.size _ | (simp; done)) ?_)) | fail)
      refine idx_q rfl rfl ?_; go_wp2_with fail
      refine idx_q rfl rfl ?_; go_wp2_with fail
      refine idx_q rfl rfl ?_; go_wp2_with fail
      refine idx_q rfl rfl ?_; go_wp2_with (first | (first | (refine L_loadA (d := some 36) rfl rfl rfl (by rfl) Tryd.underlying25 rfl el_api_Digest (by first | exact hst.get 0 rfl | exact hst.get 1 rfl | exact hst.get 2 rfl) (by first | rfl | exact Dig.size _ | (simp; done)) ?_) | (refine L_loadM (d := some 36) rfl rfl rfl (by rfl) Tryd.underlying25 rfl el_api_Digest (by first | assumption) (by first | rfl | exact Dig.size _ | (simp; done)) ?_)) | fail)
      refine idx_g rfl ?_; go_wp2_with (first | (go_at_call 34; (try clear hnew); refine (HI.out A27 c27 _ (by rw [← HC.out]; exact hst.old (by decide) hs27)).mono ?_; rintro e Wk7 ⟨rfl, hnew⟩; replace hst := hst.keep hnew) | (go_at_call 36; (try clear hnew); with_reducible refine (rnode_any _ _ _).mono ?_; rintro e Wk8 ⟨rfl, hnew⟩; replace hst := hst.keep hnew) | fail); refine ⟨by first | exact Below.refl _ _ | exact hnew.below, ?_⟩
      refine idx_g rfl ?_; go_wp2_with (first | (go_at_call 34; (try clear hnew); refine (HI.out A27 c27 _ (by rw [← HC.out]; exact hst.old (by decide) hs27)).mono ?_; rintro e Wk7 ⟨rfl, hnew⟩; replace hst := hst.keep hnew) | (go_at_call 36; (try clear hnew); with_reducible refine (rnode_any _ _ _).mono ?_; rintro e Wk8 ⟨rfl, hnew⟩; replace hst := hst.keep hnew) | fail); refine ⟨by first | exact Below.refl _ _ | exact hnew.below, ?_⟩
      refine idx_e rfl ?_; go_wp2_with (first | (refine wpl_at (.store 25 (.tmp 8) (.tmp 37)) rfl ?_; first | (refine L_storeA rfl rfl hst rfl (by rfl) (ev_tmp rfl) (by first | rfl | exact Dig.one _ | (simp; done)) el_api_Digest (by first | rfl | exact Dig.size _ | (simp; done)) 0 rfl (by first | rfl | exact Dig.size _ | (simp; done)) ?_; clear hst; intro WS7 hst; simp only [List.set_cons_zero, List.set_cons_succ] at hst) | (refine L_storeA rfl rfl hst rfl (by rfl) (ev_tmp rfl) (by first | rfl | exact Dig.one _ | (simp; done)) el_api_Digest (by first | rfl | exact Dig.size _ | (simp; done)) 1 rfl (by first | rfl | exact Dig.size _ | (simp; done)) ?_; clear hst; intro WS7 hst; simp only [List.set_cons_zero, List.set_cons_succ] at hst) | (refine L_storeA rfl rfl hst rfl (by rfl) (ev_tmp rfl) (by first | rfl | exact Dig.one _ | (simp; done)) el_api_Digest (by first | rfl | exact Dig.size _ | (simp; done)) 2 rfl (by first | rfl | exact Dig.size _ | (simp; done)) ?_; clear hst; intro WS7 hst; simp only [List.set_cons_zero, List.set_cons_succ] at hst) | (refine L_storeM rfl rfl hst rfl (by rfl) (ev_tmp rfl) (by first | rfl | exact Dig.one _ | (simp; done)) el_api_Digest (by first | rfl | exact Dig.size _ | (simp; done)) 0 rfl (by first | exact of_decide_eq_true rfl | (simp; done)) ?_; clear hst; intro WS7 hst; simp only [List.set_cons_zero, List.set_cons_succ] at hst)  | (refine L_storeM rfl rfl hst rfl (by rfl) (ev_tmp rfl) (by first | rfl | exact Dig.one _ | (simp; done)) el_api_Digest (by first | rfl | exact Dig.size _ | (simp; done)) 1 rfl (by first | exact of_decide_eq_true rfl | (simp; done)) ?_; clear hst; intro WS7 hst; simp only [List.set_cons_zero, List.set_cons_succ] at hst)  | (refine L_storeM rfl rfl hst rfl (by rfl) (ev_tmp rfl) (by first | rfl | exact Dig.one _ | (simp; done)) el_api_Digest (by first | rfl | exact Dig.size _ | (simp; done)) 2 rfl (by first | exact of_decide_eq_true rfl | (simp; done)) ?_; clear hst; intro WS7 hst; simp only [List.set_cons_zero, List.set_cons_succ] at hst)) | fail)
      refine idx_nil ?_
      go_wp2_with fail
      refine bp_cell rfl rfl rfl (hst.get 1 rfl) Tryd.underlying25 rfl el_api_Digest (by first | rfl | exact Dig.size _ | (simp; done)) ?_
      exact ⟨rfl, hst.forget⟩
    · rw [longN_right (by omega) hk] at hm
      obtain ⟨rest, p, rfl, hr, hp, hc⟩ := path_last path (longN (i - halfN n) (n - halfN n)) (by omega)
      rw [foldedN_right l (by omega) hk rest p hr]
      obtain ⟨r, hr'⟩ : ∃ r, r = longN (i - halfN n) (n - halfN n) := ⟨_, rfl⟩
      rw [← hr'] at hm hp hc
      subst hm
      have HP := Lib.hid (show ((digsL (rest ++ [p])).drop ((r : Int).toNat * 32)).take 32 = p.arr.toList from hp)
      have HC := Lib.hid hc
      have HI := Lib.hid (fun A c w hs => ih (n - halfN n) (by omega) l rest A r c (i - halfN n) w hs hr' (by omega) (by omega))
      have e1 : (((i - halfN n : Nat)) : Int) = (i : Int) - (halfN n : Int) := by omega
      have e2 : (((n - halfN n : Nat)) : Int) = (n : Int) - (halfN n : Int) := by omega
      rw [e1, e2] at HI
      clear hr hr' hp hc hl ih e1 e2
      generalize foldedN l (i - halfN n) (n - halfN n) rest = u at *
      generalize halfN n = k at *
      go_enter Tryd.func34, Tryd.ntmps34
      go_wp2_with (first
        | (go_at_call 55; (try clear hnew); refine (HF.out _).mono ?_; rintro e Wk9 ⟨rfl, hnew⟩; replace hst := hst.keep hnew)
        | (refine L_loadM (d := some 22) rfl rfl rfl (by rfl) Tryd.underlying25 rfl el_api_Digest (cs := p.arr) (by rw [← HP.out]; exact hr21) (Dig.size _) ?_)
        | (refine L_boxA (d := some 4) rfl rfl rfl (ev_tmp rfl) ?_; (try clear hnew); intro g4 W4 hnew; replace hst := hst.trans hnew; simp only [List.cons_append, List.nil_append] at hst)
        | (refine L_allocA (d := some 8) rfl rfl rfl el_api_Digest ?_; (try clear hnew); intro g8 W8 hnew; replace hst := hst.trans hnew; simp only [List.cons_append, List.nil_append] at hst)
        | (refine L_idxS (d := some 21) rfl rfl rfl (by rfl) (by rfl) Tryd.underlying22 el_api_Digest (by first | exact hst.old (by decide) hx | assumption | exact hst.sl 0 rfl | exact hst.sl 1 rfl | exact hst.sl 2 rfl | exact hst.old (by decide) (by assumption)) (by omega) (by omega) ?_; intro o21 p21 ha21 hr21; (first | subst ha21 | (obtain ⟨h1, h2⟩ := some_addr ha21; subst h1; subst h2; clear ha21) | skip))
        | (first | (refine L_loadA (d := some 22) rfl rfl rfl (by rfl) Tryd.underlying25 rfl el_api_Digest (by first | exact hst.get 0 rfl | exact hst.get 1 rfl | exact hst.get 2 rfl) (by first | rfl | exact Dig.size _ | (simp; done)) ?_) | (refine L_loadM (d := some 22) rfl rfl rfl (by rfl) Tryd.underlying25 rfl el_api_Digest (by first | assumption) (by first | rfl | exact Dig.size _ | (simp; done)) ?_))
        | (refine L_allocA (d := some 10) rfl rfl rfl el_api_Digest ?_; (try clear hnew); intro g10 W10 hnew; replace hst := hst.trans hnew; simp only [List.cons_append, List.nil_append] at hst)
        | (refine wpl_at (.store 25 (.tmp 10) (.tmp 22)) rfl ?_; first | (refine L_storeA rfl rfl hst rfl (by rfl) (ev_tmp rfl) (by first | rfl | exact Dig.one _ | (simp; done)) el_api_Digest (by first | rfl | exact Dig.size _ | (simp; done)) 0 rfl (by first | rfl | exact Dig.size _ | (simp; done)) ?_; clear hst; intro WS7 hst; simp only [List.set_cons_zero, List.set_cons_succ] at hst) | (refine L_storeA rfl rfl hst rfl (by rfl) (ev_tmp rfl) (by first | rfl | exact Dig.one _ | (simp; done)) el_api_Digest (by first | rfl | exact Dig.size _ | (simp; done)) 1 rfl (by first | rfl | exact Dig.size _ | (simp; done)) ?_; clear hst; intro WS7 hst; simp only [List.set_cons_zero, List.set_cons_succ] at hst) | (refine L_storeA rfl rfl hst rfl (by rfl) (ev_tmp rfl) (by first | rfl | exact Dig.one _ | (simp; done)) el_api_Digest (by first | rfl | exact Dig.size _ | (simp; done)) 2 rfl (by first | rfl | exact Dig.size _ | (simp; done)) ?_; clear hst; intro WS7 hst; simp only [List.set_cons_zero, List.set_cons_succ] at hst) | (refine L_storeM rfl rfl hst rfl (by rfl) (ev_tmp rfl) (by first | rfl | exact Dig.one _ | (simp; done)) el_api_Digest (by first | rfl | exact Dig.size _ | (simp; done)) 0 rfl (by first | exact of_decide_eq_true rfl | (simp; done)) ?_; clear hst; intro WS7 hst; simp only [List.set_cons_zero, List.set_cons_succ] at hst)  | (refine L_storeM rfl rfl hst rfl (by rfl) (ev_tmp rfl) (by first | rfl | exact Dig.one _ | (simp; done)) el_api_Digest (by first | rfl | exact Dig.size _ | (simp; done)) 1 rfl (by first | exact of_decide_eq_true rfl | (simp; done)) ?_; clear hst; intro WS7 hst; simp only [List.set_cons_zero, List.set_cons_succ] at hst)  | (refine L_storeM rfl rfl hst rfl (by rfl) (ev_tmp rfl) (by first | rfl | exact Dig.one _ | (simp; done)) el_api_Digest (by first | rfl | exact Dig.size _ | (simp; done)) 2 rfl (by first | exact of_decide_eq_true rfl | (simp; done)) ?_; clear hst; intro WS7 hst; simp only [List.set_cons_zero, List.set_cons_succ] at hst))
        | (first | (refine L_cutV (d := some 27) rfl rfl rfl (by rfl) Tryd.underlying22 el_api_Digest (by decide) hx 0 r _ (Or.inl ⟨rfl, rfl⟩) (Or.inr ⟨_, _, rfl, by first | exact ev_tmp rfl | (rw [ev_tmp rfl]; congr 1; omega)⟩) (Or.inl ⟨rfl, rfl⟩) (by omega) (by omega) (by omega) (by omega) ?_; intro A27 c27 hs27) | (refine L_cutO (d := some 27) rfl rfl hst rfl (by rfl) Tryd.underlying22 el_api_Digest 0 rfl (by first | rfl | omega) 0 r _ (Or.inl ⟨rfl, rfl⟩) (Or.inr ⟨_, _, rfl, by first | exact ev_tmp rfl | (rw [ev_tmp rfl]; congr 1; omega)⟩) (Or.inl ⟨rfl, rfl⟩) (by omega) (by omega) (by omega) (by omega) ?_; clear hst; intro A27 c27 hst; simp only [List.set_cons_zero, List.set_cons_succ] at hst) | (refine L_cutO (d := some 27) rfl rfl hst rfl (by rfl) Tryd.underlying22 el_api_Digest 1 rfl (by first | rfl | omega) 0 r _ (Or.inl ⟨rfl, rfl⟩) (Or.inr ⟨_, _, rfl, by first | exact ev_tmp rfl | (rw [ev_tmp rfl]; congr 1; omega)⟩) (Or.inl ⟨rfl, rfl⟩) (by omega) (by omega) (by omega) (by omega) ?_; clear hst; intro A27 c27 hst; simp only [List.set_cons_zero, List.set_cons_succ] at hst) | (refine L_cutO (d := some 27) rfl rfl hst rfl (by rfl) Tryd.underlying22 el_api_Digest 2 rfl (by first | rfl | omega) 0 r _ (Or.inl ⟨rfl, rfl⟩) (Or.inr ⟨_, _, rfl, by first | exact ev_tmp rfl | (rw [ev_tmp rfl]; congr 1; omega)⟩) (Or.inl ⟨rfl, rfl⟩) (by omega) (by omega) (by omega) (by omega) ?_; clear hst; intro A27 c27 hst; simp only [List.set_cons_zero, List.set_cons_succ] at hst) | (refine L_cutS (d := some 27) rfl rfl rfl (by rfl) Tryd.underlying22 el_api_Digest (by decide) (by first | exact hst.old (by decide) hx | assumption | exact hst.old (by decide) (by assumption) | exact hst.sl 0 rfl | exact hst.sl 1 rfl | exact hst.sl 2 rfl) 0 r _ (Or.inl ⟨rfl, rfl⟩) (Or.inr ⟨_, _, rfl, by first | exact ev_tmp rfl | (rw [ev_tmp rfl]; congr 1; omega)⟩) (Or.inl ⟨rfl, rfl⟩) (by omega) (by omega) (by omega) (by omega) ?_; intro A27 c27 hs27))
        | fail)
      (try clear hnew)
      refine wp_region_idx [(0, 0), (1, 0), (2, 0), (3, 0), (4, 0), (5, 0), (6, 0), (7, 0), (8, 2), (9, 2), (10, 2), (11, 1)] (by kernel_rfl) (by kernel_rfl) ?_
      replace hst := hst.drew
      refine idx_q rfl rfl ?_; go_wp2_with (first | (first | (refine L_loadA (d := some 38) rfl rfl rfl (by rfl) Tryd.underlying25 rfl el_api_Digest (by first | exact hst.get 0 rfl | exact hst.get 1 rfl | exact hst.get 2 rfl) (by first | rfl | exact Dig.size _ | (simp; done)) ?_) | (refine L_loadM (d := some 38) rfl rfl rfl (by rfl) Tryd.underlying25 rfl el_api_Digest (by first | assumption) (by first | rfl | exact Dig.size _ | (simp; done)) ?_)) | fail)
      refine idx_q rfl rfl ?_; go_wp2_with (first | (first | (refine L_loadA (d := some 39) rfl rfl rfl (by rfl) Tryd.underlying25 rfl el_api_Digest (by first | exact hst.get 0 rfl | exact hst.get 1 rfl | exact hst.get 2 rfl) (by first | rfl | exact Dig.size _ | (simp; done)) ?_) | (refine L_loadM (d := some 39) rfl rfl rfl (by rfl) Tryd.underlying25 rfl el_api_Digest (by first | assumption) (by first | rfl | exact Dig.size _ | (simp; done)) ?_)) | fail)
      refine idx_q rfl rfl ?_; go_wp2_with fail
      refine idx_q rfl rfl ?_; go_wp2_with fail
      refine idx_q rfl rfl ?_; go_wp2_with fail
      refine idx_q rfl rfl ?_; go_wp2_with fail
      refine idx_q rfl rfl ?_; go_wp2_with fail
      refine idx_q rfl rfl ?_; go_wp2_with fail
      refine idx_g rfl ?_; go_wp2_with fail; refine ⟨by first | exact Below.refl _ _ | exact hnew.below, ?_⟩
      refine idx_g rfl ?_; go_wp2_with (first | (go_at_call 34; (try clear hnew); refine (HI.out A27 c27 _ (by rw [← HC.out]; exact hst.old (by decide) hs27)).mono ?_; rintro e Wk10 ⟨rfl, hnew⟩; replace hst := hst.keep hnew) | (go_at_call 36; (try clear hnew); with_reducible refine (rnode_any _ _ _).mono ?_; rintro e Wk11 ⟨rfl, hnew⟩; replace hst := hst.keep hnew) | fail); refine ⟨by first | exact Below.refl _ _ | exact hnew.below, ?_⟩
      refine idx_g rfl ?_; go_wp2_with (first | (go_at_call 34; (try clear hnew); refine (HI.out A27 c27 _ (by rw [← HC.out]; exact hst.old (by decide) hs27)).mono ?_; rintro e Wk10 ⟨rfl, hnew⟩; replace hst := hst.keep hnew) | (go_at_call 36; (try clear hnew); with_reducible refine (rnode_any _ _ _).mono ?_; rintro e Wk11 ⟨rfl, hnew⟩; replace hst := hst.keep hnew) | fail); refine ⟨by first | exact Below.refl _ _ | exact hnew.below, ?_⟩
      refine idx_e rfl ?_; go_wp2_with (first | (refine wpl_at (.store 25 (.tmp 8) (.tmp 48)) rfl ?_; first | (refine L_storeA rfl rfl hst rfl (by rfl) (ev_tmp rfl) (by first | rfl | exact Dig.one _ | (simp; done)) el_api_Digest (by first | rfl | exact Dig.size _ | (simp; done)) 0 rfl (by first | rfl | exact Dig.size _ | (simp; done)) ?_; clear hst; intro WS11 hst; simp only [List.set_cons_zero, List.set_cons_succ] at hst) | (refine L_storeA rfl rfl hst rfl (by rfl) (ev_tmp rfl) (by first | rfl | exact Dig.one _ | (simp; done)) el_api_Digest (by first | rfl | exact Dig.size _ | (simp; done)) 1 rfl (by first | rfl | exact Dig.size _ | (simp; done)) ?_; clear hst; intro WS11 hst; simp only [List.set_cons_zero, List.set_cons_succ] at hst) | (refine L_storeA rfl rfl hst rfl (by rfl) (ev_tmp rfl) (by first | rfl | exact Dig.one _ | (simp; done)) el_api_Digest (by first | rfl | exact Dig.size _ | (simp; done)) 2 rfl (by first | rfl | exact Dig.size _ | (simp; done)) ?_; clear hst; intro WS11 hst; simp only [List.set_cons_zero, List.set_cons_succ] at hst) | (refine L_storeM rfl rfl hst rfl (by rfl) (ev_tmp rfl) (by first | rfl | exact Dig.one _ | (simp; done)) el_api_Digest (by first | rfl | exact Dig.size _ | (simp; done)) 0 rfl (by first | exact of_decide_eq_true rfl | (simp; done)) ?_; clear hst; intro WS11 hst; simp only [List.set_cons_zero, List.set_cons_succ] at hst)  | (refine L_storeM rfl rfl hst rfl (by rfl) (ev_tmp rfl) (by first | rfl | exact Dig.one _ | (simp; done)) el_api_Digest (by first | rfl | exact Dig.size _ | (simp; done)) 1 rfl (by first | exact of_decide_eq_true rfl | (simp; done)) ?_; clear hst; intro WS11 hst; simp only [List.set_cons_zero, List.set_cons_succ] at hst)  | (refine L_storeM rfl rfl hst rfl (by rfl) (ev_tmp rfl) (by first | rfl | exact Dig.one _ | (simp; done)) el_api_Digest (by first | rfl | exact Dig.size _ | (simp; done)) 2 rfl (by first | exact of_decide_eq_true rfl | (simp; done)) ?_; clear hst; intro WS11 hst; simp only [List.set_cons_zero, List.set_cons_succ] at hst)) | fail)
      refine idx_nil ?_
      go_wp2_with fail
      refine bp_cell rfl rfl rfl (hst.get 1 rfl) Tryd.underlying25 rfl el_api_Digest (by first | rfl | exact Dig.size _ | (simp; done)) ?_
      exact ⟨rfl, hst.forget⟩
end Go.Proofs.YtfpppmamkmaneaaDoor
