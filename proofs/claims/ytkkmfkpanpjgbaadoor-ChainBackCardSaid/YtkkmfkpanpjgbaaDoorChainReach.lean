/-
  Proved here: the contracts of a chain that is gone back: reach, Next, Kept.
-/
import Derived.Test.YtkkmfkpanpjgbaaDoorChain
import Derived.Test.YtkkmfkpanpjgbaaDoorChainPlain
import Derived.Test.YtkkmfkpanpjgbaaDoorOpenH
import Derived.Test.YtkkmfkpanpjgbaaDoorEl
import Derived.Test.YtkkmfkpanpjgbaaDoorForkM
import Derived.Test.YtkkmfkpanpjgbaaDoorPair
import Derived.Test.YtkkmfkpanpjgbaaDoorSkip
import Derived.Deep.DeepCutAuto
import Derived.Deep.RegionWith
set_option maxRecDepth 20000
set_option linter.unusedSimpArgs false
set_option linter.unusedVariables false
namespace Go.Proofs.YtkkmfkpanpjgbaaDoor
open Go.RowKit
attribute [local simp] prArr_size

/-- a chain's cells -/
def chArr (A : Option Addr) (n c : Nat) (m : Int) : Array Value := #[.slice A n c, .int .i64 m]
theorem chArr_0 {A : Option Addr} {n c : Nat} {m : Int} : (chArr A n c m)[0]? = some (.slice A n c) := rfl
theorem chArr_1 {A : Option Addr} {n c : Nat} {m : Int} : (chArr A n c m)[1]? = some (.int .i64 m) := rfl
theorem chArr_s0 (A B : Option Addr) (n c n' c' : Nat) (m : Int) : (chArr A n c m).setIfInBounds 0 (.slice B n' c') = chArr B n' c' m := rfl
theorem chArr_s1 (A : Option Addr) (n c : Nat) (m m' : Int) : (chArr A n c m).setIfInBounds 1 (.int .i64 m') = chArr A n c m' := rfl

/-- the pebbles that are kept, so that the m-th is the next one, or ahead of it -/
def keptP (seed : Dig) (m : Nat) : List (Int × Dig) := (posL m).map fun a : Nat => ((a : Int), walkN seed a)
theorem length_keptP (seed : Dig) (m : Nat) : (keptP seed m).length = onesN m + 1 := by rw [keptP, List.length_map, length_posL]
theorem keptP_last (seed : Dig) (m : Nat) : ∃ q, keptP seed m = q ++ [((m : Int), walkN seed m)] := by
  obtain ⟨q, h⟩ := posL_last m
  exact ⟨q.map fun a : Nat => ((a : Int), walkN seed a), by unfold keptP; rw [h, List.map_append]; rfl⟩
theorem keptP_half (seed : Dig) (z q : Nat) : keptP seed (2 ^ (z + 1) * q) ++ [(((2 ^ (z + 1) * q + 2 ^ z : Nat) : Int), walkN (walkN seed (2 ^ (z + 1) * q)) (2 ^ z))] = keptP seed (2 ^ z * (2 * q + 1)) := by
  rw [walkN_add]
  unfold keptP
  rw [← (posL_half z q).1, List.map_append]
  rfl
/-- the chain at g, with the pebbles of the m-th, and the N-th is the next one -/
def Ch (g : Nat) (seed : Dig) (m N : Nat) (A : Option Addr) (c : Nat) : List Res :=
  [.blk g 41 (chArr A (onesN m + 1) c (N : Int)), .row A (onesN m + 1) c 38 33 (pairsL (keptP seed m))]

theorem el_chain_Chain : ElemIs Tryd.prog 41 (.agg (chArr none 0 0 0)) 2 32 := by unfold ElemIs; kernel_rfl
theorem el_chain_pebble : ElemIs Tryd.prog 38 (.agg (prArr 0 zeroD)) 33 40 := by unfold ElemIs; kernel_rfl
theorem el_S_chain_pebble : ElemIs Tryd.prog 39 (.slice none 0 0) 1 24 := by unfold ElemIs; kernel_rfl

set_option maxHeartbeats 2000000 in
theorem reach_any (seed : Dig) (g c N z q : Nat) (A : Option Addr) (w0 w : World) (L : List Res) (hT : Tb w0) (hN : 2 ^ z * q + (2 ^ z - 1) = N) (hN2 : N ≤ 1023) (hst : St w0 w (Ch g seed (2 ^ z * q) N A c ++ L)) :
    Calls Tryd.prog 10 #[.pointer (some ⟨g, 0, none⟩)] w fun e w' => e = .returned (.tuple #[]) ∧ ∃ A' c', St w0 w' (Ch g seed N N A' c' ++ L) := by
  simp only [Ch, List.cons_append, List.nil_append] at hst
  have HT := Lib.hid hT
  have HN := Lib.hid hN
  clear hT hN
  go_enter Tryd.func10, Tryd.ntmps10
  go_wp2_with fail
  go_loopg [] z (fun gk wr => ∃ (k m : Nat) (A' : Option Addr) (c' : Nat), Hid (m = 2 ^ gk * k ∧ m + (2 ^ gk - 1) = N) ∧ St w0 wr (.blk g 41 (chArr A' (onesN m + 1) c' (N : Int)) :: .row A' (onesN m + 1) c' 38 33 (pairsL (keptP seed m)) :: L))
  case atStart => exact ⟨q, _, _, _, Lib.hid ⟨rfl, HN.out⟩, hst⟩
  case round =>
    clear hst
    obtain ⟨k, m, A', c', HM, hst⟩ := hrel
    obtain ⟨r, hr⟩ : ∃ r, r = onesN m := ⟨_, rfl⟩
    have HR := Lib.hid hr
    have hr10 : r ≤ 10 := by
      have := HM.out.2
      have := onesN_bits 10 m (by omega)
      omega
    rw [← hr] at hst
    clear hr
    have hc' : r + 1 ≤ c' := (hst.sl 1 rfl).2.1
    obtain ⟨d, hd⟩ : ∃ d, d = walkN seed m := ⟨_, rfl⟩
    have HD := Lib.hid hd
    obtain ⟨l, hl⟩ : ∃ l, l = pairsL (keptP seed m) := ⟨_, rfl⟩
    have HL := Lib.hid hl
    have HP := Lib.hid (show (l.drop ((r : Int).toNat * 33)).take 33 = (prArr (m : Int) d).toList by
      obtain ⟨q', h⟩ := keptP_last seed m
      have h1 := length_keptP seed m
      rw [h, List.length_append, List.length_singleton, ← HR.out] at h1
      rw [hl, h, pairsL_app, show (r : Int).toNat = q'.length by omega, List.drop_left' (length_pairsL q'), pairsL_one, hd, List.take_of_length_le (by rw [Array.length_toList, prArr_size]; exact Nat.le_refl _)])
    rw [← hl] at hst
    clear hl hd
    go_wp2_with fail
    refine wp_region_idx [(0, 0), (1, 0), (2, 0), (3, 0), (4, 0), (5, 0), (6, 0), (7, 0), (8, 0), (9, 0), (10, 0), (11, 0), (12, 2), (13, 1)] (by kernel_rfl) (by kernel_rfl) ?_
    replace hst := hst.drew
    refine idx_q rfl rfl ?_; go_wp2_with fail
    refine idx_q rfl rfl ?_; go_wp2_with fail
    refine idx_qf rfl rfl (by kernel_rfl) ?_; go_wp2_with fail
    refine idx_q rfl rfl ?_; go_wp2_with ((refine L_load1 (d := some 8) rfl rfl rfl (by rfl) Tryd.underlying39 rfl (by (exact cell_of (hst.get 0 rfl) chArr_0)) ?_))
    refine idx_q rfl rfl ?_; go_wp2_with fail
    refine idx_q rfl rfl ?_; go_wp2_with fail
    refine idx_qf rfl rfl (by kernel_rfl) ?_; go_wp2_with fail
    refine idx_q rfl rfl ?_; go_wp2_with ((refine L_load1 (d := some 12) rfl rfl rfl (by rfl) Tryd.underlying39 rfl (by (exact cell_of (hst.get 0 rfl) chArr_0)) ?_))
    refine idx_q rfl rfl ?_; go_wp2_with (fail)
    refine idx_q rfl rfl ?_; go_wp2_with fail
    refine idx_q rfl rfl ?_; go_wp2_with ((refine L_idxS (d := some 15) rfl rfl rfl (by rfl) (by rfl) Tryd.underlying39 el_chain_pebble (by (exact hst.sl 1 rfl)) (by omega) (by omega) ?_; intro o15 p15 ha15 hr15; ((subst ha15))))
    refine idx_q rfl rfl ?_; go_wp2_with ((refine L_loadM (d := some 16) rfl rfl rfl (by rfl) Tryd.underlying38 rfl el_chain_pebble (cs := prArr (m : Int) d) (by rw [← HP.out]; exact hr15) (prArr_size _ _) ?_))
    refine idx_g rfl ?_; go_wp2_with ((refine L_allocA (d := some 2) rfl rfl rfl el_chain_pebble ?_; (try clear hnew); intro g2 W2 hnew; replace hst := hst.trans hnew; simp only [List.cons_append, List.nil_append] at hst)); refine ⟨by (exact hnew.below), ?_⟩
    refine idx_e rfl ?_; go_wp2_with ((refine wpl_at (.store 38 (.tmp 2) (.tmp 16)) rfl ?_; (refine L_storeA rfl rfl hst rfl (by rfl) (ev_tmp rfl) (by (exact prArr_all _ _)) el_chain_pebble (by (exact prArr_size _ _)) 0 rfl (by (rfl)) ?_; clear hst; intro WS13 hst; simp only [List.set_cons_zero, List.set_cons_succ] at hst)))
    refine idx_nil ?_
    clear hnew
    go_wp2_with fail
    refine wp_region_idx [(0, 0), (1, 0), (2, 0), (3, 0), (4, 2), (5, 2), (6, 2), (7, 2)] (by kernel_rfl) (by kernel_rfl) ?_
    replace hst := hst.drew
    refine idx_q rfl rfl ?_; go_wp2_with fail
    refine idx_q rfl rfl ?_; go_wp2_with fail
    refine idx_qf rfl rfl (by kernel_rfl) ?_; go_wp2_with fail
    refine idx_q rfl rfl ?_; go_wp2_with ((refine L_load1 (d := some 20) rfl rfl rfl (by rfl) Tryd.underlying3 rfl (by (exact cell_of (hst.get 1 rfl) chArr_1)) ?_))
    refine idx_g rfl ?_; go_wp2_with fail; refine ⟨by (exact Below.refl _ _), ?_⟩
    refine idx_g rfl ?_; go_wp2_with ((refine L_load1 (d := some 22) rfl rfl rfl (by rfl) Tryd.underlying3 rfl (by (exact cell_of (hst.get 0 rfl) prArr_0)) ?_)); refine ⟨by (exact Below.refl _ _), ?_⟩
    refine idx_g rfl ?_; go_wp2_with fail; refine ⟨by (exact Below.refl _ _), ?_⟩
    refine idx_g rfl ?_; go_wp2_with fail; refine ⟨by (exact Below.refl _ _), ?_⟩
    refine idx_nil ?_
    obtain ⟨f, hf⟩ : ∃ f : Nat, f = 2 ^ gk - 1 := ⟨_, rfl⟩
    have hm := HM.out.2
    have HF := Lib.hid (show wrap64 ((N : Int) - (m : Int)) = (f : Int) by
      rw [show ((N : Int) - (m : Int)) = (f : Int) by omega]
      exact (show ∀ x : Int, 0 ≤ x → x ≤ 1023 → wrap64 x = x from fun x h1 h2 => by unfold wrap64; omega) _ (by omega) (by omega))
    rw [HF.out]
    have HFG := Lib.hid (show f = 2 ^ gk - 1 from hf)
    clear hm hf
    by_cases h0 : f = 0
    · subst h0
      have hz : ((0 : Nat) : Int) ≤ 0 := by decide
      go_wp2_with (fail)
      refine bodyPost_ret (results_none rfl _ _ _) rfl ?_
      have hm := HM.out.2
      have hf := HFG.out
      obtain rfl : m = N := by omega
      refine ⟨rfl, some ⟨o15, p15, none⟩, c', ?_⟩
      simp only [Ch, List.cons_append, List.nil_append]
      rw [← HR.out, ← HL.out]
      exact hst.tail
    · have hp : ¬ (f : Int) ≤ 0 := by omega
      obtain ⟨y, rfl⟩ : ∃ y, gk = y + 1 := ⟨gk - 1, by
        have := HFG.out
        cases gk with
        | zero => exact absurd this h0
        | succ n => rfl⟩
      go_wp2_with (fail)
      obtain ⟨h, hh⟩ : ∃ h, h = 2 ^ y := ⟨_, rfl⟩
      have HH := Lib.hid hh
      have HS := Lib.hid (show f + 1 = 2 * h ∧ m + f = N by
        have h1 := HM.out.2
        have h2 := HFG.out
        have h3 := Nat.two_pow_pos y
        rw [Nat.pow_succ] at h1 h2
        omega)
      have HW := Lib.hid (show wrap64 ((wrap64 ((f : Int) + 1)).tdiv 2) = (h : Int) by
        have h1 := HS.out
        have hw : ∀ x : Int, 0 ≤ x → x ≤ 1024 → wrap64 x = x := fun x h1 h2 => by unfold wrap64; omega
        rw [hw ((f : Int) + 1) (by omega) (by omega), show ((f : Int) + 1).tdiv 2 = (h : Int) by rw [show ((f : Int) + 1) = (h : Int) * 2 by omega]; exact Int.mul_tdiv_cancel _ (by decide)]
        exact hw _ (by omega) (by omega))
      have HWm := Lib.hid (show wrap64 ((m : Int) + (h : Int)) = ((m : Int) + (h : Int)) by
        have h1 := HS.out
        unfold wrap64
        omega)
      have HB := Lib.hid (show h ≤ 1000 by have := HS.out; omega)
      rw [HW.out]
      clear hh HW hp
      refine wp_region_pm (.one 0 3 (.one 1 3 (.one 7 3 (.one 11 3 (.one 2 0 (.one 3 0 (.one 4 0 (.one 5 0 (.one 6 0 (.one 8 0 (.one 9 2 (.one 10 2 (.one 12 2 (.one 13 2 (.one 14 2 (.one 15 1 (.one 16 2 (.one 17 2 (.one 18 1 .nil))))))))))))))))))) (by kernel_rfl) (by kernel_rfl) ?_
      replace hst := hst.drew
      refine pm_p rfl rfl ?_; go_wp2_with fail
      refine pm_p rfl rfl ?_; go_wp2_with fail
      refine pm_p rfl rfl ?_; go_wp2_with fail
      refine pm_p rfl rfl ?_; go_wp2_with fail
      refine pm_q rfl rfl ?_; go_wp2_with fail
      refine pm_qf rfl rfl (by kernel_rfl) ?_; go_wp2_with fail
      refine pm_q rfl rfl ?_; go_wp2_with ((refine L_load1 (d := some 33) rfl rfl rfl (by rfl) Tryd.underlying39 rfl (by (exact cell_of (hst.get 1 rfl) chArr_0)) ?_))
      refine pm_qf rfl rfl (by kernel_rfl) ?_; go_wp2_with fail
      refine pm_q rfl rfl ?_; go_wp2_with ((refine L_load1 (d := some 35) rfl rfl rfl (by rfl) Tryd.underlying3 rfl (by (exact cell_of (hst.get 0 rfl) prArr_0)) ?_))
      refine pm_q rfl rfl ?_; go_wp2_with fail
      refine pm_g rfl ?_; go_wp2_with fail; refine ⟨by (exact Below.refl _ _), ?_⟩
      refine pm_g rfl ?_; go_wp2_with (((refine L_loadM (d := some 39) rfl rfl rfl (by rfl) Tryd.underlying23 rfl el_api_Digest (by (exact prArr_range (hst.get 0 rfl))) (by (exact Dig.size _)) ?_))); refine ⟨by (exact Below.refl _ _), ?_⟩
      refine pm_g rfl ?_; go_wp2_with ((go_at_call 12; (try clear hnew); refine (walk_any _ _ _ (HT.out.of hst) HB.out).mono ?_; rintro e Wk1 ⟨rfl, hnew⟩; replace hst := hst.keep hnew)); refine ⟨by (exact hnew.below), ?_⟩
      refine pm_g rfl ?_; go_wp2_with ((refine L_buildP (d := some 42) rfl rfl rfl Tryd.underlying38 el_int el_api_Digest rfl rfl el_chain_pebble (prArr_size _ _) (ev_tmp rfl) (ev_tmp rfl) ?_)); refine ⟨by (exact Below.refl _ _), ?_⟩
      refine pm_g rfl ?_; go_wp2_with ((refine L_buildS (d := some 43) rfl rfl rfl [_] (bs_1 (ev_tmp rfl)) rfl Tryd.underlying39 el_chain_pebble rfl (by (simp [Value.cells]; done)) (by decide) (by decide) ?_; (try clear hnew); intro g43 W43 hnew; replace hst := hst.trans hnew; simp only [List.cons_append, List.nil_append] at hst; simp only [List.flatMap_cons, List.flatMap_nil, List.append_nil, Value.cells, List.toList_toArray] at hst)); refine ⟨by (exact hnew.below), ?_⟩
      refine pm_e rfl ?_; go_wp2_with ((refine L_appendO (d := some 44) rfl rfl hst rfl (by rfl) (by rfl) Tryd.underlying39 el_chain_pebble rfl (by decide) (by decide) 3 rfl (by (rfl)) (by (exact hst.sl 0 rfl)) (by (exact prArr_one _ _)) (by omega) ?_; clear hst; intro A44 c44 W44 hst; simp only [List.set_cons_zero, List.set_cons_succ, List.nil_append, Nat.zero_add] at hst))
      refine pm_g rfl ?_; go_wp2_with fail; refine ⟨by (exact Below.refl _ _), ?_⟩
      refine pm_g rfl ?_; go_wp2_with fail; refine ⟨by (exact Below.refl _ _), ?_⟩
      refine pm_e rfl ?_; go_wp2_with ((refine wpl_at (.store 39 (.tmp 46) (.tmp 44)) rfl ?_; (refine L_store1 rfl rfl hst rfl (by rfl) (ev_tmp rfl) rfl el_S_chain_pebble 2 rfl (by (exact of_decide_eq_true rfl)) ?_; clear hst; intro WS18 hst; simp only [List.set_cons_zero, List.set_cons_succ, chArr_s0] at hst)))
      refine pm_nil ?_
      have HK2 := Lib.hid (show l ++ (prArr ((m : Int) + (h : Int)) (walkN d h)).toList = pairsL (keptP seed (2 ^ y * (2 * k + 1))) ∧ onesN (2 ^ y * (2 * k + 1)) + 1 = r + 1 + 1 ∧ 2 ^ y * (2 * k + 1) + (2 ^ y - 1) = N by
        have h1 := HM.out.1
        have h2 := HM.out.2
        have e := keptP_half seed y k
        have e2 := (posL_half y k).2
        have el := congrArg List.length e
        rw [List.length_append, length_keptP, length_keptP, List.length_singleton, ← h1, ← HR.out] at el
        refine ⟨?_, by omega, by rw [← e2.2.1, ← h1]; exact h2⟩
        rw [← e, pairsL_app, pairsL_one, HL.out, HD.out, h1, HH.out]
        simp)
      go_wp2_with fail
      rewrite [HWm.out] at hst
      rewrite [HK2.out.1, ← HK2.out.2.1] at hst
      go_roundg y
      case measure => omega
      case rel => exact ⟨2 * k + 1, 2 ^ y * (2 * k + 1), A44, c44, Lib.hid ⟨rfl, HK2.out.2.2⟩, hst.tail.tail⟩
end Go.Proofs.YtkkmfkpanpjgbaaDoor
