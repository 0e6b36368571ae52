/-
  Proved here: the contracts of the reference's chain keys: WotsPublic, WotsSigned, WotsKey. No condition.
-/
import Derived.Test.YtfpppmamkmaneaaDoorRefWots
import Derived.Test.YtfpppmamkmaneaaDoorWotsB
import Derived.Test.YtfpppmamkmaneaaDoorWotsPlain
import Derived.Test.YtfpppmamkmaneaaDoorDrawT
import Derived.Deep.DeepCutAuto
import Derived.Deep.RegionWith
set_option maxRecDepth 20000
namespace Go.Proofs.YtfpppmamkmaneaaDoor
open Go.RowKit

theorem rwalked15 (d : Dig) (w : World) : Calls Tryd.prog 74 #[d.v, .int .i64 15] w fun e w' => e = .returned (walkN d 15).v ∧ St w w' [] := rwalked_any d 15 w (by decide)

set_option maxHeartbeats 2000000 in
theorem rwpublic_any (seed : Dig) (w : World) : Calls Tryd.prog 49 #[seed.v] w fun e w' => e = .returned (wotsN seed).v ∧ St w w' [] := by
  have hst := St.refl w
  obtain ⟨ds, R, HD, HR, HW⟩ : ∃ (ds : Nat → Dig) (R : List Dig), Hid (∀ i, walkN (wSecretN seed i) 15 = ds i) ∧ Hid ((List.range 67).map ds = R) ∧ Hid (ofN 7 R = wotsN seed) := ⟨fun i => walkN (wSecretN seed i) 15, _, Lib.hid fun _ => rfl, Lib.hid rfl, Lib.hid rfl⟩
  go_enter Tryd.func49, Tryd.ntmps49
  go_upto_region 1 with (first
    | (refine L_boxA (d := some 1) rfl rfl rfl (ev_tmp rfl) ?_; (try clear hnew); intro g1 W1 hnew; replace hst := hst.trans hnew; simp only [List.cons_append, List.nil_append] at hst)
    | (refine L_allocA (d := some 2) rfl rfl rfl el_api_Digest ?_; (try clear hnew); intro g2 W2 hnew; replace hst := hst.trans hnew; simp only [List.cons_append, List.nil_append] at hst)
    | fail)
  go_upto_region 2 with (first
    | fail)
  go_upto_region 3 with (first
    | fail)
  have hst : St w _ [.row none 0 0 25 32 (digsL ((List.range 0).map ds)), .blk g2 25 zeroD.arr, .blk g1 25 seed.arr] := hst.nilRow 25 32
  go_loopg [3, 4] 67 (fun gk s3 s4 wr => ∃ (i : Nat) (O : Option Addr) (oc : Nat), Hid (i + gk = 67) ∧ s3 = .slice O i oc ∧ s4 = .int .i64 (i : Int) ∧ St w wr [.row O i oc 25 32 (digsL ((List.range i).map ds)), .blk g2 25 zeroD.arr, .blk g1 25 seed.arr])
  case atStart => exact ⟨0, _, _, Lib.hid rfl, rfl, rfl, hst⟩
  case round =>
    clear hst
    obtain ⟨i, O, oc, HI, rfl, rfl, hst⟩ := hrel
    have hi := HI.out
    by_cases hin : i < 67
    · clear hi
      go_wp2_with (first
        | (go_at_call 75; (try clear hnew); refine (rwsecret_any seed i (by omega) _).mono ?_; rintro e Wk1 ⟨rfl, hnew⟩; replace hst := hst.keep hnew)
        | (go_at_call 74; (try clear hnew); refine (rwalked15 _ _).mono ?_; rintro e Wk2 ⟨rfl, hnew⟩; replace hst := hst.keep hnew)
        | (first | (refine L_loadA (d := some 10) rfl rfl rfl (by rfl) Tryd.underlying25 rfl el_api_Digest (by first | exact hst.get 0 rfl | exact hst.get 1 rfl | exact hst.get 2 rfl | exact hst.get 3 rfl) (by first | rfl | exact Dig.size _ | (simp; done)) ?_) | (refine L_loadM (d := some 10) rfl rfl rfl (by rfl) Tryd.underlying25 rfl el_api_Digest (by first | assumption) (by first | rfl | exact Dig.size _ | (simp; done)) ?_))
        | (refine L_buildS (d := some 14) rfl rfl rfl [_] (bs_1 (ev_tmp rfl)) rfl Tryd.underlying22 el_api_Digest rfl (by first | (simp [Value.cells]; done) | (simp [Value.cells, Dig.size]; done)) (by decide) (by decide) ?_; (try clear hnew); intro g14 W14 hnew; replace hst := hst.trans hnew; simp only [List.cons_append, List.nil_append] at hst; simp only [List.flatMap_cons, List.flatMap_nil, List.append_nil, Value.cells, List.toList_toArray] at hst)
        | (refine L_appendO (d := some 15) rfl rfl hst rfl (by rfl) (by rfl) Tryd.underlying22 el_api_Digest rfl (by decide) (by decide) 0 rfl (by first | rfl | omega) (by first | exact hst.sl 0 rfl | exact hst.sl 1 rfl | exact hst.sl 2 rfl | exact hst.sl 3 rfl | assumption | exact hst.old (by decide) (by assumption)) (by first | exact oneCell_bytes | (simp [Value.oneCell']; done) | exact Dig.oneL _) (by omega) ?_; clear hst; intro A15 c15 W15 hst; simp only [List.set_cons_zero, List.set_cons_succ, List.nil_append, Nat.zero_add] at hst)
        | (refine L_appendO (d := some 15) rfl rfl hst rfl (by rfl) (by rfl) Tryd.underlying22 el_api_Digest rfl (by decide) (by decide) 1 rfl (by first | rfl | omega) (by first | exact hst.sl 0 rfl | exact hst.sl 1 rfl | exact hst.sl 2 rfl | exact hst.sl 3 rfl | assumption | exact hst.old (by decide) (by assumption)) (by first | exact oneCell_bytes | (simp [Value.oneCell']; done) | exact Dig.oneL _) (by omega) ?_; clear hst; intro A15 c15 W15 hst; simp only [List.set_cons_zero, List.set_cons_succ, List.nil_append, Nat.zero_add] at hst)
        | (refine L_appendO (d := some 15) rfl rfl hst rfl (by rfl) (by rfl) Tryd.underlying22 el_api_Digest rfl (by decide) (by decide) 2 rfl (by first | rfl | omega) (by first | exact hst.sl 0 rfl | exact hst.sl 1 rfl | exact hst.sl 2 rfl | exact hst.sl 3 rfl | assumption | exact hst.old (by decide) (by assumption)) (by first | exact oneCell_bytes | (simp [Value.oneCell']; done) | exact Dig.oneL _) (by omega) ?_; clear hst; intro A15 c15 W15 hst; simp only [List.set_cons_zero, List.set_cons_succ, List.nil_append, Nat.zero_add] at hst)
        | (refine L_appendO (d := some 15) rfl rfl hst rfl (by rfl) (by rfl) Tryd.underlying22 el_api_Digest rfl (by decide) (by decide) 3 rfl (by first | rfl | omega) (by first | exact hst.sl 0 rfl | exact hst.sl 1 rfl | exact hst.sl 2 rfl | exact hst.sl 3 rfl | assumption | exact hst.old (by decide) (by assumption)) (by first | exact oneCell_bytes | (simp [Value.oneCell']; done) | exact Dig.oneL _) (by omega) ?_; clear hst; intro A15 c15 W15 hst; simp only [List.set_cons_zero, List.set_cons_succ, List.nil_append, Nat.zero_add] at hst)
        | (refine L_appendF (d := some 15) rfl rfl rfl (by rfl) (by rfl) Tryd.underlying22 el_api_Digest rfl (by decide) (by assumption) (by first | assumption | exact hst.sl 0 rfl | exact hst.sl 1 rfl | exact hst.sl 2 rfl | exact hst.sl 3 rfl | assumption | exact hst.old (by decide) (by assumption)) (by omega) (by omega) (by omega) ?_; (try clear hnew); intro A15 c15 W15 hnew; replace hst := hst.trans hnew; simp only [List.cons_append, List.nil_append] at hst)
        | fail)
      go_roundg (gk - 1)
      case measure => have hi := HI.out; omega
      case rel =>
        have hi := HI.out
        refine ⟨i + 1, A15, c15, Lib.hid (by omega), rfl, by go_num, ?_⟩
        rw [List.range_succ, List.map_append, digsL_append]
        simp only [List.map_cons, List.map_nil, digsL_single, ← HD.out]
        exact hst.pick [1, 2, 3] (by decide)
    · obtain rfl : i = 67 := by omega
      rw [HR.out] at hst
      clear hi HI
      go_wp2_with (first
        | (go_at_call 67; (try clear hnew); refine (rof_any 7 R _ _ _ _ (hst.sl 0 rfl) (by decide)).mono ?_; rintro e Wk3 ⟨rfl, hnew⟩; replace hst := hst.keep hnew)
        | (refine wpl_at (.store 25 (.tmp 2) (.tmp 17)) rfl ?_; first | (refine L_storeA rfl rfl hst rfl (by rfl) (ev_tmp rfl) (by first | rfl | exact Dig.one _ | (simp; done)) el_api_Digest (by first | rfl | exact Dig.size _ | (simp; done)) 0 rfl (by first | rfl | exact Dig.size _ | (simp; done)) ?_; clear hst; intro WS2 hst; simp only [List.set_cons_zero, List.set_cons_succ] at hst) | (refine L_storeA rfl rfl hst rfl (by rfl) (ev_tmp rfl) (by first | rfl | exact Dig.one _ | (simp; done)) el_api_Digest (by first | rfl | exact Dig.size _ | (simp; done)) 1 rfl (by first | rfl | exact Dig.size _ | (simp; done)) ?_; clear hst; intro WS2 hst; simp only [List.set_cons_zero, List.set_cons_succ] at hst) | (refine L_storeA rfl rfl hst rfl (by rfl) (ev_tmp rfl) (by first | rfl | exact Dig.one _ | (simp; done)) el_api_Digest (by first | rfl | exact Dig.size _ | (simp; done)) 2 rfl (by first | rfl | exact Dig.size _ | (simp; done)) ?_; clear hst; intro WS2 hst; simp only [List.set_cons_zero, List.set_cons_succ] at hst) | (refine L_storeM rfl rfl hst rfl (by rfl) (ev_tmp rfl) (by first | rfl | exact Dig.one _ | (simp; done)) el_api_Digest (by first | rfl | exact Dig.size _ | (simp; done)) 0 rfl (by first | exact of_decide_eq_true rfl | (simp; done)) ?_; clear hst; intro WS2 hst; simp only [List.set_cons_zero, List.set_cons_succ] at hst)  | (refine L_storeM rfl rfl hst rfl (by rfl) (ev_tmp rfl) (by first | rfl | exact Dig.one _ | (simp; done)) el_api_Digest (by first | rfl | exact Dig.size _ | (simp; done)) 1 rfl (by first | exact of_decide_eq_true rfl | (simp; done)) ?_; clear hst; intro WS2 hst; simp only [List.set_cons_zero, List.set_cons_succ] at hst)  | (refine L_storeM rfl rfl hst rfl (by rfl) (ev_tmp rfl) (by first | rfl | exact Dig.one _ | (simp; done)) el_api_Digest (by first | rfl | exact Dig.size _ | (simp; done)) 2 rfl (by first | exact of_decide_eq_true rfl | (simp; done)) ?_; clear hst; intro WS2 hst; simp only [List.set_cons_zero, List.set_cons_succ] at hst))
        | fail)
      rw [HW.out] at hst
      refine bp_cell rfl rfl rfl (hst.get 1 rfl) Tryd.underlying25 rfl el_api_Digest (by first | rfl | exact Dig.size _ | (simp; done)) ?_
      exact ⟨rfl, hst.forget⟩

set_option maxHeartbeats 2000000 in
theorem rwsigned_any (seed m : Dig) (w : World) : Calls Tryd.prog 47 #[seed.v, m.v] w fun e w' => ∃ A c, e = .returned (.slice A 67 c) ∧ St w w' [.row A 67 c 25 32 (digsL (wSigN seed m))] := by
  have hst := St.refl w
  have hcell : ∀ i, i < 67 → (digitsN m.l).getD i 0 ≤ 1000 ∧ (natsL (digitsN m.l))[i]? = some (.int .i64 (((digitsN m.l).getD i 0 : Nat) : Int)) := fun i hi => by
    have hl := length_digitsN' m
    exact ⟨digit_le m i hi, by simp [natsL, natV, hl, hi]⟩
  obtain ⟨ds, af, R, HD, HA, HR, HW⟩ : ∃ (ds : Nat → Dig) (af : Nat → Nat) (R : List Dig), Hid (∀ i, walkN (wSecretN seed i) (af i) = ds i) ∧ Hid (∀ i, i < 67 → af i ≤ 1000 ∧ (natsL (digitsN m.l))[i]? = some (.int .i64 (af i : Int))) ∧ Hid ((List.range 67).map ds = R) ∧ Hid (digsL R = digsL (wSigN seed m)) := ⟨fun i => walkN (wSecretN seed i) ((digitsN m.l).getD i 0), fun i => (digitsN m.l).getD i 0, _, Lib.hid fun _ => rfl, Lib.hid hcell, Lib.hid rfl, Lib.hid rfl⟩
  clear hcell
  go_enter Tryd.func47, Tryd.ntmps47
  go_upto_region 1 with (first
    | (refine L_boxA (d := some 2) rfl rfl rfl (ev_tmp rfl) ?_; (try clear hnew); intro g2 W2 hnew; replace hst := hst.trans hnew; simp only [List.cons_append, List.nil_append] at hst)
    | (refine L_boxA (d := some 3) rfl rfl rfl (ev_tmp rfl) ?_; (try clear hnew); intro g3 W3 hnew; replace hst := hst.trans hnew; simp only [List.cons_append, List.nil_append] at hst)
    | fail)
  go_upto_region 2 with (first
    | (go_at_call 45; (try clear hnew); refine (rnibbles_any m _).mono ?_; rintro e Wk4 ⟨A9, c9, rfl, hnew⟩; replace hst := hst.trans hnew; simp only [List.cons_append, List.nil_append] at hst)
    | (first | (refine L_loadA (d := some 8) rfl rfl rfl (by rfl) Tryd.underlying25 rfl el_api_Digest (by first | exact hst.get 0 rfl | exact hst.get 1 rfl) (by first | rfl | exact Dig.size _ | (simp; done)) ?_) | (refine L_loadM (d := some 8) rfl rfl rfl (by rfl) Tryd.underlying25 rfl el_api_Digest (by first | assumption) (by first | rfl | exact Dig.size _ | (simp; done)) ?_))
    | fail)
  go_upto_region 3 with (first
    | fail)
  go_upto_region 4 with (first
    | fail)
  clear hnew
  generalize natsL (digitsN m.l) = la at *
  have hst : St w _ [.row none 0 0 25 32 (digsL ((List.range 0).map ds)), .row A9 67 c9 3 1 la, .blk g3 25 m.arr, .blk g2 25 seed.arr] := hst.nilRow 25 32
  go_loopg [6, 7] 67 (fun gk s6 s7 wr => ∃ (i : Nat) (O : Option Addr) (oc : Nat), Hid (i + gk = 67) ∧ s6 = .slice O i oc ∧ s7 = .int .i64 (i : Int) ∧ St w wr [.row O i oc 25 32 (digsL ((List.range i).map ds)), .row A9 67 c9 3 1 la, .blk g3 25 m.arr, .blk g2 25 seed.arr])
  case atStart => exact ⟨0, _, _, Lib.hid rfl, rfl, rfl, hst⟩
  case round =>
    clear hst
    obtain ⟨i, O, oc, HI, rfl, rfl, hst⟩ := hrel
    have hi := HI.out
    by_cases hin : i < 67
    · clear hi
      obtain ⟨hk, hac⟩ := HA.out i hin
      have HC := Lib.hid hac
      have HDi := Lib.hid (HD.out i)
      clear hac
      generalize af i = x at hk HC HDi
      go_wp2_with (first
        | fail)
      refine wp_region_idxT [(0, 0), (1, 0), (2, 0), (4, 0), (5, 0), (6, 0), (7, 0), (3, 2), (8, 2), (9, 2), (10, 1), (11, 2)] (by kernel_rfl) (by kernel_rfl) ?_
      replace hst := hst.drew
      refine idx_q rfl rfl ?_; go_wp2_with fail
      refine idx_q rfl rfl ?_; go_wp2_with (first | (first | (refine L_loadA (d := some 15) rfl rfl rfl (by rfl) Tryd.underlying25 rfl el_api_Digest (by first | exact hst.get 0 rfl | exact hst.get 1 rfl | exact hst.get 2 rfl | exact hst.get 3 rfl | exact hst.get 4 rfl) (by first | rfl | exact Dig.size _ | (simp; done)) ?_) | (refine L_loadM (d := some 15) rfl rfl rfl (by rfl) Tryd.underlying25 rfl el_api_Digest (by first | assumption) (by first | rfl | exact Dig.size _ | (simp; done)) ?_)) | fail)
      refine idx_q rfl rfl ?_; go_wp2_with fail
      refine idx_q rfl rfl ?_; go_wp2_with fail
      refine idx_q rfl rfl ?_; go_wp2_with fail
      refine idx_q rfl rfl ?_; go_wp2_with (first | (refine L_idxS (d := some 20) rfl rfl rfl (by rfl) (by rfl) Tryd.underlying63 el_int (by first | assumption | exact hst.sl 0 rfl | exact hst.sl 1 rfl | exact hst.sl 2 rfl | exact hst.sl 3 rfl | exact hst.sl 4 rfl | exact hst.old (by decide) (by assumption)) (by omega) (by omega) ?_; intro o20 p20 ha20 hr20; (first | subst ha20 | (obtain ⟨h1, h2⟩ := some_addr ha20; subst h1; subst h2; clear ha20) | skip)) | fail)
      refine idx_q rfl rfl ?_; go_wp2_with (first | (refine L_load1 (d := some 21) rfl rfl rfl (by rfl) Tryd.underlying3 rfl (cell_of_range1 hr20 (k := i) (by omega) HC.out) ?_) | (refine L_load1 (d := some 21) rfl rfl rfl (by rfl) Tryd.underlying3 rfl (by first | assumption | exact cell_of (hst.get 0 rfl) rfl | exact cell_of (hst.get 1 rfl) rfl | exact cell_of (hst.get 2 rfl) rfl | exact cell_of (hst.get 3 rfl) rfl | exact cell_of (hst.get 4 rfl) rfl) ?_) | fail)
      refine idx_g rfl ?_; go_wp2_with (first | (refine L_load1 (d := some 21) rfl rfl rfl (by rfl) Tryd.underlying3 rfl (cell_of_range1 hr20 (k := i) (by omega) HC.out) ?_) | (go_at_call 75; (try clear hnew); refine (rwsecret_any seed i (by omega) _).mono ?_; rintro e Wk5 ⟨rfl, hnew⟩; replace hst := hst.keep hnew) | (go_at_call 74; (try clear hnew); refine (rwalked_any (wSecretN seed i) x _ (by omega)).mono ?_; rintro e Wk6 ⟨rfl, hnew⟩; replace hst := hst.keep hnew) | fail); refine ⟨by first | exact Below.refl _ _ | exact hnew.below, ?_⟩
      refine idx_g rfl ?_; go_wp2_with (first | (refine L_load1 (d := some 21) rfl rfl rfl (by rfl) Tryd.underlying3 rfl (cell_of_range1 hr20 (k := i) (by omega) HC.out) ?_) | (go_at_call 75; (try clear hnew); refine (rwsecret_any seed i (by omega) _).mono ?_; rintro e Wk5 ⟨rfl, hnew⟩; replace hst := hst.keep hnew) | (go_at_call 74; (try clear hnew); refine (rwalked_any (wSecretN seed i) x _ (by omega)).mono ?_; rintro e Wk6 ⟨rfl, hnew⟩; replace hst := hst.keep hnew) | fail); refine ⟨by first | exact Below.refl _ _ | exact hnew.below, ?_⟩
      refine idx_g rfl ?_; go_wp2_with (first | (refine L_buildS (d := some 23) rfl rfl rfl [_] (bs_1 (ev_tmp rfl)) rfl Tryd.underlying22 el_api_Digest rfl (by first | (simp [Value.cells]; done) | (simp [Value.cells, Dig.size]; done)) (by decide) (by decide) ?_; (try clear hnew); intro g23 W23 hnew; replace hst := hst.trans hnew; simp only [List.cons_append, List.nil_append] at hst; simp only [List.flatMap_cons, List.flatMap_nil, List.append_nil, Value.cells, List.toList_toArray] at hst) | fail); refine ⟨by first | exact Below.refl _ _ | exact hnew.below, ?_⟩
      refine idx_e rfl ?_; go_wp2_with (first | (refine L_load1 (d := some 21) rfl rfl rfl (by rfl) Tryd.underlying3 rfl (cell_of_range1 hr20 (k := i) (by omega) HC.out) ?_) | (go_at_call 75; (try clear hnew); refine (rwsecret_any seed i (by omega) _).mono ?_; rintro e Wk5 ⟨rfl, hnew⟩; replace hst := hst.keep hnew) | (go_at_call 74; (try clear hnew); refine (rwalked_any (wSecretN seed i) x _ (by omega)).mono ?_; rintro e Wk6 ⟨rfl, hnew⟩; replace hst := hst.keep hnew) | (refine L_appendO (d := some 24) rfl rfl hst rfl (by rfl) (by rfl) Tryd.underlying22 el_api_Digest rfl (by decide) (by decide) 0 rfl (by first | rfl | omega) (by first | exact hst.sl 0 rfl | exact hst.sl 1 rfl | exact hst.sl 2 rfl | exact hst.sl 3 rfl | exact hst.sl 4 rfl | assumption | exact hst.old (by decide) (by assumption)) (by first | exact oneCell_bytes | (simp [Value.oneCell']; done) | exact Dig.oneL _) (by omega) ?_; clear hst; intro A24 c24 W24 hst; simp only [List.set_cons_zero, List.set_cons_succ, List.nil_append, Nat.zero_add] at hst) | (refine L_appendO (d := some 24) rfl rfl hst rfl (by rfl) (by rfl) Tryd.underlying22 el_api_Digest rfl (by decide) (by decide) 1 rfl (by first | rfl | omega) (by first | exact hst.sl 0 rfl | exact hst.sl 1 rfl | exact hst.sl 2 rfl | exact hst.sl 3 rfl | exact hst.sl 4 rfl | assumption | exact hst.old (by decide) (by assumption)) (by first | exact oneCell_bytes | (simp [Value.oneCell']; done) | exact Dig.oneL _) (by omega) ?_; clear hst; intro A24 c24 W24 hst; simp only [List.set_cons_zero, List.set_cons_succ, List.nil_append, Nat.zero_add] at hst) | (refine L_appendO (d := some 24) rfl rfl hst rfl (by rfl) (by rfl) Tryd.underlying22 el_api_Digest rfl (by decide) (by decide) 2 rfl (by first | rfl | omega) (by first | exact hst.sl 0 rfl | exact hst.sl 1 rfl | exact hst.sl 2 rfl | exact hst.sl 3 rfl | exact hst.sl 4 rfl | assumption | exact hst.old (by decide) (by assumption)) (by first | exact oneCell_bytes | (simp [Value.oneCell']; done) | exact Dig.oneL _) (by omega) ?_; clear hst; intro A24 c24 W24 hst; simp only [List.set_cons_zero, List.set_cons_succ, List.nil_append, Nat.zero_add] at hst) | (refine L_appendO (d := some 24) rfl rfl hst rfl (by rfl) (by rfl) Tryd.underlying22 el_api_Digest rfl (by decide) (by decide) 3 rfl (by first | rfl | omega) (by first | exact hst.sl 0 rfl | exact hst.sl 1 rfl | exact hst.sl 2 rfl | exact hst.sl 3 rfl | exact hst.sl 4 rfl | assumption | exact hst.old (by decide) (by assumption)) (by first | exact oneCell_bytes | (simp [Value.oneCell']; done) | exact Dig.oneL _) (by omega) ?_; clear hst; intro A24 c24 W24 hst; simp only [List.set_cons_zero, List.set_cons_succ, List.nil_append, Nat.zero_add] at hst) | (refine L_appendO (d := some 24) rfl rfl hst rfl (by rfl) (by rfl) Tryd.underlying22 el_api_Digest rfl (by decide) (by decide) 4 rfl (by first | rfl | omega) (by first | exact hst.sl 0 rfl | exact hst.sl 1 rfl | exact hst.sl 2 rfl | exact hst.sl 3 rfl | exact hst.sl 4 rfl | assumption | exact hst.old (by decide) (by assumption)) (by first | exact oneCell_bytes | (simp [Value.oneCell']; done) | exact Dig.oneL _) (by omega) ?_; clear hst; intro A24 c24 W24 hst; simp only [List.set_cons_zero, List.set_cons_succ, List.nil_append, Nat.zero_add] at hst) | (refine L_appendF (d := some 24) rfl rfl rfl (by rfl) (by rfl) Tryd.underlying22 el_api_Digest rfl (by decide) (by assumption) (by first | assumption | exact hst.sl 0 rfl | exact hst.sl 1 rfl | exact hst.sl 2 rfl | exact hst.sl 3 rfl | exact hst.sl 4 rfl | assumption | exact hst.old (by decide) (by assumption)) (by omega) (by omega) (by omega) ?_; (try clear hnew); intro A24 c24 W24 hnew; replace hst := hst.trans hnew; simp only [List.cons_append, List.nil_append] at hst) | fail)
      refine idx_g rfl ?_; go_wp2_with fail; refine ⟨by first | exact Below.refl _ _ | exact hnew.below, ?_⟩
      refine idx_nil ?_
      go_wp2_with (first
        | fail)
      go_roundg (gk - 1)
      case measure => have hi := HI.out; omega
      case rel =>
        have hi := HI.out
        refine ⟨i + 1, A24, c24, Lib.hid (by omega), rfl, by go_num, ?_⟩
        rw [List.range_succ, List.map_append, digsL_append]
        simp only [List.map_cons, List.map_nil, digsL_single, ← HDi.out]
        exact hst.pick [1, 2, 3, 4] (by decide)
    · obtain rfl : i = 67 := by omega
      rw [HR.out, HW.out] at hst
      clear hi HI
      go_wp2_with (first
        | fail)
      go_ret
      exact ⟨_, _, rfl, hst.pick [0] (by decide)⟩

set_option maxHeartbeats 2000000 in
theorem rwkey_any (m : Dig) (sg : List Dig) (S : Option Addr) (sc : Nat) (w : World) (hl : sg.length = 67) (hx : SlR w S 67 sc 32 (digsL sg)) : Calls Tryd.prog 50 #[m.v, .slice S 67 sc] w fun e w' => e = .returned (wRecN m sg).v ∧ St w w' [] := by
  have hst := St.refl w
  have hcell : ∀ i, i < 67 → (digitsN m.l).getD i 0 ≤ 15 ∧ (natsL (digitsN m.l))[i]? = some (.int .i64 (((digitsN m.l).getD i 0 : Nat) : Int)) := fun i hi => by
    have hl := length_digitsN' m
    refine ⟨?_, by simp [natsL, natV, hl, hi]⟩
    exact digit_le15 m i hi
  have hget : ∀ i, i < 67 → ((digsL sg).drop (i * 32)).take 32 = (sg.getD i zeroD).arr.toList := fun i hi => by
    have := digsL_at sg i (by omega)
    rw [this, Dig.toList]
    simp [List.getD_eq_getElem?_getD, List.getElem?_eq_getElem (show i < sg.length by omega)]
  obtain ⟨ds, af, gf, R, HD, HA, HG, HR, HW⟩ : ∃ (ds : Nat → Dig) (af : Nat → Nat) (gf : Nat → Dig) (R : List Dig), Hid (∀ i, walkN (gf i) (15 - af i) = ds i) ∧ Hid (∀ i, i < 67 → af i ≤ 15 ∧ (natsL (digitsN m.l))[i]? = some (.int .i64 (af i : Int))) ∧ Hid (∀ i, i < 67 → ((digsL sg).drop (i * 32)).take 32 = (gf i).arr.toList) ∧ Hid ((List.range 67).map ds = R) ∧ Hid (ofN 7 R = wRecN m sg) := ⟨fun i => walkN (sg.getD i zeroD) (15 - (digitsN m.l).getD i 0), fun i => (digitsN m.l).getD i 0, fun i => sg.getD i zeroD, _, Lib.hid fun _ => rfl, Lib.hid hcell, Lib.hid hget, Lib.hid rfl, Lib.hid rfl⟩
  clear hcell hget hl
  go_enter Tryd.func50, Tryd.ntmps50
  go_upto_region 1 with (first
    | (refine L_boxA (d := some 2) rfl rfl rfl (ev_tmp rfl) ?_; (try clear hnew); intro g2 W2 hnew; replace hst := hst.trans hnew; simp only [List.cons_append, List.nil_append] at hst)
    | (refine L_allocA (d := some 4) rfl rfl rfl el_api_Digest ?_; (try clear hnew); intro g4 W4 hnew; replace hst := hst.trans hnew; simp only [List.cons_append, List.nil_append] at hst)
    | fail)
  go_upto_region 2 with (first
    | (go_at_call 45; (try clear hnew); refine (rnibbles_any m _).mono ?_; rintro e Wk7 ⟨A9, c9, rfl, hnew⟩; replace hst := hst.trans hnew; simp only [List.cons_append, List.nil_append] at hst)
    | (first | (refine L_loadA (d := some 8) rfl rfl rfl (by rfl) Tryd.underlying25 rfl el_api_Digest (by first | exact hst.get 0 rfl | exact hst.get 1 rfl) (by first | rfl | exact Dig.size _ | (simp; done)) ?_) | (refine L_loadM (d := some 8) rfl rfl rfl (by rfl) Tryd.underlying25 rfl el_api_Digest (by first | assumption) (by first | rfl | exact Dig.size _ | (simp; done)) ?_))
    | fail)
  go_upto_region 3 with (first
    | fail)
  go_upto_region 4 with (first
    | fail)
  clear hnew
  generalize natsL (digitsN m.l) = la at *
  generalize digsL sg = lx at *
  have hst : St w _ [.row none 0 0 25 32 (digsL ((List.range 0).map ds)), .row A9 67 c9 3 1 la, .blk g4 25 zeroD.arr, .blk g2 25 m.arr] := hst.nilRow 25 32
  go_loopg [6, 7] 67 (fun gk s6 s7 wr => ∃ (i : Nat) (O : Option Addr) (oc : Nat), Hid (i + gk = 67) ∧ s6 = .slice O i oc ∧ s7 = .int .i64 (i : Int) ∧ St w wr [.row O i oc 25 32 (digsL ((List.range i).map ds)), .row A9 67 c9 3 1 la, .blk g4 25 zeroD.arr, .blk g2 25 m.arr])
  case atStart => exact ⟨0, _, _, Lib.hid rfl, rfl, rfl, hst⟩
  case round =>
    clear hst
    obtain ⟨i, O, oc, HI, rfl, rfl, hst⟩ := hrel
    have hi := HI.out
    by_cases hin : i < 67
    · clear hi
      obtain ⟨hk, hac⟩ := HA.out i hin
      have HC := Lib.hid hac
      have HDi := Lib.hid (HD.out i)
      have HGi := Lib.hid (HG.out i hin)
      have HWk := Lib.hid (show ∀ w, Calls Tryd.prog 74 #[(gf i).v, .int .i64 (15 - (af i : Int))] w fun e w' => e = .returned (walkN (gf i) (15 - af i)).v ∧ St w w' [] from fun w => by
        have := rwalked_any (gf i) (15 - af i) w (by omega)
        rwa [show ((15 - af i : Nat) : Int) = 15 - (af i : Int) by omega] at this)
      clear hac
      generalize walkN (gf i) (15 - af i) = v at HDi HWk
      generalize af i = x at hk HC HWk
      generalize gf i = dd at HGi HWk
      go_wp2_with (first
        | fail)
      refine wp_region_idxT [(0, 0), (1, 0), (2, 0), (3, 0), (4, 0), (5, 0), (6, 2), (7, 2), (8, 2), (9, 2), (10, 2), (11, 2), (12, 1), (13, 2)] (by kernel_rfl) (by kernel_rfl) ?_
      replace hst := hst.drew
      refine idx_q rfl rfl ?_; go_wp2_with fail
      refine idx_q rfl rfl ?_; go_wp2_with fail
      refine idx_q rfl rfl ?_; go_wp2_with fail
      refine idx_q rfl rfl ?_; go_wp2_with (first | (refine L_idxS (d := some 17) rfl rfl rfl (by rfl) (by rfl) Tryd.underlying22 el_api_Digest (by first | exact hst.old (by decide) hx | assumption | exact hst.sl 0 rfl | exact hst.sl 1 rfl | exact hst.sl 2 rfl | exact hst.sl 3 rfl | exact hst.sl 4 rfl | exact hst.old (by decide) (by assumption)) (by omega) (by omega) ?_; intro o17 p17 ha17 hr17; (first | subst ha17 | (obtain ⟨h1, h2⟩ := some_addr ha17; subst h1; subst h2; clear ha17) | skip)) | fail)
      refine idx_q rfl rfl ?_; go_wp2_with (first | (refine L_loadM (d := some 18) rfl rfl rfl (by rfl) Tryd.underlying25 rfl el_api_Digest (cs := dd.arr) (by rw [← HGi.out]; exact hr17) (Dig.size _) ?_) | (first | (refine L_loadA (d := some 18) rfl rfl rfl (by rfl) Tryd.underlying25 rfl el_api_Digest (by first | exact hst.get 0 rfl | exact hst.get 1 rfl | exact hst.get 2 rfl | exact hst.get 3 rfl | exact hst.get 4 rfl) (by first | rfl | exact Dig.size _ | (simp; done)) ?_) | (refine L_loadM (d := some 18) rfl rfl rfl (by rfl) Tryd.underlying25 rfl el_api_Digest (by first | assumption) (by first | rfl | exact Dig.size _ | (simp; done)) ?_)) | fail)
      refine idx_q rfl rfl ?_; go_wp2_with fail
      refine idx_g rfl ?_; go_wp2_with fail; refine ⟨by first | exact Below.refl _ _ | exact hnew.below, ?_⟩
      refine idx_g rfl ?_; go_wp2_with (first | (refine L_idxS (d := some 21) rfl rfl rfl (by rfl) (by rfl) Tryd.underlying63 el_int (by first | exact hst.old (by decide) hx | assumption | exact hst.sl 0 rfl | exact hst.sl 1 rfl | exact hst.sl 2 rfl | exact hst.sl 3 rfl | exact hst.sl 4 rfl | exact hst.old (by decide) (by assumption)) (by omega) (by omega) ?_; intro o21 p21 ha21 hr21; (first | subst ha21 | (obtain ⟨h1, h2⟩ := some_addr ha21; subst h1; subst h2; clear ha21) | skip)) | fail); refine ⟨by first | exact Below.refl _ _ | exact hnew.below, ?_⟩
      refine idx_g rfl ?_; go_wp2_with (first | (refine L_load1 (d := some 22) rfl rfl rfl (by rfl) Tryd.underlying3 rfl (cell_of_range1 hr21 (k := i) (by omega) HC.out) ?_) | (refine L_load1 (d := some 22) rfl rfl rfl (by rfl) Tryd.underlying3 rfl (by first | assumption | exact cell_of (hst.get 0 rfl) rfl | exact cell_of (hst.get 1 rfl) rfl | exact cell_of (hst.get 2 rfl) rfl | exact cell_of (hst.get 3 rfl) rfl | exact cell_of (hst.get 4 rfl) rfl) ?_) | fail); refine ⟨by first | exact Below.refl _ _ | exact hnew.below, ?_⟩
      refine idx_g rfl ?_; go_wp2_with fail; refine ⟨by first | exact Below.refl _ _ | exact hnew.below, ?_⟩
      refine idx_g rfl ?_; go_wp2_with (first | (refine L_load1 (d := some 22) rfl rfl rfl (by rfl) Tryd.underlying3 rfl (cell_of_range1 hr21 (k := i) (by omega) HC.out) ?_) | (refine L_loadM (d := some 18) rfl rfl rfl (by rfl) Tryd.underlying25 rfl el_api_Digest (cs := dd.arr) (by rw [← HGi.out]; exact hr17) (Dig.size _) ?_) | (go_at_call 74; (try clear hnew); refine (HWk.out _).mono ?_; rintro e Wk8 ⟨rfl, hnew⟩; replace hst := hst.keep hnew) | fail); refine ⟨by first | exact Below.refl _ _ | exact hnew.below, ?_⟩
      refine idx_g rfl ?_; go_wp2_with (first | (refine L_buildS (d := some 25) rfl rfl rfl [_] (bs_1 (ev_tmp rfl)) rfl Tryd.underlying22 el_api_Digest rfl (by first | (simp [Value.cells]; done) | (simp [Value.cells, Dig.size]; done)) (by decide) (by decide) ?_; (try clear hnew); intro g25 W25 hnew; replace hst := hst.trans hnew; simp only [List.cons_append, List.nil_append] at hst; simp only [List.flatMap_cons, List.flatMap_nil, List.append_nil, Value.cells, List.toList_toArray] at hst) | fail); refine ⟨by first | exact Below.refl _ _ | exact hnew.below, ?_⟩
      refine idx_e rfl ?_; go_wp2_with (first | (refine L_load1 (d := some 22) rfl rfl rfl (by rfl) Tryd.underlying3 rfl (cell_of_range1 hr21 (k := i) (by omega) HC.out) ?_) | (refine L_loadM (d := some 18) rfl rfl rfl (by rfl) Tryd.underlying25 rfl el_api_Digest (cs := dd.arr) (by rw [← HGi.out]; exact hr17) (Dig.size _) ?_) | (go_at_call 74; (try clear hnew); refine (HWk.out _).mono ?_; rintro e Wk8 ⟨rfl, hnew⟩; replace hst := hst.keep hnew) | (refine L_appendO (d := some 26) rfl rfl hst rfl (by rfl) (by rfl) Tryd.underlying22 el_api_Digest rfl (by decide) (by decide) 0 rfl (by first | rfl | omega) (by first | exact hst.old (by decide) hx | exact hst.sl 0 rfl | exact hst.sl 1 rfl | exact hst.sl 2 rfl | exact hst.sl 3 rfl | exact hst.sl 4 rfl | assumption | exact hst.old (by decide) (by assumption)) (by first | exact oneCell_bytes | (simp [Value.oneCell']; done) | exact Dig.oneL _) (by omega) ?_; clear hst; intro A26 c26 W26 hst; simp only [List.set_cons_zero, List.set_cons_succ, List.nil_append, Nat.zero_add] at hst) | (refine L_appendO (d := some 26) rfl rfl hst rfl (by rfl) (by rfl) Tryd.underlying22 el_api_Digest rfl (by decide) (by decide) 1 rfl (by first | rfl | omega) (by first | exact hst.old (by decide) hx | exact hst.sl 0 rfl | exact hst.sl 1 rfl | exact hst.sl 2 rfl | exact hst.sl 3 rfl | exact hst.sl 4 rfl | assumption | exact hst.old (by decide) (by assumption)) (by first | exact oneCell_bytes | (simp [Value.oneCell']; done) | exact Dig.oneL _) (by omega) ?_; clear hst; intro A26 c26 W26 hst; simp only [List.set_cons_zero, List.set_cons_succ, List.nil_append, Nat.zero_add] at hst) | (refine L_appendO (d := some 26) rfl rfl hst rfl (by rfl) (by rfl) Tryd.underlying22 el_api_Digest rfl (by decide) (by decide) 2 rfl (by first | rfl | omega) (by first | exact hst.old (by decide) hx | exact hst.sl 0 rfl | exact hst.sl 1 rfl | exact hst.sl 2 rfl | exact hst.sl 3 rfl | exact hst.sl 4 rfl | assumption | exact hst.old (by decide) (by assumption)) (by first | exact oneCell_bytes | (simp [Value.oneCell']; done) | exact Dig.oneL _) (by omega) ?_; clear hst; intro A26 c26 W26 hst; simp only [List.set_cons_zero, List.set_cons_succ, List.nil_append, Nat.zero_add] at hst) | (refine L_appendO (d := some 26) rfl rfl hst rfl (by rfl) (by rfl) Tryd.underlying22 el_api_Digest rfl (by decide) (by decide) 3 rfl (by first | rfl | omega) (by first | exact hst.old (by decide) hx | exact hst.sl 0 rfl | exact hst.sl 1 rfl | exact hst.sl 2 rfl | exact hst.sl 3 rfl | exact hst.sl 4 rfl | assumption | exact hst.old (by decide) (by assumption)) (by first | exact oneCell_bytes | (simp [Value.oneCell']; done) | exact Dig.oneL _) (by omega) ?_; clear hst; intro A26 c26 W26 hst; simp only [List.set_cons_zero, List.set_cons_succ, List.nil_append, Nat.zero_add] at hst) | (refine L_appendO (d := some 26) rfl rfl hst rfl (by rfl) (by rfl) Tryd.underlying22 el_api_Digest rfl (by decide) (by decide) 4 rfl (by first | rfl | omega) (by first | exact hst.old (by decide) hx | exact hst.sl 0 rfl | exact hst.sl 1 rfl | exact hst.sl 2 rfl | exact hst.sl 3 rfl | exact hst.sl 4 rfl | assumption | exact hst.old (by decide) (by assumption)) (by first | exact oneCell_bytes | (simp [Value.oneCell']; done) | exact Dig.oneL _) (by omega) ?_; clear hst; intro A26 c26 W26 hst; simp only [List.set_cons_zero, List.set_cons_succ, List.nil_append, Nat.zero_add] at hst) | (refine L_appendF (d := some 26) rfl rfl rfl (by rfl) (by rfl) Tryd.underlying22 el_api_Digest rfl (by decide) (by assumption) (by first | assumption | exact hst.old (by decide) hx | exact hst.sl 0 rfl | exact hst.sl 1 rfl | exact hst.sl 2 rfl | exact hst.sl 3 rfl | exact hst.sl 4 rfl | assumption | exact hst.old (by decide) (by assumption)) (by omega) (by omega) (by omega) ?_; (try clear hnew); intro A26 c26 W26 hnew; replace hst := hst.trans hnew; simp only [List.cons_append, List.nil_append] at hst) | fail)
      refine idx_g rfl ?_; go_wp2_with fail; refine ⟨by first | exact Below.refl _ _ | exact hnew.below, ?_⟩
      refine idx_nil ?_
      go_wp2_with (first
        | fail)
      go_roundg (gk - 1)
      case measure => have hi := HI.out; omega
      case rel =>
        have hi := HI.out
        refine ⟨i + 1, A26, c26, Lib.hid (by omega), rfl, by go_num, ?_⟩
        rw [List.range_succ, List.map_append, digsL_append]
        simp only [List.map_cons, List.map_nil, digsL_single, ← HDi.out]
        exact hst.pick [1, 2, 3, 4] (by decide)
    · obtain rfl : i = 67 := by omega
      rw [HR.out] at hst
      clear hi HI
      go_wp2_with (first
        | (go_at_call 67; (try clear hnew); refine (rof_any 7 R _ _ _ _ (hst.sl 0 rfl) (by decide)).mono ?_; rintro e Wk9 ⟨rfl, hnew⟩; replace hst := hst.keep hnew)
        | (refine wpl_at (.store 25 (.tmp 4) (.tmp 28)) rfl ?_; first | (refine L_storeA rfl rfl hst rfl (by rfl) (ev_tmp rfl) (by first | rfl | exact Dig.one _ | (simp; done)) el_api_Digest (by first | rfl | exact Dig.size _ | (simp; done)) 0 rfl (by first | rfl | exact Dig.size _ | (simp; done)) ?_; clear hst; intro WS2 hst; simp only [List.set_cons_zero, List.set_cons_succ] at hst) | (refine L_storeA rfl rfl hst rfl (by rfl) (ev_tmp rfl) (by first | rfl | exact Dig.one _ | (simp; done)) el_api_Digest (by first | rfl | exact Dig.size _ | (simp; done)) 1 rfl (by first | rfl | exact Dig.size _ | (simp; done)) ?_; clear hst; intro WS2 hst; simp only [List.set_cons_zero, List.set_cons_succ] at hst) | (refine L_storeA rfl rfl hst rfl (by rfl) (ev_tmp rfl) (by first | rfl | exact Dig.one _ | (simp; done)) el_api_Digest (by first | rfl | exact Dig.size _ | (simp; done)) 2 rfl (by first | rfl | exact Dig.size _ | (simp; done)) ?_; clear hst; intro WS2 hst; simp only [List.set_cons_zero, List.set_cons_succ] at hst) | (refine L_storeA rfl rfl hst rfl (by rfl) (ev_tmp rfl) (by first | rfl | exact Dig.one _ | (simp; done)) el_api_Digest (by first | rfl | exact Dig.size _ | (simp; done)) 3 rfl (by first | rfl | exact Dig.size _ | (simp; done)) ?_; clear hst; intro WS2 hst; simp only [List.set_cons_zero, List.set_cons_succ] at hst) | (refine L_storeM rfl rfl hst rfl (by rfl) (ev_tmp rfl) (by first | rfl | exact Dig.one _ | (simp; done)) el_api_Digest (by first | rfl | exact Dig.size _ | (simp; done)) 0 rfl (by first | exact of_decide_eq_true rfl | (simp; done)) ?_; clear hst; intro WS2 hst; simp only [List.set_cons_zero, List.set_cons_succ] at hst)  | (refine L_storeM rfl rfl hst rfl (by rfl) (ev_tmp rfl) (by first | rfl | exact Dig.one _ | (simp; done)) el_api_Digest (by first | rfl | exact Dig.size _ | (simp; done)) 1 rfl (by first | exact of_decide_eq_true rfl | (simp; done)) ?_; clear hst; intro WS2 hst; simp only [List.set_cons_zero, List.set_cons_succ] at hst)  | (refine L_storeM rfl rfl hst rfl (by rfl) (ev_tmp rfl) (by first | rfl | exact Dig.one _ | (simp; done)) el_api_Digest (by first | rfl | exact Dig.size _ | (simp; done)) 2 rfl (by first | exact of_decide_eq_true rfl | (simp; done)) ?_; clear hst; intro WS2 hst; simp only [List.set_cons_zero, List.set_cons_succ] at hst)  | (refine L_storeM rfl rfl hst rfl (by rfl) (ev_tmp rfl) (by first | rfl | exact Dig.one _ | (simp; done)) el_api_Digest (by first | rfl | exact Dig.size _ | (simp; done)) 3 rfl (by first | exact of_decide_eq_true rfl | (simp; done)) ?_; clear hst; intro WS2 hst; simp only [List.set_cons_zero, List.set_cons_succ] at hst))
        | fail)
      rw [HW.out] at hst
      refine bp_cell rfl rfl rfl (hst.get 2 rfl) Tryd.underlying25 rfl el_api_Digest (by first | rfl | exact Dig.size _ | (simp; done)) ?_
      exact ⟨rfl, hst.forget⟩
end Go.Proofs.YtfpppmamkmaneaaDoor
