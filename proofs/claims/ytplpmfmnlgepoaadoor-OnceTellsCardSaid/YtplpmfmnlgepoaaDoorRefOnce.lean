/-
  Proved here: the contracts of the reference's one-time keys: Bit, OnceSecret, OnceLeaf, OncePublic, OnceSigned, OnceKey. Condition: places within their bounds.
-/
import Derived.Test.YtplpmfmnlgepoaaDoorOncePlain
import Derived.Test.YtplpmfmnlgepoaaDoorRefMac
import Derived.Deep.DeepCutAuto
import Derived.Deep.RegionWith
set_option maxRecDepth 20000
namespace Go.Proofs.YtplpmfmnlgepoaaDoor
open Go.RowKit

set_option maxHeartbeats 1000000 in
theorem rbit_any (m : Dig) (i : Nat) (hi : i < 256) (w : World) : Calls Tryd.prog 52 #[m.v, .int .i64 (i : Int)] w fun e w' => e = .returned (.int .i64 (bitN m i : Int)) ∧ St w w' [] := by
  have hst := St.refl w
  have hc : m.arr[i / 8]? = some (.int .u8 (((m.l.getD (i / 8) 0).toNat : Nat) : Int)) := by
    have := m.h
    simp [Dig.arr, bytesV, bytesL, byteV, this, show i / 8 < 32 by omega]
  have HM := Lib.hid hc
  have HB := Lib.hid (show bitN m i = ((m.l.getD (i / 8) 0).toNat >>> (7 - i % 8)) % 2 from rfl)
  have hby := UInt8.toNat_lt (m.l.getD (i / 8) 0)
  generalize (m.l.getD (i / 8) 0).toNat = b at *
  clear hc
  have h8 : (i : Int) / 8 < 32 := by omega
  obtain ⟨r, hr⟩ : ∃ r : Nat, r = i % 8 := ⟨_, rfl⟩
  have hr8 : r < 8 := by omega
  have hri : (i : Int) % 8 = (r : Int) := by omega
  rw [← hr] at HB
  clear hr
  go_enter Tryd.func52, Tryd.ntmps52
  go_wp2_with (first
    | (refine L_boxA (d := some 2) rfl rfl rfl (ev_tmp rfl) ?_; (try clear hnew); intro g2 W2 hnew; replace hst := hst.trans hnew; simp only [List.cons_append, List.nil_append] at hst)
    | (refine L_load1 (d := some 10) rfl rfl rfl (by rfl) Tryd.underlying5 rfl (by first | assumption | exact cell_of (hst.get 0 rfl) HM.out | exact cell_of (hst.get 0 rfl) rfl | exact cell_of (hst.get 1 rfl) HM.out | exact cell_of (hst.get 1 rfl) rfl) ?_)
    | fail)
  clear hnew
  go_loopg [5, 6] (7 - r) (fun gk s5 s6 wr => ∃ (k : Nat) (x : Nat), Hid (k = r + gk) ∧ r ≤ k ∧ k ≤ 7 ∧ Hid (x = b >>> (7 - k)) ∧ x < 256 ∧ s5 = .int .i64 (x : Int) ∧ s6 = .int .i64 (k : Int) ∧ St w wr [.blk g2 23 m.arr])
  case atStart => exact ⟨7, b, Lib.hid (by omega), by omega, Nat.le_refl _, Lib.hid rfl, hby, rfl, rfl, hst⟩
  case round =>
    clear hst
    obtain ⟨k, x, HK, hrk, hk7, HX, hx, rfl, rfl, hst⟩ := hrel
    have hk := HK.out
    by_cases hlt : r < k
    · clear hk
      have HX2 := Lib.hid (show x / 2 = b >>> (7 - (k - 1)) by
        rw [HX.out, show 7 - (k - 1) = (7 - k) + 1 by omega, Nat.shiftRight_succ])
      have e1 : ((k - 1 : Nat) : Int) = (k : Int) - 1 := by omega
      have e2 : ((x / 2 : Nat) : Int) = (x : Int) / 2 := by omega
      go_wp2_with (first
        | fail)
      go_roundg (gk - 1)
      case measure => have hk := HK.out; omega
      case rel =>
        have hk := HK.out
        exact ⟨k - 1, x / 2, Lib.hid (by omega), by omega, by omega, HX2, by omega, by rw [e2], by rw [e1], hst⟩
    · obtain rfl : k = r := by omega
      have HV := Lib.hid (show (bitN m i : Int) = (x : Int) % 2 by rw [HB.out, HX.out]; omega)
      clear hk HX HB
      go_wp2_with (first
        | fail)
      go_ret
      exact ⟨by rw [HV.out]; rfl, hst.forget⟩

set_option maxHeartbeats 1000000 in
theorem roncesecret_any (seed : Dig) (i bit : Nat) (hi : i < 256) (hb : bit < 256) (w : World) : Calls Tryd.prog 53 #[seed.v, .int .i64 (i : Int), .int .i64 (bit : Int)] w fun e w' => e = .returned (secretN seed i bit).v ∧ St w w' [] := by
  have hst := St.refl w
  have HB := Lib.hid (show [Value.int .u8 2, .int .u8 (i : Int), .int .u8 (bit : Int)] = bytesL [2, UInt8.ofNat i, UInt8.ofNat bit] by rw [byteV_of i hi, byteV_of bit hb]; rfl)
  go_enter Tryd.func53, Tryd.ntmps53
  go_wp2_with (first
    | (go_at_call 65; (try clear hnew); with_reducible refine (rkeyed_any seed [2, UInt8.ofNat i, UInt8.ofNat bit] _ _ _ _ (by rw [← HB.out]; exact hst.sl 0 rfl) (by decide)).mono ?_; rintro e Wk1 ⟨rfl, hnew⟩; replace hst := hst.keep hnew)
    | (refine L_boxA (d := some 3) rfl rfl rfl (ev_tmp rfl) ?_; (try clear hnew); intro g3 W3 hnew; replace hst := hst.trans hnew; simp only [List.cons_append, List.nil_append] at hst)
    | (refine L_allocA (d := some 6) rfl rfl rfl el_api_Digest ?_; (try clear hnew); intro g6 W6 hnew; replace hst := hst.trans hnew; simp only [List.cons_append, List.nil_append] at hst)
    | (first | (refine L_loadA (d := some 7) rfl rfl rfl (by rfl) Tryd.underlying23 rfl el_api_Digest (by first | exact hst.get 0 rfl | exact hst.get 1 rfl | exact hst.get 2 rfl) (by first | rfl | exact Dig.size _ | (simp; done)) ?_) | (refine L_loadM (d := some 7) rfl rfl rfl (by rfl) Tryd.underlying23 rfl el_api_Digest (by first | assumption) (by first | rfl | exact Dig.size _ | (simp; done)) ?_))
    | (refine L_buildS (d := some 12) rfl rfl rfl [_, _, _] (bs_3 ev_const (ev_tmp rfl) (ev_tmp rfl)) rfl Tryd.underlying33 el_uint8 rfl (by first | (simp [Value.cells]; done) | (simp [Value.cells, Dig.size]; done)) (by decide) (by decide) ?_; (try clear hnew); intro g12 W12 hnew; replace hst := hst.trans hnew; simp only [List.cons_append, List.nil_append] at hst; simp only [List.flatMap_cons, List.flatMap_nil, List.append_nil, Value.cells, List.toList_toArray] at hst)
    | (refine wpl_at (.store 23 (.tmp 6) (.tmp 13)) rfl ?_; first | (refine L_storeA rfl rfl hst rfl (by rfl) (ev_tmp rfl) (by first | rfl | exact Dig.one _ | (simp; done)) el_api_Digest (by first | rfl | exact Dig.size _ | (simp; done)) 0 rfl (by first | rfl | exact Dig.size _ | (simp; done)) ?_; clear hst; intro WS7 hst; simp only [List.set_cons_zero, List.set_cons_succ] at hst) | (refine L_storeA rfl rfl hst rfl (by rfl) (ev_tmp rfl) (by first | rfl | exact Dig.one _ | (simp; done)) el_api_Digest (by first | rfl | exact Dig.size _ | (simp; done)) 1 rfl (by first | rfl | exact Dig.size _ | (simp; done)) ?_; clear hst; intro WS7 hst; simp only [List.set_cons_zero, List.set_cons_succ] at hst) | (refine L_storeA rfl rfl hst rfl (by rfl) (ev_tmp rfl) (by first | rfl | exact Dig.one _ | (simp; done)) el_api_Digest (by first | rfl | exact Dig.size _ | (simp; done)) 2 rfl (by first | rfl | exact Dig.size _ | (simp; done)) ?_; clear hst; intro WS7 hst; simp only [List.set_cons_zero, List.set_cons_succ] at hst) | (refine L_storeM rfl rfl hst rfl (by rfl) (ev_tmp rfl) (by first | rfl | exact Dig.one _ | (simp; done)) el_api_Digest (by first | rfl | exact Dig.size _ | (simp; done)) 0 rfl (by first | exact of_decide_eq_true rfl | (simp; done)) ?_; clear hst; intro WS7 hst; simp only [List.set_cons_zero, List.set_cons_succ] at hst)  | (refine L_storeM rfl rfl hst rfl (by rfl) (ev_tmp rfl) (by first | rfl | exact Dig.one _ | (simp; done)) el_api_Digest (by first | rfl | exact Dig.size _ | (simp; done)) 1 rfl (by first | exact of_decide_eq_true rfl | (simp; done)) ?_; clear hst; intro WS7 hst; simp only [List.set_cons_zero, List.set_cons_succ] at hst)  | (refine L_storeM rfl rfl hst rfl (by rfl) (ev_tmp rfl) (by first | rfl | exact Dig.one _ | (simp; done)) el_api_Digest (by first | rfl | exact Dig.size _ | (simp; done)) 2 rfl (by first | exact of_decide_eq_true rfl | (simp; done)) ?_; clear hst; intro WS7 hst; simp only [List.set_cons_zero, List.set_cons_succ] at hst))
    | fail)
  refine bp_cell rfl rfl rfl (hst.get 1 rfl) Tryd.underlying23 rfl el_api_Digest (by first | rfl | exact Dig.size _ | (simp; done)) ?_
  exact ⟨rfl, hst.forget⟩

set_option maxHeartbeats 1000000 in
theorem ronceleaf_any (d : Dig) (w : World) : Calls Tryd.prog 54 #[d.v] w fun e w' => e = .returned (leafN d).v ∧ St w w' [] := by
  have hst := St.refl w
  go_enter Tryd.func54, Tryd.ntmps54
  go_wp2_with (first
    | (go_at_call 36; (try clear hnew); refine (rof_any 3 [d] _ _ _ _ (by rw [digsL_single]; exact hst.sl 0 rfl) (by decide)).mono ?_; rintro e Wk2 ⟨rfl, hnew⟩; replace hst := hst.keep hnew)
    | (refine L_boxA (d := some 1) rfl rfl rfl (ev_tmp rfl) ?_; (try clear hnew); intro g1 W1 hnew; replace hst := hst.trans hnew; simp only [List.cons_append, List.nil_append] at hst)
    | (refine L_allocA (d := some 2) rfl rfl rfl el_api_Digest ?_; (try clear hnew); intro g2 W2 hnew; replace hst := hst.trans hnew; simp only [List.cons_append, List.nil_append] at hst)
    | (first | (refine L_loadA (d := some 3) rfl rfl rfl (by rfl) Tryd.underlying23 rfl el_api_Digest (by first | exact hst.get 0 rfl | exact hst.get 1 rfl | exact hst.get 2 rfl) (by first | rfl | exact Dig.size _ | (simp; done)) ?_) | (refine L_loadM (d := some 3) rfl rfl rfl (by rfl) Tryd.underlying23 rfl el_api_Digest (by first | assumption) (by first | rfl | exact Dig.size _ | (simp; done)) ?_))
    | (refine L_buildS (d := some 4) rfl rfl rfl [_] (bs_1 (ev_tmp rfl)) rfl Tryd.underlying52 el_api_Digest rfl (by first | (simp [Value.cells]; done) | (simp [Value.cells, Dig.size]; done)) (by decide) (by decide) ?_; (try clear hnew); intro g4 W4 hnew; replace hst := hst.trans hnew; simp only [List.cons_append, List.nil_append] at hst; simp only [List.flatMap_cons, List.flatMap_nil, List.append_nil, Value.cells, List.toList_toArray] at hst)
    | (refine wpl_at (.store 23 (.tmp 2) (.tmp 5)) rfl ?_; first | (refine L_storeA rfl rfl hst rfl (by rfl) (ev_tmp rfl) (by first | rfl | exact Dig.one _ | (simp; done)) el_api_Digest (by first | rfl | exact Dig.size _ | (simp; done)) 0 rfl (by first | rfl | exact Dig.size _ | (simp; done)) ?_; clear hst; intro WS3 hst; simp only [List.set_cons_zero, List.set_cons_succ] at hst) | (refine L_storeA rfl rfl hst rfl (by rfl) (ev_tmp rfl) (by first | rfl | exact Dig.one _ | (simp; done)) el_api_Digest (by first | rfl | exact Dig.size _ | (simp; done)) 1 rfl (by first | rfl | exact Dig.size _ | (simp; done)) ?_; clear hst; intro WS3 hst; simp only [List.set_cons_zero, List.set_cons_succ] at hst) | (refine L_storeA rfl rfl hst rfl (by rfl) (ev_tmp rfl) (by first | rfl | exact Dig.one _ | (simp; done)) el_api_Digest (by first | rfl | exact Dig.size _ | (simp; done)) 2 rfl (by first | rfl | exact Dig.size _ | (simp; done)) ?_; clear hst; intro WS3 hst; simp only [List.set_cons_zero, List.set_cons_succ] at hst) | (refine L_storeM rfl rfl hst rfl (by rfl) (ev_tmp rfl) (by first | rfl | exact Dig.one _ | (simp; done)) el_api_Digest (by first | rfl | exact Dig.size _ | (simp; done)) 0 rfl (by first | exact of_decide_eq_true rfl | (simp; done)) ?_; clear hst; intro WS3 hst; simp only [List.set_cons_zero, List.set_cons_succ] at hst)  | (refine L_storeM rfl rfl hst rfl (by rfl) (ev_tmp rfl) (by first | rfl | exact Dig.one _ | (simp; done)) el_api_Digest (by first | rfl | exact Dig.size _ | (simp; done)) 1 rfl (by first | exact of_decide_eq_true rfl | (simp; done)) ?_; clear hst; intro WS3 hst; simp only [List.set_cons_zero, List.set_cons_succ] at hst)  | (refine L_storeM rfl rfl hst rfl (by rfl) (ev_tmp rfl) (by first | rfl | exact Dig.one _ | (simp; done)) el_api_Digest (by first | rfl | exact Dig.size _ | (simp; done)) 2 rfl (by first | exact of_decide_eq_true rfl | (simp; done)) ?_; clear hst; intro WS3 hst; simp only [List.set_cons_zero, List.set_cons_succ] at hst))
    | fail)
  refine bp_cell rfl rfl rfl (hst.get 1 rfl) Tryd.underlying23 rfl el_api_Digest (by first | rfl | exact Dig.size _ | (simp; done)) ?_
  exact ⟨rfl, hst.forget⟩

set_option maxHeartbeats 2000000 in
theorem roncepublic_any (seed : Dig) (w : World) : Calls Tryd.prog 30 #[seed.v] w fun e w' => e = .returned (onceN seed).v ∧ St w w' [] := by
  have hst := St.refl w
  obtain ⟨ds, R, HD, HR, HW⟩ : ∃ (ds : Nat → Dig) (R : List Dig), Hid (∀ k, leafN (secretN seed (k / 2) (k % 2)) = ds k) ∧ Hid ((List.range 512).map ds = R) ∧ Hid (ofN 4 R = onceN seed) := ⟨leafAt seed, leavesN seed 256, Lib.hid fun _ => rfl, Lib.hid (leaves_map seed 256).symm, Lib.hid rfl⟩
  go_enter Tryd.func30, Tryd.ntmps30
  go_upto_region 1 with (first
    | (refine L_boxA (d := some 1) rfl rfl rfl (ev_tmp rfl) ?_; (try clear hnew); intro g1 W1 hnew; replace hst := hst.trans hnew; simp only [List.cons_append, List.nil_append] at hst)
    | (refine L_allocA (d := some 2) rfl rfl rfl el_api_Digest ?_; (try clear hnew); intro g2 W2 hnew; replace hst := hst.trans hnew; simp only [List.cons_append, List.nil_append] at hst)
    | fail)
  go_upto_region 2 with (first
    | fail)
  go_upto_region 3 with (first
    | fail)
  have hst : St w _ [.row none 0 0 23 32 (digsL ((List.range 0).map ds)), .blk g2 23 zeroD.arr, .blk g1 23 seed.arr] := hst.nilRow 23 32
  go_loopg [3, 4] 512 (fun gk s3 s4 wr => ∃ (i : Nat) (O : Option Addr) (oc : Nat), Hid (i + gk = 512) ∧ s3 = .slice O i oc ∧ s4 = .int .i64 (i : Int) ∧ St w wr [.row O i oc 23 32 (digsL ((List.range i).map ds)), .blk g2 23 zeroD.arr, .blk g1 23 seed.arr])
  case atStart => exact ⟨0, _, _, Lib.hid rfl, rfl, rfl, hst⟩
  case round =>
    clear hst
    obtain ⟨i, O, oc, HI, rfl, rfl, hst⟩ := hrel
    have hi := HI.out
    by_cases hin : i < 512
    · clear hi
      have H1 := Lib.hid (show ∀ w, Calls Tryd.prog 53 #[seed.v, .int .i64 ((i : Int) / 2), .int .i64 ((i : Int) % 2)] w fun e w' => e = .returned (secretN seed (i / 2) (i % 2)).v ∧ St w w' [] from fun w => by
        have := roncesecret_any seed (i / 2) (i % 2) (by omega) (by omega) w
        rwa [show ((i / 2 : Nat) : Int) = (i : Int) / 2 by omega, show ((i % 2 : Nat) : Int) = (i : Int) % 2 by omega] at this)
      have HDi := Lib.hid (HD.out i)
      generalize secretN seed (i / 2) (i % 2) = sc at H1 HDi
      go_wp2_with (first
        | (go_at_call 53; (try clear hnew); refine (H1.out _).mono ?_; rintro e Wk3 ⟨rfl, hnew⟩; replace hst := hst.keep hnew)
        | (go_at_call 54; (try clear hnew); refine (ronceleaf_any sc _).mono ?_; rintro e Wk4 ⟨rfl, hnew⟩; replace hst := hst.keep hnew)
        | (first | (refine L_loadA (d := some 10) rfl rfl rfl (by rfl) Tryd.underlying23 rfl el_api_Digest (by first | exact hst.get 0 rfl | exact hst.get 1 rfl | exact hst.get 2 rfl | exact hst.get 3 rfl) (by first | rfl | exact Dig.size _ | (simp; done)) ?_) | (refine L_loadM (d := some 10) rfl rfl rfl (by rfl) Tryd.underlying23 rfl el_api_Digest (by first | assumption) (by first | rfl | exact Dig.size _ | (simp; done)) ?_))
        | (refine L_buildS (d := some 17) rfl rfl rfl [_] (bs_1 (ev_tmp rfl)) rfl Tryd.underlying52 el_api_Digest rfl (by first | (simp [Value.cells]; done) | (simp [Value.cells, Dig.size]; done)) (by decide) (by decide) ?_; (try clear hnew); intro g17 W17 hnew; replace hst := hst.trans hnew; simp only [List.cons_append, List.nil_append] at hst; simp only [List.flatMap_cons, List.flatMap_nil, List.append_nil, Value.cells, List.toList_toArray] at hst)
        | (refine L_appendO (d := some 18) rfl rfl hst rfl (by rfl) (by rfl) Tryd.underlying52 el_api_Digest rfl (by decide) (by decide) 0 rfl (by first | rfl | omega) (by first | exact hst.sl 0 rfl | exact hst.sl 1 rfl | exact hst.sl 2 rfl | exact hst.sl 3 rfl | assumption | exact hst.old (by decide) (by assumption)) (by first | exact oneCell_bytes | (simp [Value.oneCell']; done) | exact Dig.oneR _) (by omega) ?_; clear hst; intro A18 c18 W18 hst; simp only [List.set_cons_zero, List.set_cons_succ, List.nil_append, Nat.zero_add] at hst)
        | (refine L_appendO (d := some 18) rfl rfl hst rfl (by rfl) (by rfl) Tryd.underlying52 el_api_Digest rfl (by decide) (by decide) 1 rfl (by first | rfl | omega) (by first | exact hst.sl 0 rfl | exact hst.sl 1 rfl | exact hst.sl 2 rfl | exact hst.sl 3 rfl | assumption | exact hst.old (by decide) (by assumption)) (by first | exact oneCell_bytes | (simp [Value.oneCell']; done) | exact Dig.oneR _) (by omega) ?_; clear hst; intro A18 c18 W18 hst; simp only [List.set_cons_zero, List.set_cons_succ, List.nil_append, Nat.zero_add] at hst)
        | (refine L_appendO (d := some 18) rfl rfl hst rfl (by rfl) (by rfl) Tryd.underlying52 el_api_Digest rfl (by decide) (by decide) 2 rfl (by first | rfl | omega) (by first | exact hst.sl 0 rfl | exact hst.sl 1 rfl | exact hst.sl 2 rfl | exact hst.sl 3 rfl | assumption | exact hst.old (by decide) (by assumption)) (by first | exact oneCell_bytes | (simp [Value.oneCell']; done) | exact Dig.oneR _) (by omega) ?_; clear hst; intro A18 c18 W18 hst; simp only [List.set_cons_zero, List.set_cons_succ, List.nil_append, Nat.zero_add] at hst)
        | (refine L_appendO (d := some 18) rfl rfl hst rfl (by rfl) (by rfl) Tryd.underlying52 el_api_Digest rfl (by decide) (by decide) 3 rfl (by first | rfl | omega) (by first | exact hst.sl 0 rfl | exact hst.sl 1 rfl | exact hst.sl 2 rfl | exact hst.sl 3 rfl | assumption | exact hst.old (by decide) (by assumption)) (by first | exact oneCell_bytes | (simp [Value.oneCell']; done) | exact Dig.oneR _) (by omega) ?_; clear hst; intro A18 c18 W18 hst; simp only [List.set_cons_zero, List.set_cons_succ, List.nil_append, Nat.zero_add] at hst)
        | (refine L_appendF (d := some 18) rfl rfl rfl (by rfl) (by rfl) Tryd.underlying52 el_api_Digest rfl (by decide) (by assumption) (by first | assumption | exact hst.sl 0 rfl | exact hst.sl 1 rfl | exact hst.sl 2 rfl | exact hst.sl 3 rfl | assumption | exact hst.old (by decide) (by assumption)) (by omega) (by omega) (by omega) ?_; (try clear hnew); intro A18 c18 W18 hnew; replace hst := hst.trans hnew; simp only [List.cons_append, List.nil_append] at hst)
        | fail)
      go_roundg (gk - 1)
      case measure => have hi := HI.out; omega
      case rel =>
        have hi := HI.out
        refine ⟨i + 1, A18, c18, Lib.hid (by omega), rfl, by go_num, ?_⟩
        rw [List.range_succ, List.map_append, digsL_append]
        simp only [List.map_cons, List.map_nil, digsL_single, ← HDi.out]
        exact hst.pick [1, 2, 3] (by decide)
    · obtain rfl : i = 512 := by omega
      rw [HR.out] at hst
      clear hi HI
      go_wp2_with (first
        | (go_at_call 36; (try clear hnew); refine (rof_any 4 R _ _ _ _ (hst.sl 0 rfl) (by decide)).mono ?_; rintro e Wk5 ⟨rfl, hnew⟩; replace hst := hst.keep hnew)
        | (refine wpl_at (.store 23 (.tmp 2) (.tmp 20)) rfl ?_; first | (refine L_storeA rfl rfl hst rfl (by rfl) (ev_tmp rfl) (by first | rfl | exact Dig.one _ | (simp; done)) el_api_Digest (by first | rfl | exact Dig.size _ | (simp; done)) 0 rfl (by first | rfl | exact Dig.size _ | (simp; done)) ?_; clear hst; intro WS2 hst; simp only [List.set_cons_zero, List.set_cons_succ] at hst) | (refine L_storeA rfl rfl hst rfl (by rfl) (ev_tmp rfl) (by first | rfl | exact Dig.one _ | (simp; done)) el_api_Digest (by first | rfl | exact Dig.size _ | (simp; done)) 1 rfl (by first | rfl | exact Dig.size _ | (simp; done)) ?_; clear hst; intro WS2 hst; simp only [List.set_cons_zero, List.set_cons_succ] at hst) | (refine L_storeA rfl rfl hst rfl (by rfl) (ev_tmp rfl) (by first | rfl | exact Dig.one _ | (simp; done)) el_api_Digest (by first | rfl | exact Dig.size _ | (simp; done)) 2 rfl (by first | rfl | exact Dig.size _ | (simp; done)) ?_; clear hst; intro WS2 hst; simp only [List.set_cons_zero, List.set_cons_succ] at hst) | (refine L_storeM rfl rfl hst rfl (by rfl) (ev_tmp rfl) (by first | rfl | exact Dig.one _ | (simp; done)) el_api_Digest (by first | rfl | exact Dig.size _ | (simp; done)) 0 rfl (by first | exact of_decide_eq_true rfl | (simp; done)) ?_; clear hst; intro WS2 hst; simp only [List.set_cons_zero, List.set_cons_succ] at hst)  | (refine L_storeM rfl rfl hst rfl (by rfl) (ev_tmp rfl) (by first | rfl | exact Dig.one _ | (simp; done)) el_api_Digest (by first | rfl | exact Dig.size _ | (simp; done)) 1 rfl (by first | exact of_decide_eq_true rfl | (simp; done)) ?_; clear hst; intro WS2 hst; simp only [List.set_cons_zero, List.set_cons_succ] at hst)  | (refine L_storeM rfl rfl hst rfl (by rfl) (ev_tmp rfl) (by first | rfl | exact Dig.one _ | (simp; done)) el_api_Digest (by first | rfl | exact Dig.size _ | (simp; done)) 2 rfl (by first | exact of_decide_eq_true rfl | (simp; done)) ?_; clear hst; intro WS2 hst; simp only [List.set_cons_zero, List.set_cons_succ] at hst))
        | fail)
      rw [HW.out] at hst
      refine bp_cell rfl rfl rfl (hst.get 1 rfl) Tryd.underlying23 rfl el_api_Digest (by first | rfl | exact Dig.size _ | (simp; done)) ?_
      exact ⟨rfl, hst.forget⟩

set_option maxHeartbeats 2000000 in
theorem roncesigned_any (seed m : Dig) (w : World) : Calls Tryd.prog 28 #[seed.v, m.v] w fun e w' => ∃ A c, e = .returned (.slice A 512 c) ∧ St w w' [.row A 512 c 23 32 (digsL (onceSigN seed m))] := by
  have hst := St.refl w
  obtain ⟨sf, HF, HR⟩ : ∃ sf : Nat → List Dig, Hid (∀ i, sf (i + 1) = sf i ++ [secretN seed i (bitN m i), leafN (secretN seed i (1 - bitN m i))]) ∧ Hid (digsL (sf 0) = [] ∧ sf 256 = onceSigN seed m) := ⟨sigTo seed m, Lib.hid (sigTo_succ seed m), Lib.hid ⟨rfl, rfl⟩⟩
  go_enter Tryd.func28, Tryd.ntmps28
  go_upto_region 1 with (first
    | (refine L_boxA (d := some 2) rfl rfl rfl (ev_tmp rfl) ?_; (try clear hnew); intro g2 W2 hnew; replace hst := hst.trans hnew; simp only [List.cons_append, List.nil_append] at hst)
    | (refine L_boxA (d := some 3) rfl rfl rfl (ev_tmp rfl) ?_; (try clear hnew); intro g3 W3 hnew; replace hst := hst.trans hnew; simp only [List.cons_append, List.nil_append] at hst)
    | fail)
  go_upto_region 2 with (first
    | fail)
  go_upto_region 3 with (first
    | fail)
  have hst : St w W3 [.row none 0 0 23 32 (digsL (sf 0)), .blk g3 23 m.arr, .blk g2 23 seed.arr] := by rw [HR.out.1]; exact hst.nilRow 23 32
  go_loopg [5, 6, 7] 256 (fun gk s5 s6 s7 wr => ∃ (i : Nat) (O : Option Addr) (oc : Nat), Hid (i + gk = 256) ∧ s5 = .slice O (2 * i) oc ∧ s6 = .int .i64 (i : Int) ∧ St w wr [.row O (2 * i) oc 23 32 (digsL (sf i)), .blk g3 23 m.arr, .blk g2 23 seed.arr])
  case atStart => exact ⟨0, _, _, Lib.hid rfl, rfl, rfl, hst⟩
  case round =>
    clear hst
    obtain ⟨i, O, oc, HI, rfl, rfl, hst⟩ := hrel
    have hi := HI.out
    by_cases hin : i < 256
    · clear hi
      have hb2 := bitN_lt m i
      have H0 := Lib.hid (fun w => rbit_any m i hin w)
      have H1 := Lib.hid (fun w => roncesecret_any seed i (bitN m i) hin (by omega) w)
      have H2 := Lib.hid (show ∀ w, Calls Tryd.prog 53 #[seed.v, .int .i64 (i : Int), .int .i64 (1 - (bitN m i : Int))] w fun e w' => e = .returned (secretN seed i (1 - bitN m i)).v ∧ St w w' [] from fun w => by
        have := roncesecret_any seed i (1 - bitN m i) hin (by omega) w
        rwa [show ((1 - bitN m i : Nat) : Int) = 1 - (bitN m i : Int) by omega] at this)
      have HFi := Lib.hid (HF.out i)
      generalize secretN seed i (bitN m i) = s1 at H1 HFi
      generalize secretN seed i (1 - bitN m i) = s2 at H2 HFi
      generalize bitN m i = b at *
      go_upto_region 5 with (first
        | fail)
      go_upto_region 6 with (first
        | (go_at_call 52; (try clear hnew); refine (H0.out _).mono ?_; rintro e Wk6 ⟨rfl, hnew⟩; replace hst := hst.keep hnew)
        | (first | (refine L_loadA (d := some 12) rfl rfl rfl (by rfl) Tryd.underlying23 rfl el_api_Digest (by first | exact hst.get 0 rfl | exact hst.get 1 rfl | exact hst.get 2 rfl | exact hst.get 3 rfl) (by first | rfl | exact Dig.size _ | (simp; done)) ?_) | (refine L_loadM (d := some 12) rfl rfl rfl (by rfl) Tryd.underlying23 rfl el_api_Digest (by first | assumption) (by first | rfl | exact Dig.size _ | (simp; done)) ?_))
        | fail)
      go_upto_region 7 with (first
        | (go_at_call 53; (try clear hnew); refine (H1.out _).mono ?_; rintro e Wk7 ⟨rfl, hnew⟩; replace hst := hst.keep hnew)
        | (first | (refine L_loadA (d := some 16) rfl rfl rfl (by rfl) Tryd.underlying23 rfl el_api_Digest (by first | exact hst.get 0 rfl | exact hst.get 1 rfl | exact hst.get 2 rfl | exact hst.get 3 rfl) (by first | rfl | exact Dig.size _ | (simp; done)) ?_) | (refine L_loadM (d := some 16) rfl rfl rfl (by rfl) Tryd.underlying23 rfl el_api_Digest (by first | assumption) (by first | rfl | exact Dig.size _ | (simp; done)) ?_))
        | (refine L_buildS (d := some 20) rfl rfl rfl [_] (bs_1 (ev_tmp rfl)) rfl Tryd.underlying52 el_api_Digest rfl (by first | (simp [Value.cells]; done) | (simp [Value.cells, Dig.size]; done)) (by decide) (by decide) ?_; (try clear hnew); intro g20 W20 hnew; replace hst := hst.trans hnew; simp only [List.cons_append, List.nil_append] at hst; simp only [List.flatMap_cons, List.flatMap_nil, List.append_nil, Value.cells, List.toList_toArray] at hst)
        | (refine L_appendO (d := some 21) rfl rfl hst rfl (by rfl) (by rfl) Tryd.underlying52 el_api_Digest rfl (by decide) (by decide) 0 rfl (by first | rfl | omega) (by first | exact hst.sl 0 rfl | exact hst.sl 1 rfl | exact hst.sl 2 rfl | exact hst.sl 3 rfl | assumption | exact hst.old (by decide) (by assumption)) (by first | exact oneCell_bytes | (simp [Value.oneCell']; done) | exact Dig.oneR _) (by omega) ?_; clear hst; intro A21 c21 W21 hst; simp only [List.set_cons_zero, List.set_cons_succ, List.nil_append, Nat.zero_add] at hst)
        | (refine L_appendO (d := some 21) rfl rfl hst rfl (by rfl) (by rfl) Tryd.underlying52 el_api_Digest rfl (by decide) (by decide) 1 rfl (by first | rfl | omega) (by first | exact hst.sl 0 rfl | exact hst.sl 1 rfl | exact hst.sl 2 rfl | exact hst.sl 3 rfl | assumption | exact hst.old (by decide) (by assumption)) (by first | exact oneCell_bytes | (simp [Value.oneCell']; done) | exact Dig.oneR _) (by omega) ?_; clear hst; intro A21 c21 W21 hst; simp only [List.set_cons_zero, List.set_cons_succ, List.nil_append, Nat.zero_add] at hst)
        | (refine L_appendO (d := some 21) rfl rfl hst rfl (by rfl) (by rfl) Tryd.underlying52 el_api_Digest rfl (by decide) (by decide) 2 rfl (by first | rfl | omega) (by first | exact hst.sl 0 rfl | exact hst.sl 1 rfl | exact hst.sl 2 rfl | exact hst.sl 3 rfl | assumption | exact hst.old (by decide) (by assumption)) (by first | exact oneCell_bytes | (simp [Value.oneCell']; done) | exact Dig.oneR _) (by omega) ?_; clear hst; intro A21 c21 W21 hst; simp only [List.set_cons_zero, List.set_cons_succ, List.nil_append, Nat.zero_add] at hst)
        | (refine L_appendO (d := some 21) rfl rfl hst rfl (by rfl) (by rfl) Tryd.underlying52 el_api_Digest rfl (by decide) (by decide) 3 rfl (by first | rfl | omega) (by first | exact hst.sl 0 rfl | exact hst.sl 1 rfl | exact hst.sl 2 rfl | exact hst.sl 3 rfl | assumption | exact hst.old (by decide) (by assumption)) (by first | exact oneCell_bytes | (simp [Value.oneCell']; done) | exact Dig.oneR _) (by omega) ?_; clear hst; intro A21 c21 W21 hst; simp only [List.set_cons_zero, List.set_cons_succ, List.nil_append, Nat.zero_add] at hst)
        | (refine L_appendF (d := some 21) rfl rfl rfl (by rfl) (by rfl) Tryd.underlying52 el_api_Digest rfl (by decide) (by assumption) (by first | assumption | exact hst.sl 0 rfl | exact hst.sl 1 rfl | exact hst.sl 2 rfl | exact hst.sl 3 rfl | assumption | exact hst.old (by decide) (by assumption)) (by omega) (by omega) (by omega) ?_; (try clear hnew); intro A21 c21 W21 hnew; replace hst := hst.trans hnew; simp only [List.cons_append, List.nil_append] at hst)
        | fail)
      go_upto_region 4 with (first
        | (go_at_call 53; (try clear hnew); refine (H2.out _).mono ?_; rintro e Wk8 ⟨rfl, hnew⟩; replace hst := hst.keep hnew)
        | (go_at_call 54; (try clear hnew); refine (ronceleaf_any s2 _).mono ?_; rintro e Wk9 ⟨rfl, hnew⟩; replace hst := hst.keep hnew)
        | (first | (refine L_loadA (d := some 23) rfl rfl rfl (by rfl) Tryd.underlying23 rfl el_api_Digest (by first | exact hst.get 0 rfl | exact hst.get 1 rfl | exact hst.get 2 rfl | exact hst.get 3 rfl | exact hst.get 4 rfl) (by first | rfl | exact Dig.size _ | (simp; done)) ?_) | (refine L_loadM (d := some 23) rfl rfl rfl (by rfl) Tryd.underlying23 rfl el_api_Digest (by first | assumption) (by first | rfl | exact Dig.size _ | (simp; done)) ?_))
        | (refine L_buildS (d := some 29) rfl rfl rfl [_] (bs_1 (ev_tmp rfl)) rfl Tryd.underlying52 el_api_Digest rfl (by first | (simp [Value.cells]; done) | (simp [Value.cells, Dig.size]; done)) (by decide) (by decide) ?_; (try clear hnew); intro g29 W29 hnew; replace hst := hst.trans hnew; simp only [List.cons_append, List.nil_append] at hst; simp only [List.flatMap_cons, List.flatMap_nil, List.append_nil, Value.cells, List.toList_toArray] at hst)
        | (refine L_appendO (d := some 30) rfl rfl hst rfl (by rfl) (by rfl) Tryd.underlying52 el_api_Digest rfl (by decide) (by decide) 0 rfl (by first | rfl | omega) (by first | exact hst.sl 0 rfl | exact hst.sl 1 rfl | exact hst.sl 2 rfl | exact hst.sl 3 rfl | exact hst.sl 4 rfl | assumption | exact hst.old (by decide) (by assumption)) (by first | exact oneCell_bytes | (simp [Value.oneCell']; done) | exact Dig.oneR _) (by omega) ?_; clear hst; intro A30 c30 W30 hst; simp only [List.set_cons_zero, List.set_cons_succ, List.nil_append, Nat.zero_add] at hst)
        | (refine L_appendO (d := some 30) rfl rfl hst rfl (by rfl) (by rfl) Tryd.underlying52 el_api_Digest rfl (by decide) (by decide) 1 rfl (by first | rfl | omega) (by first | exact hst.sl 0 rfl | exact hst.sl 1 rfl | exact hst.sl 2 rfl | exact hst.sl 3 rfl | exact hst.sl 4 rfl | assumption | exact hst.old (by decide) (by assumption)) (by first | exact oneCell_bytes | (simp [Value.oneCell']; done) | exact Dig.oneR _) (by omega) ?_; clear hst; intro A30 c30 W30 hst; simp only [List.set_cons_zero, List.set_cons_succ, List.nil_append, Nat.zero_add] at hst)
        | (refine L_appendO (d := some 30) rfl rfl hst rfl (by rfl) (by rfl) Tryd.underlying52 el_api_Digest rfl (by decide) (by decide) 2 rfl (by first | rfl | omega) (by first | exact hst.sl 0 rfl | exact hst.sl 1 rfl | exact hst.sl 2 rfl | exact hst.sl 3 rfl | exact hst.sl 4 rfl | assumption | exact hst.old (by decide) (by assumption)) (by first | exact oneCell_bytes | (simp [Value.oneCell']; done) | exact Dig.oneR _) (by omega) ?_; clear hst; intro A30 c30 W30 hst; simp only [List.set_cons_zero, List.set_cons_succ, List.nil_append, Nat.zero_add] at hst)
        | (refine L_appendO (d := some 30) rfl rfl hst rfl (by rfl) (by rfl) Tryd.underlying52 el_api_Digest rfl (by decide) (by decide) 3 rfl (by first | rfl | omega) (by first | exact hst.sl 0 rfl | exact hst.sl 1 rfl | exact hst.sl 2 rfl | exact hst.sl 3 rfl | exact hst.sl 4 rfl | assumption | exact hst.old (by decide) (by assumption)) (by first | exact oneCell_bytes | (simp [Value.oneCell']; done) | exact Dig.oneR _) (by omega) ?_; clear hst; intro A30 c30 W30 hst; simp only [List.set_cons_zero, List.set_cons_succ, List.nil_append, Nat.zero_add] at hst)
        | (refine L_appendO (d := some 30) rfl rfl hst rfl (by rfl) (by rfl) Tryd.underlying52 el_api_Digest rfl (by decide) (by decide) 4 rfl (by first | rfl | omega) (by first | exact hst.sl 0 rfl | exact hst.sl 1 rfl | exact hst.sl 2 rfl | exact hst.sl 3 rfl | exact hst.sl 4 rfl | assumption | exact hst.old (by decide) (by assumption)) (by first | exact oneCell_bytes | (simp [Value.oneCell']; done) | exact Dig.oneR _) (by omega) ?_; clear hst; intro A30 c30 W30 hst; simp only [List.set_cons_zero, List.set_cons_succ, List.nil_append, Nat.zero_add] at hst)
        | (refine L_appendF (d := some 30) rfl rfl rfl (by rfl) (by rfl) Tryd.underlying52 el_api_Digest rfl (by decide) (by assumption) (by first | assumption | exact hst.sl 0 rfl | exact hst.sl 1 rfl | exact hst.sl 2 rfl | exact hst.sl 3 rfl | exact hst.sl 4 rfl | assumption | exact hst.old (by decide) (by assumption)) (by omega) (by omega) (by omega) ?_; (try clear hnew); intro A30 c30 W30 hnew; replace hst := hst.trans hnew; simp only [List.cons_append, List.nil_append] at hst)
        | fail)
      go_wp2_with (first
        | fail)
      go_roundg (gk - 1)
      case measure => have hi := HI.out; omega
      case rel =>
        have hi := HI.out
        refine ⟨i + 1, A30, c30, Lib.hid (by omega), by congr 1, by go_num, ?_⟩
        rw [HFi.out, digsL_append, digsL_two, ← List.append_assoc]
        exact hst.pick [2, 3, 4] (by decide)
    · obtain rfl : i = 256 := by omega
      rw [HR.out.2] at hst
      clear hi HI
      go_wp2_with (first
        | fail)
      go_ret
      exact ⟨_, _, rfl, hst.pick [0] (by decide)⟩

set_option maxHeartbeats 4000000 in
theorem roncekey_any (m : Dig) (sg : List Dig) (S : Option Addr) (sc : Nat) (w : World) (hl : sg.length = 512) (hx : SlR w S 512 sc 32 (digsL sg)) : Calls Tryd.prog 31 #[m.v, .slice S 512 sc] w fun e w' => e = .returned (onceRecN m sg).v ∧ St w w' [] := by
  have hst := St.refl w
  have hget : ∀ i, i < 512 → ((digsL sg).drop (i * 32)).take 32 = (sg.getD i zeroD).arr.toList := fun i hi => by
    have := digsL_at sg i (by omega)
    rw [this, Dig.toList]
    simp [List.getD_eq_getElem?_getD, List.getElem?_eq_getElem (show i < sg.length by omega)]
  obtain ⟨ds, gf, R, HD, HG, HR, HW⟩ : ∃ (ds : Nat → Dig) (gf : Nat → Dig) (R : List Dig), Hid (∀ k, ds k = if bitN m (k / 2) = k % 2 then leafN (gf (k - k % 2)) else gf (k - k % 2 + 1)) ∧ Hid (∀ i, i < 512 → ((digsL sg).drop (i * 32)).take 32 = (gf i).arr.toList) ∧ Hid ((List.range 512).map ds = R) ∧ Hid (ofN 4 R = onceRecN m sg) := ⟨recAt m sg, fun i => sg.getD i zeroD, recL m sg, Lib.hid fun _ => rfl, Lib.hid hget, Lib.hid rfl, Lib.hid rfl⟩
  clear hget hl
  generalize digsL sg = lx at *
  have hcap := hx.2.1
  go_enter Tryd.func31, Tryd.ntmps31
  go_upto_region 1 with (first
    | (refine L_boxA (d := some 2) rfl rfl rfl (ev_tmp rfl) ?_; (try clear hnew); intro g2 W2 hnew; replace hst := hst.trans hnew; simp only [List.cons_append, List.nil_append] at hst)
    | (refine L_allocA (d := some 4) rfl rfl rfl el_api_Digest ?_; (try clear hnew); intro g4 W4 hnew; replace hst := hst.trans hnew; simp only [List.cons_append, List.nil_append] at hst)
    | fail)
  go_upto_region 2 with (first
    | fail)
  go_upto_region 3 with (first
    | fail)
  have hst : St w _ [.row none 0 0 23 32 (digsL ((List.range 0).map ds)), .blk g4 23 zeroD.arr, .blk g2 23 m.arr] := hst.nilRow 23 32
  go_loopg [5, 6] 512 (fun gk s5 s6 wr => ∃ (i : Nat) (O : Option Addr) (oc : Nat), Hid (i + gk = 512) ∧ s5 = .slice O i oc ∧ s6 = .int .i64 (i : Int) ∧ St w wr [.row O i oc 23 32 (digsL ((List.range i).map ds)), .blk g4 23 zeroD.arr, .blk g2 23 m.arr])
  case atStart => exact ⟨0, _, _, Lib.hid rfl, rfl, rfl, hst⟩
  case round =>
    clear hst
    obtain ⟨i, O, oc, HI, rfl, rfl, hst⟩ := hrel
    have hi := HI.out
    by_cases hin : i < 512
    · clear hi
      have hb2 := bitN_lt m (i / 2)
      have H0 := Lib.hid (show ∀ w, Calls Tryd.prog 52 #[m.v, .int .i64 ((i : Int) / 2)] w fun e w' => e = .returned (.int .i64 (bitN m (i / 2) : Int)) ∧ St w w' [] from fun w => by
        have := rbit_any m (i / 2) (by omega) w
        rwa [show ((i / 2 : Nat) : Int) = (i : Int) / 2 by omega] at this)
      have hdi := HD.out i
      by_cases hb : bitN m (i / 2) = i % 2
      · rw [if_pos hb] at hdi
        have ht : ((bitN m (i / 2) : Int) == (i : Int) % 2) = true := by rw [beq_iff_eq]; omega
        have HGi := Lib.hid (show (lx.drop (((i : Int) - (i : Int) % 2).toNat * 32)).take 32 = (gf (i - i % 2)).arr.toList by rw [show ((i : Int) - (i : Int) % 2).toNat = i - i % 2 by omega]; exact HG.out _ (by omega))
        have HDi := Lib.hid hdi
        have i1 : 0 ≤ (i : Int) - (i : Int) % 2 := by omega
        have i2 : (i : Int) - (i : Int) % 2 < ((512 : Nat) : Int) := by omega
        clear hdi hb
        generalize gf (i - i % 2) = x at HGi HDi
        generalize bitN m (i / 2) = b at *
        go_upto_region 5 with (first
          | fail)
        go_upto_region 6 with (first
          | (go_at_call 52; (try clear hnew); refine (H0.out _).mono ?_; rintro e Wk10 ⟨rfl, hnew⟩; replace hst := hst.keep hnew)
          | (first | (refine L_loadA (d := some 11) rfl rfl rfl (by rfl) Tryd.underlying23 rfl el_api_Digest (by first | exact hst.get 0 rfl | exact hst.get 1 rfl | exact hst.get 2 rfl | exact hst.get 3 rfl) (by first | rfl | exact Dig.size _ | (simp; done)) ?_) | (refine L_loadM (d := some 11) rfl rfl rfl (by rfl) Tryd.underlying23 rfl el_api_Digest (by first | assumption) (by first | rfl | exact Dig.size _ | (simp; done)) ?_))
          | fail)
        go_upto_region 4 with (first
          | (refine L_loadM (d := some 25) rfl rfl rfl (by rfl) Tryd.underlying23 rfl el_api_Digest (cs := x.arr) (by rw [← HGi.out]; exact hr24) (Dig.size _) ?_)
          | (go_at_call 54; (try clear hnew); refine (ronceleaf_any x _).mono ?_; rintro e Wk11 ⟨rfl, hnew⟩; replace hst := hst.keep hnew)
          | (refine L_idxS (d := some 24) rfl rfl rfl (by rfl) (by rfl) Tryd.underlying52 el_api_Digest (by first | exact hst.old (by decide) hx | assumption | exact hst.sl 0 rfl | exact hst.sl 1 rfl | exact hst.sl 2 rfl | exact hst.sl 3 rfl | exact hst.old (by decide) (by assumption)) (by omega) (by omega) ?_; intro o24 p24 ha24 hr24; (first | subst ha24 | (obtain ⟨h1, h2⟩ := some_addr ha24; subst h1; subst h2; clear ha24) | skip))
          | (first | (refine L_loadA (d := some 25) rfl rfl rfl (by rfl) Tryd.underlying23 rfl el_api_Digest (by first | exact hst.get 0 rfl | exact hst.get 1 rfl | exact hst.get 2 rfl | exact hst.get 3 rfl) (by first | rfl | exact Dig.size _ | (simp; done)) ?_) | (refine L_loadM (d := some 25) rfl rfl rfl (by rfl) Tryd.underlying23 rfl el_api_Digest (by first | assumption) (by first | rfl | exact Dig.size _ | (simp; done)) ?_))
          | (refine L_buildS (d := some 27) rfl rfl rfl [_] (bs_1 (ev_tmp rfl)) rfl Tryd.underlying52 el_api_Digest rfl (by first | (simp [Value.cells]; done) | (simp [Value.cells, Dig.size]; done)) (by decide) (by decide) ?_; (try clear hnew); intro g27 W27 hnew; replace hst := hst.trans hnew; simp only [List.cons_append, List.nil_append] at hst; simp only [List.flatMap_cons, List.flatMap_nil, List.append_nil, Value.cells, List.toList_toArray] at hst)
          | (refine L_appendO (d := some 28) rfl rfl hst rfl (by rfl) (by rfl) Tryd.underlying52 el_api_Digest rfl (by decide) (by decide) 0 rfl (by first | rfl | omega) (by first | exact hst.old (by decide) hx | exact hst.sl 0 rfl | exact hst.sl 1 rfl | exact hst.sl 2 rfl | exact hst.sl 3 rfl | assumption | exact hst.old (by decide) (by assumption)) (by first | exact oneCell_bytes | (simp [Value.oneCell']; done) | exact Dig.oneR _) (by omega) ?_; clear hst; intro A28 c28 W28 hst; simp only [List.set_cons_zero, List.set_cons_succ, List.nil_append, Nat.zero_add] at hst)
          | (refine L_appendO (d := some 28) rfl rfl hst rfl (by rfl) (by rfl) Tryd.underlying52 el_api_Digest rfl (by decide) (by decide) 1 rfl (by first | rfl | omega) (by first | exact hst.old (by decide) hx | exact hst.sl 0 rfl | exact hst.sl 1 rfl | exact hst.sl 2 rfl | exact hst.sl 3 rfl | assumption | exact hst.old (by decide) (by assumption)) (by first | exact oneCell_bytes | (simp [Value.oneCell']; done) | exact Dig.oneR _) (by omega) ?_; clear hst; intro A28 c28 W28 hst; simp only [List.set_cons_zero, List.set_cons_succ, List.nil_append, Nat.zero_add] at hst)
          | (refine L_appendO (d := some 28) rfl rfl hst rfl (by rfl) (by rfl) Tryd.underlying52 el_api_Digest rfl (by decide) (by decide) 2 rfl (by first | rfl | omega) (by first | exact hst.old (by decide) hx | exact hst.sl 0 rfl | exact hst.sl 1 rfl | exact hst.sl 2 rfl | exact hst.sl 3 rfl | assumption | exact hst.old (by decide) (by assumption)) (by first | exact oneCell_bytes | (simp [Value.oneCell']; done) | exact Dig.oneR _) (by omega) ?_; clear hst; intro A28 c28 W28 hst; simp only [List.set_cons_zero, List.set_cons_succ, List.nil_append, Nat.zero_add] at hst)
          | (refine L_appendO (d := some 28) rfl rfl hst rfl (by rfl) (by rfl) Tryd.underlying52 el_api_Digest rfl (by decide) (by decide) 3 rfl (by first | rfl | omega) (by first | exact hst.old (by decide) hx | exact hst.sl 0 rfl | exact hst.sl 1 rfl | exact hst.sl 2 rfl | exact hst.sl 3 rfl | assumption | exact hst.old (by decide) (by assumption)) (by first | exact oneCell_bytes | (simp [Value.oneCell']; done) | exact Dig.oneR _) (by omega) ?_; clear hst; intro A28 c28 W28 hst; simp only [List.set_cons_zero, List.set_cons_succ, List.nil_append, Nat.zero_add] at hst)
          | (refine L_appendF (d := some 28) rfl rfl rfl (by rfl) (by rfl) Tryd.underlying52 el_api_Digest rfl (by decide) (by assumption) (by first | assumption | exact hst.old (by decide) hx | exact hst.sl 0 rfl | exact hst.sl 1 rfl | exact hst.sl 2 rfl | exact hst.sl 3 rfl | assumption | exact hst.old (by decide) (by assumption)) (by omega) (by omega) (by omega) ?_; (try clear hnew); intro A28 c28 W28 hnew; replace hst := hst.trans hnew; simp only [List.cons_append, List.nil_append] at hst)
          | fail)
        go_wp2_with (first
          | fail)
        go_roundg (gk - 1)
        case measure => have hi := HI.out; omega
        case rel =>
          have hi := HI.out
          refine ⟨i + 1, A28, c28, Lib.hid (by omega), rfl, by go_num, ?_⟩
          rw [List.range_succ, List.map_append, digsL_append]
          simp only [List.map_cons, List.map_nil, digsL_single, HDi.out]
          exact hst.pick [1, 2, 3] (by decide)
      · rw [if_neg hb] at hdi
        have ht : ((bitN m (i / 2) : Int) == (i : Int) % 2) = false := by rw [beq_eq_false_iff_ne]; omega
        have HGi := Lib.hid (show (lx.drop (((i : Int) - (i : Int) % 2 + 1).toNat * 32)).take 32 = (gf (i - i % 2 + 1)).arr.toList by rw [show ((i : Int) - (i : Int) % 2 + 1).toNat = i - i % 2 + 1 by omega]; exact HG.out _ (by omega))
        have HDi := Lib.hid hdi
        have i1 : 0 ≤ (i : Int) - (i : Int) % 2 + 1 := by omega
        have i2 : (i : Int) - (i : Int) % 2 + 1 < ((512 : Nat) : Int) := by omega
        clear hdi hb
        generalize gf (i - i % 2 + 1) = x at HGi HDi
        generalize bitN m (i / 2) = b at *
        go_upto_region 5 with (first
          | fail)
        go_upto_region 7 with (first
          | (go_at_call 52; (try clear hnew); refine (H0.out _).mono ?_; rintro e Wk12 ⟨rfl, hnew⟩; replace hst := hst.keep hnew)
          | (first | (refine L_loadA (d := some 11) rfl rfl rfl (by rfl) Tryd.underlying23 rfl el_api_Digest (by first | exact hst.get 0 rfl | exact hst.get 1 rfl | exact hst.get 2 rfl | exact hst.get 3 rfl) (by first | rfl | exact Dig.size _ | (simp; done)) ?_) | (refine L_loadM (d := some 11) rfl rfl rfl (by rfl) Tryd.underlying23 rfl el_api_Digest (by first | assumption) (by first | rfl | exact Dig.size _ | (simp; done)) ?_))
          | fail)
        go_upto_region 4 with (first
          | (refine L_loadM (d := some 37) rfl rfl rfl (by rfl) Tryd.underlying23 rfl el_api_Digest (cs := x.arr) (by rw [← HGi.out]; exact hr36) (Dig.size _) ?_)
          | (refine L_idxS (d := some 36) rfl rfl rfl (by rfl) (by rfl) Tryd.underlying52 el_api_Digest (by first | exact hst.old (by decide) hx | assumption | exact hst.sl 0 rfl | exact hst.sl 1 rfl | exact hst.sl 2 rfl | exact hst.sl 3 rfl | exact hst.old (by decide) (by assumption)) (by omega) (by omega) ?_; intro o36 p36 ha36 hr36; (first | subst ha36 | (obtain ⟨h1, h2⟩ := some_addr ha36; subst h1; subst h2; clear ha36) | skip))
          | (first | (refine L_loadA (d := some 37) rfl rfl rfl (by rfl) Tryd.underlying23 rfl el_api_Digest (by first | exact hst.get 0 rfl | exact hst.get 1 rfl | exact hst.get 2 rfl | exact hst.get 3 rfl) (by first | rfl | exact Dig.size _ | (simp; done)) ?_) | (refine L_loadM (d := some 37) rfl rfl rfl (by rfl) Tryd.underlying23 rfl el_api_Digest (by first | assumption) (by first | rfl | exact Dig.size _ | (simp; done)) ?_))
          | (refine L_buildS (d := some 38) rfl rfl rfl [_] (bs_1 (ev_tmp rfl)) rfl Tryd.underlying52 el_api_Digest rfl (by first | (simp [Value.cells]; done) | (simp [Value.cells, Dig.size]; done)) (by decide) (by decide) ?_; (try clear hnew); intro g38 W38 hnew; replace hst := hst.trans hnew; simp only [List.cons_append, List.nil_append] at hst; simp only [List.flatMap_cons, List.flatMap_nil, List.append_nil, Value.cells, List.toList_toArray] at hst)
          | (refine L_appendO (d := some 39) rfl rfl hst rfl (by rfl) (by rfl) Tryd.underlying52 el_api_Digest rfl (by decide) (by decide) 0 rfl (by first | rfl | omega) (by first | exact hst.old (by decide) hx | exact hst.sl 0 rfl | exact hst.sl 1 rfl | exact hst.sl 2 rfl | exact hst.sl 3 rfl | assumption | exact hst.old (by decide) (by assumption)) (by first | exact oneCell_bytes | (simp [Value.oneCell']; done) | exact Dig.oneR _) (by omega) ?_; clear hst; intro A39 c39 W39 hst; simp only [List.set_cons_zero, List.set_cons_succ, List.nil_append, Nat.zero_add] at hst)
          | (refine L_appendO (d := some 39) rfl rfl hst rfl (by rfl) (by rfl) Tryd.underlying52 el_api_Digest rfl (by decide) (by decide) 1 rfl (by first | rfl | omega) (by first | exact hst.old (by decide) hx | exact hst.sl 0 rfl | exact hst.sl 1 rfl | exact hst.sl 2 rfl | exact hst.sl 3 rfl | assumption | exact hst.old (by decide) (by assumption)) (by first | exact oneCell_bytes | (simp [Value.oneCell']; done) | exact Dig.oneR _) (by omega) ?_; clear hst; intro A39 c39 W39 hst; simp only [List.set_cons_zero, List.set_cons_succ, List.nil_append, Nat.zero_add] at hst)
          | (refine L_appendO (d := some 39) rfl rfl hst rfl (by rfl) (by rfl) Tryd.underlying52 el_api_Digest rfl (by decide) (by decide) 2 rfl (by first | rfl | omega) (by first | exact hst.old (by decide) hx | exact hst.sl 0 rfl | exact hst.sl 1 rfl | exact hst.sl 2 rfl | exact hst.sl 3 rfl | assumption | exact hst.old (by decide) (by assumption)) (by first | exact oneCell_bytes | (simp [Value.oneCell']; done) | exact Dig.oneR _) (by omega) ?_; clear hst; intro A39 c39 W39 hst; simp only [List.set_cons_zero, List.set_cons_succ, List.nil_append, Nat.zero_add] at hst)
          | (refine L_appendO (d := some 39) rfl rfl hst rfl (by rfl) (by rfl) Tryd.underlying52 el_api_Digest rfl (by decide) (by decide) 3 rfl (by first | rfl | omega) (by first | exact hst.old (by decide) hx | exact hst.sl 0 rfl | exact hst.sl 1 rfl | exact hst.sl 2 rfl | exact hst.sl 3 rfl | assumption | exact hst.old (by decide) (by assumption)) (by first | exact oneCell_bytes | (simp [Value.oneCell']; done) | exact Dig.oneR _) (by omega) ?_; clear hst; intro A39 c39 W39 hst; simp only [List.set_cons_zero, List.set_cons_succ, List.nil_append, Nat.zero_add] at hst)
          | (refine L_appendF (d := some 39) rfl rfl rfl (by rfl) (by rfl) Tryd.underlying52 el_api_Digest rfl (by decide) (by assumption) (by first | assumption | exact hst.old (by decide) hx | exact hst.sl 0 rfl | exact hst.sl 1 rfl | exact hst.sl 2 rfl | exact hst.sl 3 rfl | assumption | exact hst.old (by decide) (by assumption)) (by omega) (by omega) (by omega) ?_; (try clear hnew); intro A39 c39 W39 hnew; replace hst := hst.trans hnew; simp only [List.cons_append, List.nil_append] at hst)
          | fail)
        go_wp2_with (first
          | fail)
        go_roundg (gk - 1)
        case measure => have hi := HI.out; omega
        case rel =>
          have hi := HI.out
          refine ⟨i + 1, A39, c39, Lib.hid (by omega), rfl, by go_num, ?_⟩
          rw [List.range_succ, List.map_append, digsL_append]
          simp only [List.map_cons, List.map_nil, digsL_single, HDi.out]
          exact hst.pick [1, 2, 3] (by decide)
    · obtain rfl : i = 512 := by omega
      rw [HR.out] at hst
      clear hi HI
      go_wp2_with (first
        | (go_at_call 36; (try clear hnew); refine (rof_any 4 R _ _ _ _ (hst.sl 0 rfl) (by decide)).mono ?_; rintro e Wk13 ⟨rfl, hnew⟩; replace hst := hst.keep hnew)
        | (refine wpl_at (.store 23 (.tmp 4) (.tmp 41)) rfl ?_; first | (refine L_storeA rfl rfl hst rfl (by rfl) (ev_tmp rfl) (by first | rfl | exact Dig.one _ | (simp; done)) el_api_Digest (by first | rfl | exact Dig.size _ | (simp; done)) 0 rfl (by first | rfl | exact Dig.size _ | (simp; done)) ?_; clear hst; intro WS2 hst; simp only [List.set_cons_zero, List.set_cons_succ] at hst) | (refine L_storeA rfl rfl hst rfl (by rfl) (ev_tmp rfl) (by first | rfl | exact Dig.one _ | (simp; done)) el_api_Digest (by first | rfl | exact Dig.size _ | (simp; done)) 1 rfl (by first | rfl | exact Dig.size _ | (simp; done)) ?_; clear hst; intro WS2 hst; simp only [List.set_cons_zero, List.set_cons_succ] at hst) | (refine L_storeA rfl rfl hst rfl (by rfl) (ev_tmp rfl) (by first | rfl | exact Dig.one _ | (simp; done)) el_api_Digest (by first | rfl | exact Dig.size _ | (simp; done)) 2 rfl (by first | rfl | exact Dig.size _ | (simp; done)) ?_; clear hst; intro WS2 hst; simp only [List.set_cons_zero, List.set_cons_succ] at hst) | (refine L_storeM rfl rfl hst rfl (by rfl) (ev_tmp rfl) (by first | rfl | exact Dig.one _ | (simp; done)) el_api_Digest (by first | rfl | exact Dig.size _ | (simp; done)) 0 rfl (by first | exact of_decide_eq_true rfl | (simp; done)) ?_; clear hst; intro WS2 hst; simp only [List.set_cons_zero, List.set_cons_succ] at hst)  | (refine L_storeM rfl rfl hst rfl (by rfl) (ev_tmp rfl) (by first | rfl | exact Dig.one _ | (simp; done)) el_api_Digest (by first | rfl | exact Dig.size _ | (simp; done)) 1 rfl (by first | exact of_decide_eq_true rfl | (simp; done)) ?_; clear hst; intro WS2 hst; simp only [List.set_cons_zero, List.set_cons_succ] at hst)  | (refine L_storeM rfl rfl hst rfl (by rfl) (ev_tmp rfl) (by first | rfl | exact Dig.one _ | (simp; done)) el_api_Digest (by first | rfl | exact Dig.size _ | (simp; done)) 2 rfl (by first | exact of_decide_eq_true rfl | (simp; done)) ?_; clear hst; intro WS2 hst; simp only [List.set_cons_zero, List.set_cons_succ] at hst))
        | fail)
      rw [HW.out] at hst
      refine bp_cell rfl rfl rfl (hst.get 1 rfl) Tryd.underlying23 rfl el_api_Digest (by first | rfl | exact Dig.size _ | (simp; done)) ?_
      exact ⟨rfl, hst.forget⟩
end Go.Proofs.YtplpmfmnlgepoaaDoor
