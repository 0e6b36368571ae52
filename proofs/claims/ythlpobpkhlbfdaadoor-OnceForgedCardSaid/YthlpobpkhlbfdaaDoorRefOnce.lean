/-
  Proved here: the contracts of the reference's one-time keys: Bit, OnceSecret, OnceLeaf, OncePublic, OnceSigned, OnceKey. Condition: places within their bounds.
-/
import Derived.Test.YthlpobpkhlbfdaaDoorOncePlain
import Derived.Test.YthlpobpkhlbfdaaDoorRefMac
import Derived.Deep.DeepCutAuto
import Derived.Deep.RegionWith
set_option maxRecDepth 20000
set_option linter.unusedSimpArgs false
set_option linter.unusedVariables false
namespace Go.Proofs.YthlpobpkhlbfdaaDoor
open Go.RowKit

set_option maxHeartbeats 1000000 in
theorem rbit_any (m : Dig) (i : Nat) (hi : i < 256) (w : World) : Calls Tryd.prog 8 #[m.v, .int .i64 (i : Int)] w fun e w' => e = .returned (.int .i64 (bitN m i : Int)) ∧ St w w' [] := by
  have hst := St.refl w
  have hc : m.arr[i / 8]? = some (.int .u8 (((m.l.getD (i / 8) 0).toNat : Nat) : Int)) := by
    have := m.h
    simp [Dig.arr, bytesV, bytesL, byteV, this, show i / 8 < 32 by omega]
  have HM := Lib.hid hc
  have HB := Lib.hid (show bitN m i = ((m.l.getD (i / 8) 0).toNat >>> (7 - i % 8)) % 2 from rfl)
  have hby := UInt8.toNat_lt (m.l.getD (i / 8) 0)
  generalize (m.l.getD (i / 8) 0).toNat = b at *
  clear hc
  have h8 : (i : Int) / 8 < 32 := by omega
  obtain ⟨r, hr⟩ : ∃ r : Nat, r = i % 8 := ⟨_, rfl⟩
  have hr8 : r < 8 := by omega
  have hri : (i : Int) % 8 = (r : Int) := by omega
  rw [← hr] at HB
  clear hr
  go_enter Tryd.func8, Tryd.ntmps8
  go_wp2_with (first
    | (refine L_boxA (d := some 2) rfl rfl rfl (ev_tmp rfl) ?_; (try clear hnew); intro g2 W2 hnew; replace hst := hst.trans hnew; simp only [List.cons_append, List.nil_append] at hst)
    | (refine L_load1 (d := some 10) rfl rfl rfl (by rfl) Tryd.underlying5 rfl (by first | assumption | exact cell_of (hst.get 0 rfl) HM.out | exact cell_of (hst.get 0 rfl) rfl | exact cell_of (hst.get 1 rfl) HM.out | exact cell_of (hst.get 1 rfl) rfl) ?_)
    | fail)
  clear hnew
  go_loopg [5, 6] (7 - r) (fun gk s5 s6 wr => ∃ (k : Nat) (x : Nat), Hid (k = r + gk) ∧ r ≤ k ∧ k ≤ 7 ∧ Hid (x = b >>> (7 - k)) ∧ x < 256 ∧ s5 = .int .i64 (x : Int) ∧ s6 = .int .i64 (k : Int) ∧ St w wr [.blk g2 23 m.arr])
  case atStart => exact ⟨7, b, Lib.hid (by omega), by omega, Nat.le_refl _, Lib.hid rfl, hby, rfl, rfl, hst⟩
  case round =>
    clear hst
    obtain ⟨k, x, HK, hrk, hk7, HX, hx, rfl, rfl, hst⟩ := hrel
    have hk := HK.out
    by_cases hlt : r < k
    · clear hk
      have HX2 := Lib.hid (show x / 2 = b >>> (7 - (k - 1)) by
        rw [HX.out, show 7 - (k - 1) = (7 - k) + 1 by omega, Nat.shiftRight_succ])
      have e1 : ((k - 1 : Nat) : Int) = (k : Int) - 1 := by omega
      have e2 : ((x / 2 : Nat) : Int) = (x : Int) / 2 := by omega
      go_wp2_with (first
        | fail)
      go_roundg (gk - 1)
      case measure => have hk := HK.out; omega
      case rel =>
        have hk := HK.out
        exact ⟨k - 1, x / 2, Lib.hid (by omega), by omega, by omega, HX2, by omega, by rw [e2], by rw [e1], hst⟩
    · obtain rfl : k = r := by omega
      have HV := Lib.hid (show (bitN m i : Int) = (x : Int) % 2 by rw [HB.out, HX.out]; omega)
      clear hk HX HB
      go_wp2_with (first
        | fail)
      go_ret
      exact ⟨by rw [HV.out]; rfl, hst.forget⟩

set_option maxHeartbeats 1000000 in
theorem roncesecret_any (seed : Dig) (i bit : Nat) (hi : i < 256) (hb : bit < 256) (w : World) : Calls Tryd.prog 10 #[seed.v, .int .i64 (i : Int), .int .i64 (bit : Int)] w fun e w' => e = .returned (secretN seed i bit).v ∧ St w w' [] := by
  have hst := St.refl w
  have HB := Lib.hid (show [Value.int .u8 2, .int .u8 (i : Int), .int .u8 (bit : Int)] = bytesL [2, UInt8.ofNat i, UInt8.ofNat bit] by rw [byteV_of i hi, byteV_of bit hb]; rfl)
  go_enter Tryd.func10, Tryd.ntmps10
  go_wp2_with (first
    | (go_at_call 17; (try clear hnew); with_reducible refine (rkeyed_any seed [2, UInt8.ofNat i, UInt8.ofNat bit] _ _ _ _ (by rw [← HB.out]; exact hst.sl 0 rfl) (by decide)).mono ?_; rintro e Wk1 ⟨rfl, hnew⟩; replace hst := hst.keep hnew)
    | (refine L_boxA (d := some 3) rfl rfl rfl (ev_tmp rfl) ?_; (try clear hnew); intro g3 W3 hnew; replace hst := hst.trans hnew; simp only [List.cons_append, List.nil_append] at hst)
    | (refine L_allocA (d := some 6) rfl rfl rfl el_api_Digest ?_; (try clear hnew); intro g6 W6 hnew; replace hst := hst.trans hnew; simp only [List.cons_append, List.nil_append] at hst)
    | (first | (refine L_loadA (d := some 7) rfl rfl rfl (by rfl) Tryd.underlying23 rfl el_api_Digest (by first | exact hst.get 0 rfl | exact hst.get 1 rfl | exact hst.get 2 rfl) (by first | rfl | exact Dig.size _ | (simp; done)) ?_) | (refine L_loadM (d := some 7) rfl rfl rfl (by rfl) Tryd.underlying23 rfl el_api_Digest (by first | assumption) (by first | rfl | exact Dig.size _ | (simp; done)) ?_))
    | (refine L_buildS (d := some 12) rfl rfl rfl [_, _, _] (bs_3 ev_const (ev_tmp rfl) (ev_tmp rfl)) rfl Tryd.underlying43 el_uint8 rfl (by first | (simp [Value.cells]; done) | (simp [Value.cells, Dig.size]; done)) (by decide) (by decide) ?_; (try clear hnew); intro g12 W12 hnew; replace hst := hst.trans hnew; simp only [List.cons_append, List.nil_append] at hst; simp only [List.flatMap_cons, List.flatMap_nil, List.append_nil, Value.cells, List.toList_toArray] at hst)
    | (refine wpl_at (.store 23 (.tmp 6) (.tmp 13)) rfl ?_; first | (refine L_storeA rfl rfl hst rfl (by rfl) (ev_tmp rfl) (by first | rfl | exact Dig.one _ | (simp; done)) el_api_Digest (by first | rfl | exact Dig.size _ | (simp; done)) 0 rfl (by first | rfl | exact Dig.size _ | (simp; done)) ?_; clear hst; intro WS7 hst; simp only [List.set_cons_zero, List.set_cons_succ] at hst) | (refine L_storeA rfl rfl hst rfl (by rfl) (ev_tmp rfl) (by first | rfl | exact Dig.one _ | (simp; done)) el_api_Digest (by first | rfl | exact Dig.size _ | (simp; done)) 1 rfl (by first | rfl | exact Dig.size _ | (simp; done)) ?_; clear hst; intro WS7 hst; simp only [List.set_cons_zero, List.set_cons_succ] at hst) | (refine L_storeA rfl rfl hst rfl (by rfl) (ev_tmp rfl) (by first | rfl | exact Dig.one _ | (simp; done)) el_api_Digest (by first | rfl | exact Dig.size _ | (simp; done)) 2 rfl (by first | rfl | exact Dig.size _ | (simp; done)) ?_; clear hst; intro WS7 hst; simp only [List.set_cons_zero, List.set_cons_succ] at hst) | (refine L_storeM rfl rfl hst rfl (by rfl) (ev_tmp rfl) (by first | rfl | exact Dig.one _ | (simp; done)) el_api_Digest (by first | rfl | exact Dig.size _ | (simp; done)) 0 rfl (by first | exact of_decide_eq_true rfl | (simp; done)) ?_; clear hst; intro WS7 hst; simp only [List.set_cons_zero, List.set_cons_succ] at hst)  | (refine L_storeM rfl rfl hst rfl (by rfl) (ev_tmp rfl) (by first | rfl | exact Dig.one _ | (simp; done)) el_api_Digest (by first | rfl | exact Dig.size _ | (simp; done)) 1 rfl (by first | exact of_decide_eq_true rfl | (simp; done)) ?_; clear hst; intro WS7 hst; simp only [List.set_cons_zero, List.set_cons_succ] at hst)  | (refine L_storeM rfl rfl hst rfl (by rfl) (ev_tmp rfl) (by first | rfl | exact Dig.one _ | (simp; done)) el_api_Digest (by first | rfl | exact Dig.size _ | (simp; done)) 2 rfl (by first | exact of_decide_eq_true rfl | (simp; done)) ?_; clear hst; intro WS7 hst; simp only [List.set_cons_zero, List.set_cons_succ] at hst))
    | fail)
  refine bp_cell rfl rfl rfl (hst.get 1 rfl) Tryd.underlying23 rfl el_api_Digest (by first | rfl | exact Dig.size _ | (simp; done)) ?_
  exact ⟨rfl, hst.forget⟩

set_option maxHeartbeats 1000000 in
theorem ronceleaf_any (d : Dig) (w : World) : Calls Tryd.prog 9 #[d.v] w fun e w' => e = .returned (leafN d).v ∧ St w w' [] := by
  have hst := St.refl w
  go_enter Tryd.func9, Tryd.ntmps9
  go_wp2_with (first
    | (go_at_call 12; (try clear hnew); refine (rof_any 3 [d] _ _ _ _ (by rw [digsL_single]; exact hst.sl 0 rfl) (by decide)).mono ?_; rintro e Wk2 ⟨rfl, hnew⟩; replace hst := hst.keep hnew)
    | (refine L_boxA (d := some 1) rfl rfl rfl (ev_tmp rfl) ?_; (try clear hnew); intro g1 W1 hnew; replace hst := hst.trans hnew; simp only [List.cons_append, List.nil_append] at hst)
    | (refine L_allocA (d := some 2) rfl rfl rfl el_api_Digest ?_; (try clear hnew); intro g2 W2 hnew; replace hst := hst.trans hnew; simp only [List.cons_append, List.nil_append] at hst)
    | (first | (refine L_loadA (d := some 3) rfl rfl rfl (by rfl) Tryd.underlying23 rfl el_api_Digest (by first | exact hst.get 0 rfl | exact hst.get 1 rfl | exact hst.get 2 rfl) (by first | rfl | exact Dig.size _ | (simp; done)) ?_) | (refine L_loadM (d := some 3) rfl rfl rfl (by rfl) Tryd.underlying23 rfl el_api_Digest (by first | assumption) (by first | rfl | exact Dig.size _ | (simp; done)) ?_))
    | (refine L_buildS (d := some 4) rfl rfl rfl [_] (bs_1 (ev_tmp rfl)) rfl Tryd.underlying29 el_api_Digest rfl (by first | (simp [Value.cells]; done) | (simp [Value.cells, Dig.size]; done)) (by decide) (by decide) ?_; (try clear hnew); intro g4 W4 hnew; replace hst := hst.trans hnew; simp only [List.cons_append, List.nil_append] at hst; simp only [List.flatMap_cons, List.flatMap_nil, List.append_nil, Value.cells, List.toList_toArray] at hst)
    | (refine wpl_at (.store 23 (.tmp 2) (.tmp 5)) rfl ?_; first | (refine L_storeA rfl rfl hst rfl (by rfl) (ev_tmp rfl) (by first | rfl | exact Dig.one _ | (simp; done)) el_api_Digest (by first | rfl | exact Dig.size _ | (simp; done)) 0 rfl (by first | rfl | exact Dig.size _ | (simp; done)) ?_; clear hst; intro WS3 hst; simp only [List.set_cons_zero, List.set_cons_succ] at hst) | (refine L_storeA rfl rfl hst rfl (by rfl) (ev_tmp rfl) (by first | rfl | exact Dig.one _ | (simp; done)) el_api_Digest (by first | rfl | exact Dig.size _ | (simp; done)) 1 rfl (by first | rfl | exact Dig.size _ | (simp; done)) ?_; clear hst; intro WS3 hst; simp only [List.set_cons_zero, List.set_cons_succ] at hst) | (refine L_storeA rfl rfl hst rfl (by rfl) (ev_tmp rfl) (by first | rfl | exact Dig.one _ | (simp; done)) el_api_Digest (by first | rfl | exact Dig.size _ | (simp; done)) 2 rfl (by first | rfl | exact Dig.size _ | (simp; done)) ?_; clear hst; intro WS3 hst; simp only [List.set_cons_zero, List.set_cons_succ] at hst) | (refine L_storeM rfl rfl hst rfl (by rfl) (ev_tmp rfl) (by first | rfl | exact Dig.one _ | (simp; done)) el_api_Digest (by first | rfl | exact Dig.size _ | (simp; done)) 0 rfl (by first | exact of_decide_eq_true rfl | (simp; done)) ?_; clear hst; intro WS3 hst; simp only [List.set_cons_zero, List.set_cons_succ] at hst)  | (refine L_storeM rfl rfl hst rfl (by rfl) (ev_tmp rfl) (by first | rfl | exact Dig.one _ | (simp; done)) el_api_Digest (by first | rfl | exact Dig.size _ | (simp; done)) 1 rfl (by first | exact of_decide_eq_true rfl | (simp; done)) ?_; clear hst; intro WS3 hst; simp only [List.set_cons_zero, List.set_cons_succ] at hst)  | (refine L_storeM rfl rfl hst rfl (by rfl) (ev_tmp rfl) (by first | rfl | exact Dig.one _ | (simp; done)) el_api_Digest (by first | rfl | exact Dig.size _ | (simp; done)) 2 rfl (by first | exact of_decide_eq_true rfl | (simp; done)) ?_; clear hst; intro WS3 hst; simp only [List.set_cons_zero, List.set_cons_succ] at hst))
    | fail)
  refine bp_cell rfl rfl rfl (hst.get 1 rfl) Tryd.underlying23 rfl el_api_Digest (by first | rfl | exact Dig.size _ | (simp; done)) ?_
  exact ⟨rfl, hst.forget⟩
end Go.Proofs.YthlpobpkhlbfdaaDoor
