/-
  Proved here, ahead of the law: DeskTakes: the law returns true for every input, and leaves its arguments as they were.
-/
import Derived.Test.YtaebeemnipafbaaGreatDoorPkDeskTakesA
import Derived.Test.YtaebeemnipafbaaGreatDoorErr
import Derived.Test.YtaebeemnipafbaaGreatDoorLawF
import Derived.Test.YtaebeemnipafbaaGreatDoorSkip
import Derived.Deep.DeepCutAuto
import Derived.Deep.RegionWith
import Derived.Test.YtaebeemnipafbaaGreatDoorShelf
import Derived.Test.YtaebeemnipafbaaGreatDoorLawC
import Derived.Test.YtaebeemnipafbaaGreatDoorLawD
import Derived.Test.YtaebeemnipafbaaGreatDoorLawE
import Derived.Lib.AppendZerosOnto
import Derived.Test.YtaebeemnipafbaaGreatDoorOctet
import Derived.Test.YtaebeemnipafbaaGreatDoorLaw
import Derived.Laws.IdiomStrings
import Derived.Test.YtaebeemnipafbaaGreatDoorRefWord
import Derived.Test.YtaebeemnipafbaaGreatDoorForkP
import Derived.Test.YtaebeemnipafbaaGreatDoorMaps
import Derived.Shelf.SlSortCmp.WholeK
import Derived.Shelf.SlSortCmp.NoneTotal
import Derived.Lib.SliceRun
import Derived.Test.YtaebeemnipafbaaGreatDoorClone
import Derived.Test.YtaebeemnipafbaaGreatDoorRefNum
import Derived.Test.YtaebeemnipafbaaGreatDoorStrX
import Derived.Test.YtaebeemnipafbaaGreatDoorDrawT
import Derived.Test.YtaebeemnipafbaaGreatDoorForkM
set_option maxRecDepth 20000
set_option linter.unusedSimpArgs false
set_option linter.unusedVariables false
namespace Go.Proofs.YtaebeemnipafbaaGreatDoor
open Go.RowKit
theorem tkey_any (k : Int) (w : World) : Calls Tryz.prog 89 #[.int .i64 k] w fun e w' => e = .returned (.bool (decide (0 ≤ k ∧ k < 4294967296))) ∧ St w w' [] := by
 have hst := St.refl w
 by_cases h0 : 0 ≤ k
 ·by_cases h1 : k < 4294967296
  ·rw [decide_eq_true ⟨h0, h1⟩]
   go_enter Tryz.func89, Tryz.ntmps89
   go_wp2_with fail
   go_ret
   exact ⟨rfl, hst⟩
  ·rw [decide_eq_false (fun h => h1 h.2)]
   go_enter Tryz.func89, Tryz.ntmps89
   go_wp2_with fail
   go_ret
   exact ⟨rfl, hst⟩
 ·rw [decide_eq_false (fun h => h0 h.1)]
  go_enter Tryz.func89, Tryz.ntmps89
  go_wp2_with fail
  go_ret
  exact ⟨rfl, hst⟩
set_option maxHeartbeats 4000000 in
theorem mnode_any (l r : Dig) (w : World) (hT : Tb w) : Calls Tryz.prog 95 #[l.v, r.v] w fun e w' => e = .returned (mNode l r).v ∧ St w w' [] := by
 have hst := St.refl w
 have HT := Lib.hid hT
 have hd : digsL [l, r] = l.arr.toList ++ r.arr.toList := by simp [digsL, Dig.toList]
 have HD := Lib.hid hd
 clear hT hd
 obtain ⟨m, hm⟩ : ∃ m, m = mNode l r := ⟨_, rfl⟩
 rw [← hm]
 unfold mNode at hm
 by_cases hl : l = zeroD
 ·have hdl := Lib.hid (decide_eq_true hl)
  by_cases hr : r = zeroD
  ·have hdr := Lib.hid (decide_eq_true hr)
   rw [if_pos ⟨hl, hr⟩] at hm
   have HM := Lib.hid hm
   clear hm hl hr
   go_enter Tryz.func95, Tryz.ntmps95
   go_upto_region 1 with (go_big_may; first | (refine L_boxA (d := some 2) rfl rfl rfl (ev_tmp rfl) ?_; (try clear hnew); intro g2 W2 hnew; replace hst := hst.trans hnew; simp only [List.cons_append, List.nil_append] at hst) | (refine L_boxA (d := some 3) rfl rfl rfl (ev_tmp rfl) ?_; (try clear hnew); intro g3 W3 hnew; replace hst := hst.trans hnew; simp only [List.cons_append, List.nil_append] at hst) | (refine L_allocA (d := some 4) rfl rfl rfl el_api_Digest ?_; (try clear hnew); intro g4 W4 hnew; replace hst := hst.trans hnew; simp only [List.cons_append, List.nil_append] at hst))
   go_upto_region 2 with (go_big_may; first | (refine L_build0 (d := some 6) rfl rfl rfl Tryz.underlying32 el_uint8 el_api_Digest ?_) | (refine L_allocA (d := some 5) rfl rfl rfl el_api_Digest ?_; (try clear hnew); intro g5 W5 hnew; replace hst := hst.trans hnew; simp only [List.cons_append, List.nil_append] at hst) | (refine wpl_at (.store 32 (.tmp 5) (.tmp 6)) rfl ?_; (refine L_storeA rfl rfl hst rfl (by rfl) (ev_tmp rfl) (by (exact Dig.one _)) el_api_Digest (by (rfl)) 0 rfl (by (rfl)) ?_; clear hst; intro WS2 hst; simp only [List.set_cons_zero, List.set_cons_succ] at hst)))
   go_upto_region 3 with (go_big_may; first | ((refine L_loadA (d := some 7) rfl rfl rfl (by rfl) Tryz.underlying32 rfl el_api_Digest (by (exact hst.get 3 rfl)) (by (exact Dig.size _)) ?_)) | ((refine L_loadA (d := some 8) rfl rfl rfl (by rfl) Tryz.underlying32 rfl el_api_Digest (by (exact hst.get 0 rfl)) (by (rfl)) ?_)) | (refine L_eqD (d := some 9) rfl rfl rfl Tryz.underlying32 Tryz.underlying5 el_uint8 eqG_D (ev_tmp rfl) (ev_tmp rfl) ?_; (try rw [hdl.out])) | ((refine L_loadA (d := some 11) rfl rfl rfl (by rfl) Tryz.underlying32 rfl el_api_Digest (by (exact hst.get 2 rfl)) (by (exact Dig.size _)) ?_)) | ((refine L_loadA (d := some 12) rfl rfl rfl (by rfl) Tryz.underlying32 rfl el_api_Digest (by (exact hst.get 0 rfl)) (by (rfl)) ?_)) | (refine L_eqD (d := some 13) rfl rfl rfl Tryz.underlying32 Tryz.underlying5 el_uint8 eqG_D (ev_tmp rfl) (ev_tmp rfl) ?_; (try rw [hdr.out])))
   go_wp2_with (first | ((refine L_loadA (d := some 15) rfl rfl rfl (by rfl) Tryz.underlying32 rfl el_api_Digest (by (exact hst.get 0 rfl)) (by (rfl)) ?_)) | (refine wpl_at (.store 32 (.tmp 4) (.tmp 15)) rfl ?_; (refine L_storeA rfl rfl hst rfl (by rfl) (ev_tmp rfl) (by (exact Dig.one _)) el_api_Digest (by (rfl)) 1 rfl (by (rfl)) ?_; clear hst; intro WS1 hst; simp only [List.set_cons_zero, List.set_cons_succ] at hst)))
   refine bp_cell rfl rfl rfl (hst.get 1 rfl) Tryz.underlying32 rfl el_api_Digest (by (rfl)) ?_
   rw [HM.out]
   exact ⟨rfl, hst.forget⟩
  ·have hdr := Lib.hid (decide_eq_false hr)
   rw [if_neg (fun h => hr h.2)] at hm
   have HM := Lib.hid hm
   clear hm hl hr
   go_enter Tryz.func95, Tryz.ntmps95
   go_upto_region 1 with (go_big_may; first | (refine L_boxA (d := some 2) rfl rfl rfl (ev_tmp rfl) ?_; (try clear hnew); intro g2 W2 hnew; replace hst := hst.trans hnew; simp only [List.cons_append, List.nil_append] at hst) | (refine L_boxA (d := some 3) rfl rfl rfl (ev_tmp rfl) ?_; (try clear hnew); intro g3 W3 hnew; replace hst := hst.trans hnew; simp only [List.cons_append, List.nil_append] at hst) | (refine L_allocA (d := some 4) rfl rfl rfl el_api_Digest ?_; (try clear hnew); intro g4 W4 hnew; replace hst := hst.trans hnew; simp only [List.cons_append, List.nil_append] at hst))
   go_upto_region 2 with (go_big_may; first | (refine L_build0 (d := some 6) rfl rfl rfl Tryz.underlying32 el_uint8 el_api_Digest ?_) | (refine L_allocA (d := some 5) rfl rfl rfl el_api_Digest ?_; (try clear hnew); intro g5 W5 hnew; replace hst := hst.trans hnew; simp only [List.cons_append, List.nil_append] at hst) | (refine wpl_at (.store 32 (.tmp 5) (.tmp 6)) rfl ?_; (refine L_storeA rfl rfl hst rfl (by rfl) (ev_tmp rfl) (by (exact Dig.one _)) el_api_Digest (by (rfl)) 0 rfl (by (rfl)) ?_; clear hst; intro WS2 hst; simp only [List.set_cons_zero, List.set_cons_succ] at hst)))
   go_upto_region 4 with (go_big_may; first | ((refine L_loadA (d := some 7) rfl rfl rfl (by rfl) Tryz.underlying32 rfl el_api_Digest (by (exact hst.get 3 rfl)) (by (exact Dig.size _)) ?_)) | ((refine L_loadA (d := some 8) rfl rfl rfl (by rfl) Tryz.underlying32 rfl el_api_Digest (by (exact hst.get 0 rfl)) (by (rfl)) ?_)) | (refine L_eqD (d := some 9) rfl rfl rfl Tryz.underlying32 Tryz.underlying5 el_uint8 eqG_D (ev_tmp rfl) (ev_tmp rfl) ?_; (try rw [hdl.out])) | ((refine L_loadA (d := some 11) rfl rfl rfl (by rfl) Tryz.underlying32 rfl el_api_Digest (by (exact hst.get 2 rfl)) (by (exact Dig.size _)) ?_)) | ((refine L_loadA (d := some 12) rfl rfl rfl (by rfl) Tryz.underlying32 rfl el_api_Digest (by (exact hst.get 0 rfl)) (by (rfl)) ?_)) | (refine L_eqD (d := some 13) rfl rfl rfl Tryz.underlying32 Tryz.underlying5 el_uint8 eqG_D (ev_tmp rfl) (ev_tmp rfl) ?_; (try rw [hdr.out])))
   go_wp2_with (first | (go_at_call 126; (try clear hnew); refine (of_any 10 [l, r] _ _ _ _ (HT.out.of hst) (by rw [HD.out]; exact hst.sl 0 rfl) (by decide)).mono ?_; rintro e W8 ⟨rfl, hnew⟩; replace hst := hst.keep hnew) | ((refine L_loadA (d := some 16) rfl rfl rfl (by rfl) Tryz.underlying32 rfl el_api_Digest (by (exact hst.get 3 rfl)) (by (exact Dig.size _)) ?_)) | ((refine L_loadA (d := some 17) rfl rfl rfl (by rfl) Tryz.underlying32 rfl el_api_Digest (by (exact hst.get 2 rfl)) (by (exact Dig.size _)) ?_)) | (refine L_buildS (d := some 18) rfl rfl rfl [_, _] (bs_2 (ev_tmp rfl) (ev_tmp rfl)) rfl Tryz.underlying44 el_api_Digest rfl (by (simp [Value.cells, Dig.size]; done)) (by decide) (by decide) ?_; (try clear hnew); intro g18 W18 hnew; replace hst := hst.trans hnew; simp only [List.cons_append, List.nil_append] at hst; simp only [List.flatMap_cons, List.flatMap_nil, List.append_nil, Value.cells, List.toList_toArray] at hst) | (refine wpl_at (.store 32 (.tmp 4) (.tmp 19)) rfl ?_; (refine L_storeA rfl rfl hst rfl (by rfl) (ev_tmp rfl) (by (exact Dig.one _)) el_api_Digest (by (rfl)) 2 rfl (by (rfl)) ?_; clear hst; intro WS4 hst; simp only [List.set_cons_zero, List.set_cons_succ] at hst)))
   refine bp_cell rfl rfl rfl (hst.get 2 rfl) Tryz.underlying32 rfl el_api_Digest (by (rfl)) ?_
   rw [HM.out]
   exact ⟨rfl, hst.forget⟩
 ·have hdl := Lib.hid (decide_eq_false hl)
  rw [if_neg (fun h => hl h.1)] at hm
  have HM := Lib.hid hm
  clear hm hl
  go_enter Tryz.func95, Tryz.ntmps95
  go_upto_region 1 with (go_big_may; first | (refine L_boxA (d := some 2) rfl rfl rfl (ev_tmp rfl) ?_; (try clear hnew); intro g2 W2 hnew; replace hst := hst.trans hnew; simp only [List.cons_append, List.nil_append] at hst) | (refine L_boxA (d := some 3) rfl rfl rfl (ev_tmp rfl) ?_; (try clear hnew); intro g3 W3 hnew; replace hst := hst.trans hnew; simp only [List.cons_append, List.nil_append] at hst) | (refine L_allocA (d := some 4) rfl rfl rfl el_api_Digest ?_; (try clear hnew); intro g4 W4 hnew; replace hst := hst.trans hnew; simp only [List.cons_append, List.nil_append] at hst))
  go_upto_region 2 with (go_big_may; first | (refine L_build0 (d := some 6) rfl rfl rfl Tryz.underlying32 el_uint8 el_api_Digest ?_) | (refine L_allocA (d := some 5) rfl rfl rfl el_api_Digest ?_; (try clear hnew); intro g5 W5 hnew; replace hst := hst.trans hnew; simp only [List.cons_append, List.nil_append] at hst) | (refine wpl_at (.store 32 (.tmp 5) (.tmp 6)) rfl ?_; (refine L_storeA rfl rfl hst rfl (by rfl) (ev_tmp rfl) (by (exact Dig.one _)) el_api_Digest (by (rfl)) 0 rfl (by (rfl)) ?_; clear hst; intro WS2 hst; simp only [List.set_cons_zero, List.set_cons_succ] at hst)))
  go_upto_region 4 with (go_big_may; first | ((refine L_loadA (d := some 7) rfl rfl rfl (by rfl) Tryz.underlying32 rfl el_api_Digest (by (exact hst.get 3 rfl)) (by (exact Dig.size _)) ?_)) | ((refine L_loadA (d := some 8) rfl rfl rfl (by rfl) Tryz.underlying32 rfl el_api_Digest (by (exact hst.get 0 rfl)) (by (rfl)) ?_)) | (refine L_eqD (d := some 9) rfl rfl rfl Tryz.underlying32 Tryz.underlying5 el_uint8 eqG_D (ev_tmp rfl) (ev_tmp rfl) ?_; (try rw [hdl.out])))
  go_wp2_with (first | (go_at_call 126; (try clear hnew); refine (of_any 10 [l, r] _ _ _ _ (HT.out.of hst) (by rw [HD.out]; exact hst.sl 0 rfl) (by decide)).mono ?_; rintro e W8 ⟨rfl, hnew⟩; replace hst := hst.keep hnew) | ((refine L_loadA (d := some 16) rfl rfl rfl (by rfl) Tryz.underlying32 rfl el_api_Digest (by (exact hst.get 3 rfl)) (by (exact Dig.size _)) ?_)) | ((refine L_loadA (d := some 17) rfl rfl rfl (by rfl) Tryz.underlying32 rfl el_api_Digest (by (exact hst.get 2 rfl)) (by (exact Dig.size _)) ?_)) | (refine L_buildS (d := some 18) rfl rfl rfl [_, _] (bs_2 (ev_tmp rfl) (ev_tmp rfl)) rfl Tryz.underlying44 el_api_Digest rfl (by (simp [Value.cells, Dig.size]; done)) (by decide) (by decide) ?_; (try clear hnew); intro g18 W18 hnew; replace hst := hst.trans hnew; simp only [List.cons_append, List.nil_append] at hst; simp only [List.flatMap_cons, List.flatMap_nil, List.append_nil, Value.cells, List.toList_toArray] at hst) | (refine wpl_at (.store 32 (.tmp 4) (.tmp 19)) rfl ?_; (refine L_storeA rfl rfl hst rfl (by rfl) (ev_tmp rfl) (by (exact Dig.one _)) el_api_Digest (by (rfl)) 2 rfl (by (rfl)) ?_; clear hst; intro WS4 hst; simp only [List.set_cons_zero, List.set_cons_succ] at hst)))
  refine bp_cell rfl rfl rfl (hst.get 2 rfl) Tryz.underlying32 rfl el_api_Digest (by (rfl)) ?_
  rw [HM.out]
  exact ⟨rfl, hst.forget⟩
theorem be4_cells (n : Int) : [Value.int .u8 9, .int .u8 (n / 16777216 % 256), .int .u8 (n / 65536 % 256), .int .u8 (n / 256 % 256), .int .u8 (n % 256)] = [Value.int .u8 9, byteV (byteS n 3), byteV (byteS n 2), byteV (byteS n 1), byteV (byteS n 0)] := by
 rw [bS n 3 (by decide) _ (by decide), bS n 2 (by decide) _ (by decide), bS n 1 (by decide) _ (by decide), bS0]
theorem be4_bytes (k : Nat) (h : k < 4294967296) : [Value.int .u8 9, byteV (byteS (k : Int) 3), byteV (byteS (k : Int) 2), byteV (byteS (k : Int) 1), byteV (byteS (k : Int) 0)] = bytesL (9 :: bigE 4 k) := by
 have hu : unsN (k : Int) = k := by unfold unsN; omega
 simp [bytesL, byteS, hu, bigE, List.range_succ, Nat.shiftRight_eq_div_pow]
 rfl
set_option maxHeartbeats 2000000 in
theorem tleafE_any (k : Nat) (d : Dig) (w : World) (hT : Tb w) (hk : k < 4294967296) : Calls Tryz.prog 96 #[.agg (prArr (k : Int) d)] w fun e w' => e = .returned (.tuple #[(eLeaf k d).v, .nilIface]) ∧ St w w' [] := by
 have hst := St.refl w
 have HT := Lib.hid hT
 have HB := Lib.hid (be4_bytes k hk)
 have HL := Lib.hid (show bytesL (9 :: bigE 4 k) ++ d.arr.toList = bytesL (9 :: (bigE 4 k ++ d.l)) by rw [Dig.toList, ← bytesL_append]; rfl)
 have HK := Lib.hid (fun w : World => by have h := tkey_any (k : Int) w; rw [decide_eq_true (show 0 ≤ (k : Int) ∧ (k : Int) < 4294967296 by omega)] at h; exact h)
 clear hT hk
 go_enter Tryz.func96, Tryz.ntmps96
 go_upto_region 1 with (go_big_may; first | (refine L_boxA (d := some 1) rfl rfl rfl (ev_tmp rfl) ?_; (try clear hnew); intro g1 W1 hnew; replace hst := hst.trans hnew; simp only [List.cons_append, List.nil_append] at hst) | (refine L_allocA (d := some 2) rfl rfl rfl el_api_Digest ?_; (try clear hnew); intro g2 W2 hnew; replace hst := hst.trans hnew; simp only [List.cons_append, List.nil_append] at hst))
 go_upto_region 3 with (go_big_may; first | (go_at_call 89; (try clear hnew); refine (HK.out _).mono ?_; rintro e Wk ⟨rfl, hnew⟩; replace hst := hst.keep hnew) | (refine L_load1 (d := some 6) rfl rfl rfl (by rfl) Tryz.underlying3 rfl (by (exact cell_of (hst.get 1 rfl) prArr_0)) ?_))
 go_upto_region 4 with (go_big_may; first | (refine L_load1 (d := some 12) rfl rfl rfl (by rfl) Tryz.underlying3 rfl (by (exact cell_of (hst.get 1 rfl) prArr_0)) ?_) | (refine L_load1 (d := some 16) rfl rfl rfl (by rfl) Tryz.underlying3 rfl (by (exact cell_of (hst.get 1 rfl) prArr_0)) ?_) | (refine L_load1 (d := some 20) rfl rfl rfl (by rfl) Tryz.underlying3 rfl (by (exact cell_of (hst.get 1 rfl) prArr_0)) ?_) | (refine L_load1 (d := some 24) rfl rfl rfl (by rfl) Tryz.underlying3 rfl (by (exact cell_of (hst.get 1 rfl) prArr_0)) ?_) | (refine L_buildS (d := some 26) rfl rfl rfl [_, _, _, _, _] (bs_5 ev_const (ev_tmp rfl) (ev_tmp rfl) (ev_tmp rfl) (ev_tmp rfl)) rfl Tryz.underlying22 el_uint8 rfl (by (simp [Value.cells]; done)) (by decide) (by decide) ?_; (try clear hnew); intro g26 W26 hnew; replace hst := hst.trans hnew; simp only [List.cons_append, List.nil_append] at hst; simp only [List.flatMap_cons, List.flatMap_nil, List.append_nil, Value.cells, List.toList_toArray] at hst))
 simp only [List.cons_append, List.nil_append] at hst
 rw [be4_cells k] at hst
 rw [HB.out] at hst
 clear hnew
 go_wp2_with (first | (refine L_sliceMid (d := some 29) rfl rfl rfl (by rfl) Tryz.underlying32 el_uint8 (prArr_range (hst.get 2 rfl)) (Dig.size _) (by decide) ?_; intro hs29) | (go_at_call 80; (try clear hnew); refine (ssum_any (List.cons 9 (bigE 4 k ++ d.l)) _ _ _ _ (HT.out.of hst) (by rw [← HL.out]; exact hst.sl 0 rfl) (by decide)).mono ?_; rintro e Wk1 ⟨rfl, hnew⟩; replace hst := hst.keep hnew) | (refine L_appendO (d := some 30) rfl rfl hst rfl (by rfl) (by rfl) Tryz.underlying22 el_uint8 rfl (by decide) (by decide) 0 rfl (by (rfl)) (by (exact hs29)) (by (exact oneCell_bytes)) (by omega) ?_; clear hst; intro A30 c30 W30 hst; simp only [List.set_cons_zero, List.set_cons_succ, List.nil_append, Nat.zero_add] at hst) | (refine wpl_at (.store 32 (.tmp 2) (.tmp 31)) rfl ?_; (refine L_storeA rfl rfl hst rfl (by rfl) (ev_tmp rfl) (by (exact Dig.one _)) el_api_Digest (by (rfl)) 1 rfl (by (rfl)) ?_; clear hst; intro WS5 hst; simp only [List.set_cons_zero, List.set_cons_succ, HL.out] at hst)))
 refine bp_cell_tmp rfl rfl rfl rfl (hst.get 1 rfl) Tryz.underlying32 rfl el_api_Digest (by (rfl)) ?_
 exact ⟨rfl, hst.forget⟩
end Go.Proofs.YtaebeemnipafbaaGreatDoor

set_option maxRecDepth 20000
set_option linter.unusedSimpArgs false
set_option linter.unusedVariables false
namespace Go.Proofs.YtaebeemnipafbaaGreatDoor
open Go.RowKit Go.Shelf
theorem nmP_is (r : Nat) (b : Bool) (h : b = !decide (97 ≤ r ∧ r ≤ 122 ∨ 48 ≤ r ∧ r ≤ 57 ∨ r = 45)) : Value.bool (nmP r) = .bool b := by rw [h]; rfl
set_option maxHeartbeats 2000000 in
theorem named_pred (w : World) : PredAt Tryz.prog 79 #[] encR nmP w := fun W r _ => by
 unfold FnGives
 by_cases a1 : r < 97
 ·have z1 : (r : Int) < 97 := by omega
  by_cases b1 : r < 48
  ·have z2 : (r : Int) < 48 := by omega
   by_cases c1 : r = 45
   ·subst c1
    go_enter Tryz.func79, Tryz.ntmps79
    go_wp2
    go_ret
    exact ⟨rfl, 0, rfl⟩
   ·have z3 : ((r : Int) != 45) = true := by rw [bne_iff_ne]; omega
    go_enter Tryz.func79, Tryz.ntmps79
    go_wp2
    go_ret
    exact ⟨congrArg _ (nmP_is r true (by rw [decide_eq_false (by omega)]; rfl)).symm, 0, rfl⟩
  ·have z2 : ¬ (r : Int) < 48 := by omega
   by_cases b2 : 57 < r
   ·have z4 : (57 : Int) < (r : Int) := by omega
    have z3 : ((r : Int) != 45) = true := by rw [bne_iff_ne]; omega
    go_enter Tryz.func79, Tryz.ntmps79
    go_wp2
    go_ret
    exact ⟨congrArg _ (nmP_is r true (by rw [decide_eq_false (by omega)]; rfl)).symm, 0, rfl⟩
   ·have z4 : ¬ (57 : Int) < (r : Int) := by omega
    go_enter Tryz.func79, Tryz.ntmps79
    go_wp2
    go_ret
    exact ⟨congrArg _ (nmP_is r false (by rw [decide_eq_true (by omega)]; rfl)).symm, 0, rfl⟩
 ·have z1 : ¬ (r : Int) < 97 := by omega
  by_cases a2 : 122 < r
  ·have z5 : (122 : Int) < (r : Int) := by omega
   have z2 : ¬ (r : Int) < 48 := by omega
   have z4 : (57 : Int) < (r : Int) := by omega
   have z3 : ((r : Int) != 45) = true := by rw [bne_iff_ne]; omega
   go_enter Tryz.func79, Tryz.ntmps79
   go_wp2
   go_ret
   exact ⟨congrArg _ (nmP_is r true (by rw [decide_eq_false (by omega)]; rfl)).symm, 0, rfl⟩
  ·have z5 : ¬ (122 : Int) < (r : Int) := by omega
   go_enter Tryz.func79, Tryz.ntmps79
   go_wp2
   go_ret
   exact ⟨congrArg _ (nmP_is r false (by rw [decide_eq_true (by omega)]; rfl)).symm, 0, rfl⟩
set_option maxHeartbeats 1000000 in
theorem named_any (l : List UInt8) (w : World) : Calls Tryz.prog 34 #[.string (bsOf l)] w fun e w' => e = .returned (.bool (isNm l)) ∧ St w w' [] := by
 have hst := St.refl w
 have HC := Lib.hid (fun w : World => Tryz.strings_ContainsFunc 79 #[] (enters_of Tryz.func79 (by kernel_rfl) rfl) nmP (bsOf l) w (named_pred w))
 rw [name_idx] at HC
 have hz := bsOf_size l
 obtain ⟨b, hb⟩ : ∃ b, b = isNm l := ⟨_, rfl⟩
 rw [← hb]
 unfold isNm at hb
 cases l with
 | nil =>
  have h0 := bsOf_nil
  go_enter Tryz.func34, Tryz.ntmps34
  go_wp2_with fail
  go_ret
  exact ⟨by rw [hb]; rfl, hst⟩
 | cons a l =>
  have hne := bsOf_cons (List.cons_ne_nil a l)
  by_cases h30 : (a :: l).length ≤ 30
  ·rw [decide_eq_true ⟨by simp, h30⟩, Bool.true_and] at hb
   generalize bsOf (a :: l) = s at *
   have hs : ¬ (30 : Int) < (s.size : Int) := by omega
   generalize (a :: l).all okB = r at *
   clear h30 hz
   have HB := Lib.hid hb
   clear hb
   go_enter Tryz.func34, Tryz.ntmps34
   go_wp2_with ((go_at_call 78; refine (HC.out _).mono ?_; rintro e Wc ⟨rfl, hnew⟩))
   go_ret
   exact ⟨by rw [HB.out]; rfl, ⟨hnew, by simp, by simp, List.Pairwise.nil⟩⟩
  ·rw [decide_eq_false (fun h => h30 h.2), Bool.false_and] at hb
   generalize bsOf (a :: l) = s at *
   have hs : (30 : Int) < (s.size : Int) := by omega
   generalize (a :: l).all okB = r at *
   clear h30 hz
   have HB := Lib.hid hb
   clear hb
   go_enter Tryz.func34, Tryz.ntmps34
   go_wp2_with fail
   go_ret
   exact ⟨by rw [HB.out]; rfl, hst⟩
end Go.Proofs.YtaebeemnipafbaaGreatDoor

set_option maxRecDepth 20000
set_option linter.unusedSimpArgs false
set_option linter.unusedVariables false
namespace Go.Proofs.YtaebeemnipafbaaGreatDoor
open Go.ChangeShapes Go.WideShapes Go.ChangeAt Go.RowKit Go.Deep
abbrev Piece := Option Addr × Nat × Nat × List UInt8
def Piece.v (p : Piece) : Value := .slice p.1 p.2.1 p.2.2.1
section
variable {P : Program} {H : Type} {enc : TypeId × Value → H} {W : World} {base : Nat} {spare : Nat → Bool} {held : Bool}
instance : Inhabited Piece := ⟨(none, 0, 0, [])⟩
end
end Go.Proofs.YtaebeemnipafbaaGreatDoor

set_option maxRecDepth 20000
set_option linter.unusedSimpArgs false
set_option linter.unusedVariables false
namespace Go.Proofs.YtaebeemnipafbaaGreatDoor
open Go.RowKit
def allPc (ps : List Piece) : List UInt8 := ps.flatMap fun p => p.2.2.2
theorem allPc_take (ps : List Piece) (i : Nat) (h : i < ps.length) : allPc (ps.take (i + 1)) = allPc (ps.take i) ++ (ps[i]).2.2.2 := by
 unfold allPc
 rw [List.take_succ_eq_append_getElem h, List.flatMap_append, List.flatMap_cons, List.flatMap_nil, List.append_nil]
theorem allPc_take_le (ps : List Piece) (i : Nat) : (allPc (ps.take i)).length ≤ (allPc ps).length := by
 have : allPc ps = allPc (ps.take i) ++ allPc (ps.drop i) := by
  rw [allPc, allPc, allPc, ← List.flatMap_append, List.take_append_drop]
 rw [this, List.length_append]
 omega
def piecesL (ps : List Piece) : List Value := ps.map Piece.v
theorem piece_at {W : World} {g off i : Nat} {ps : List Piece} (h : W.rangeAt g (off + (i : Int).toNat * 1) (((piecesL ps).drop ((i : Int).toNat * 1)).take 1)) (hi : i < ps.length) : W.cell? ⟨g, off + (i : Int).toNat * 1, none⟩ = some (.slice ps[i].1 ps[i].2.1 ps[i].2.2.1) := by
 have := h 0 ps[i].v (by simp [piecesL, hi])
 simpa [Piece.v] using this
set_option maxHeartbeats 2000000 in
theorem growB_any (n : Nat) (w : World) (hn : n ≤ 140737488355328) :
  Calls Tryz.prog 103 #[.slice none 0 0, .int .i64 (n : Int)] w fun e w' => ∃ O c, e = .returned (.slice O 0 c) ∧ St w w' [.row O 0 c 5 1 []] := by
 by_cases h0 : n = 0
 ·subst h0
  have hst := St.refl w
  go_enter Tryz.func103, Tryz.ntmps103
  go_wp2_with (fail)
  go_ret
  exact ⟨none, 0, rfl, hst.nilRow _ 1⟩
 ·obtain ⟨i, hi, hiz, his, hib⟩ := el_uint8.parts
  have hrz : ∀ ty, (Builtin.append_ #[22, 3] ty #[.slice none 0 0, .int .i64 (n : Int)]).run Tryz.prog w =
    .ok (.slice (some ⟨w.heap.size, 0, none⟩) n (grownCap w n 0 5)) (w.drew.alloc (.cells (Builtin.zeroCells (Value.int .u8 0).cells n ++ Builtin.zeroCells (Value.int .u8 0).cells (grownCap w n 0 5 - n)) 5)) := fun ty => by
   have h := Lib.run_append_grow_zeros w 22 3 ty 5 i _ .i64 .i64 Tryz.underlying22 Tryz.underlying3 hi hiz none 0 0 [] (run_firstCells_none w.drew i.size 0 0 0) n (by omega) (by rw [his]; decide) (by omega) (by omega) (by rw [hib]; omega) (growslice_fits (by omega) (by rw [hib]; omega))
   simpa using h
  have hge : n ≤ grownCap w n 0 5 := grownCap_ge w _ _ _
  have hcm := grownCap_le_maxLen w n 0 5 (by unfold maxLen; omega)
  have hst : St w (w.drew.alloc (.cells (Builtin.zeroCells (Value.int .u8 0).cells n ++ Builtin.zeroCells (Value.int .u8 0).cells (grownCap w n 0 5 - n)) 5)) [.row (some ⟨w.heap.size, 0, none⟩) 0 (grownCap w n 0 5) 5 1 []] :=
   ((St.refl w).drew).allocRow 5 ⟨by simp, by omega, hcm, by simp [size_zeroCells, Value.cells]; omega, fun j v hv => by simp at hv⟩
  obtain ⟨G, hG⟩ : ∃ G, G = grownCap w n 0 5 := ⟨_, rfl⟩
  rw [← hG] at hrz hge hcm hst
  simp only [maxLen] at hcm
  clear hG
  have h1 : ¬ (n : Int) < 0 := by omega
  have h3 : wrap64 ((n : Int) - 0) = (n : Int) := by unfold wrap64; omega
  have h4 : (0 : Int) < (n : Int) := by omega
  go_enter Tryz.func103, Tryz.ntmps103
  go_wp2_with (at_builtin; refine Lib.wpList_append_run _ rfl _ _ _ _ rfl _ _ rfl rfl _ _ (hrz _) ?_)
  all_goals
   go_ret
   exact ⟨_, _, rfl, hst⟩
set_option maxHeartbeats 2000000 in
set_option maxRecDepth 100000 in
theorem concat_any (ps : List Piece) (A : Option Addr) (n c : Nat) (w : World) (hs : SlR w A n c 1 (piecesL ps)) (hp : ∀ p ∈ ps, SlR w p.1 p.2.1 p.2.2.1 1 (bytesL p.2.2.2)) (hb : (allPc ps).length ≤ 140737488355328) :
  Calls Tryz.prog 62 #[.slice A n c] w fun e w' => ∃ O oc, e = .returned (.slice O (allPc ps).length oc) ∧ St w w' [.row O (allPc ps).length oc 5 1 (bytesL (allPc ps))] := by
 have hst := St.refl w
 have hnl := hs.1
 rw [piecesL, List.length_map, Nat.mul_one] at hnl
 have Hnl := Lib.hid hnl
 have Hp := Lib.hid hp
 have Hb := Lib.hid hb
 have hcm := hs.2.2.1
 have hnc := hs.2.1
 simp only [maxLen] at hcm
 clear hnl hp hb
 go_enter Tryz.func62, Tryz.ntmps62
 go_wp2_with (fail)
 go_loopg [3, 11] n (fun gk s3 s11 wr => ∃ (i m : Nat), Hid (i + gk = n) ∧ Hid ((allPc (ps.take i)).length = m) ∧ m ≤ 140737488355328 ∧ s3 = .int .i64 (m : Int) ∧ s11 = .int .i64 (i : Int) ∧ St w wr [])
 case atStart => exact ⟨0, 0, Lib.hid (by omega), Lib.hid rfl, by omega, rfl, rfl, hst⟩
 case round =>
  clear hst
  obtain ⟨i, m, HI, HM, hm, rfl, rfl, hst⟩ := hrel
  have hi := HI.out
  by_cases hin : i < n
  ·clear hi
   have hil := Lib.hid (show i < ps.length by rw [Hnl.out]; exact hin)
   have HC := Lib.hid (fun (W : World) (g off : Nat) h => piece_at (W := W) (g := g) (off := off) (i := i) (ps := ps) h hil.out)
   have HA := Lib.hid (allPc_take ps i hil.out)
   have hle := allPc_take_le ps (i + 1)
   have hbb := Hb.out
   have hpl := (Hp.out ps[i] (List.getElem_mem hil.out)).1
   rw [HA.out, List.length_append, HM.out] at hle
   generalize ps[i]'hil.out = q at HC HA hle hpl
   obtain ⟨PA, pn, pc, pl⟩ := q
   dsimp only at HC HA hle hpl
   simp only [length_bytesL, Nat.mul_one] at hle hpl
   have hmp : m + pn ≤ 140737488355328 := by omega
   have Hpl := Lib.hid hpl
   clear hle hbb hpl
   go_wp2_with (first | (refine L_load1 (d := some 14) rfl rfl rfl (by rfl) Tryz.underlying22 rfl (HC.out _ _ _ hr13) ?_) | (refine L_idxS (d := some 13) rfl rfl rfl (by rfl) (by rfl) Tryz.underlying162 el_S_uint8 (by (exact hst.old (by decide) hs)) (by omega) (by omega) ?_; intro o13 p13 ha13 hr13; ((subst ha13))))
   all_goals
    go_roundg (gk - 1)
    case measure => have hi := HI.out; omega
    case rel =>
     have hi := HI.out
     exact ⟨i + 1, m + pn, Lib.hid (by omega), Lib.hid (by rw [HA.out, List.length_append, HM.out, Hpl.out]), hmp, by go_num, by go_num, hst⟩
  ·obtain rfl : i = n := by omega
   clear hi HI
   have HL := Lib.hid (show (allPc ps).length = m by rw [← HM.out, List.take_of_length_le (by rw [Hnl.out]; exact Nat.le_refl _)])
   clear HM
   go_wp2_with ((go_at_call 103; (try clear hnew); refine (growB_any m _ hm).mono ?_; rintro e Wk1 ⟨O24, c24, rfl, hnew⟩; replace hst := hst.trans hnew; simp only [List.cons_append, List.nil_append] at hst))
   (try clear hnew)
   go_loopg [6, 27] i (fun gk s6 s27 wr => ∃ (j q oc : Nat) (O : Option Addr), Hid (j + gk = i) ∧ Hid ((allPc (ps.take j)).length = q) ∧ s6 = .slice O q oc ∧ s27 = .int .i64 (j : Int) ∧ St w wr [.row O q oc 5 1 (bytesL (allPc (ps.take j)))])
   case atStart => exact ⟨0, 0, _, _, Lib.hid (by omega), Lib.hid rfl, rfl, rfl, hst⟩
   case round =>
    clear hst
    obtain ⟨j, q, oc, O, HJ, HQ, rfl, rfl, hst⟩ := hrel
    have hj := HJ.out
    by_cases hjn : j < i
    ·clear hj
     have hil := Lib.hid (show j < ps.length by rw [Hnl.out]; exact hjn)
     have HC := Lib.hid (fun (W : World) (g off : Nat) h => piece_at (W := W) (g := g) (off := off) (i := j) (ps := ps) h hil.out)
     have HP := Hp.out (ps[j]'hil.out) (List.getElem_mem hil.out)
     have HA := Lib.hid (allPc_take ps j hil.out)
     have hle := allPc_take_le ps (j + 1)
     have hbb := Hb.out
     have hpl := HP.1
     rw [HA.out, List.length_append, HQ.out] at hle
     generalize ps[j]'hil.out = r at HC HP HA hle hpl
     obtain ⟨PA, pn, pc, pl⟩ := r
     dsimp only at HC HP HA hle hpl
     simp only [length_bytesL, Nat.mul_one] at hle hpl
     have hmp : q + pn ≤ 140737488355328 := by omega
     have Hpl := Lib.hid hpl
     clear hle hbb hpl
     generalize hal : allPc (ps.take j) = al at hst
     go_wp2_with (first | (refine L_load1 (d := some 30) rfl rfl rfl (by rfl) Tryz.underlying22 rfl (HC.out _ _ _ hr29) ?_) | (refine L_idxS (d := some 29) rfl rfl rfl (by rfl) (by rfl) Tryz.underlying162 el_S_uint8 (by (exact hst.old (by decide) hs)) (by omega) (by omega) ?_; intro o29 p29 ha29 hr29; ((subst ha29))) | (refine L_appendO (d := some 33) rfl rfl hst rfl (by rfl) (by rfl) Tryz.underlying22 el_uint8 rfl (by decide) (by decide) 0 rfl (by (rfl)) (by (exact hst.old (by decide) HP)) (by (exact oneCell_bytes)) (by omega) ?_; clear hst; intro A33 c33 W33 hst; simp only [List.set_cons_zero, List.set_cons_succ, List.nil_append, Nat.zero_add] at hst))
     go_roundg (gk - 1)
     case measure => have hj := HJ.out; omega
     case rel =>
      have hj := HJ.out
      refine ⟨j + 1, q + pn, _, _, Lib.hid (by omega), Lib.hid (by rw [HA.out, List.length_append, HQ.out, Hpl.out]), rfl, by go_num, ?_⟩
      rw [HA.out, bytesL_append, hal]
      exact hst
    ·obtain rfl : j = i := by omega
     clear hj HJ
     have hall : allPc (ps.take j) = allPc ps := by rw [List.take_of_length_le (by rw [Hnl.out]; exact Nat.le_refl _)]
     rw [hall] at hst
     obtain rfl : (allPc ps).length = q := by rw [← HQ.out, hall]
     clear hall HQ
     go_wp2_with (fail)
     go_ret
     exact ⟨_, _, rfl, hst⟩
theorem concat3_any (l1 l2 l3 : List UInt8) (B1 B2 B3 : Option Addr) (n1 c1 n2 c2 n3 c3 : Nat) (A : Option Addr) (c : Nat) (w : World) (hs : SlR w A 3 c 1 [.slice B1 n1 c1, .slice B2 n2 c2, .slice B3 n3 c3])
  (h1 : SlR w B1 n1 c1 1 (bytesL l1)) (h2 : SlR w B2 n2 c2 1 (bytesL l2)) (h3 : SlR w B3 n3 c3 1 (bytesL l3)) (hb : n1 + n2 + n3 ≤ 140737488355328) :
  Calls Tryz.prog 62 #[.slice A 3 c] w fun e w' => ∃ O oc, e = .returned (.slice O (n1 + n2 + n3) oc) ∧ St w w' [.row O (n1 + n2 + n3) oc 5 1 (bytesL (l1 ++ (l2 ++ l3)))] := by
 have e1 := h1.1
 have e2 := h2.1
 have e3 := h3.1
 rw [length_bytesL, Nat.mul_one] at e1 e2 e3
 have hl : allPc [((B1, n1, c1, l1) : Piece), (B2, n2, c2, l2), (B3, n3, c3, l3)] = l1 ++ (l2 ++ l3) := by simp [allPc]
 have hn : (l1 ++ (l2 ++ l3)).length = n1 + n2 + n3 := by rw [List.length_append, List.length_append]; omega
 have := concat_any [((B1, n1, c1, l1) : Piece), (B2, n2, c2, l2), (B3, n3, c3, l3)] A 3 c w hs (by
  intro p hp
  simp only [List.mem_cons, List.not_mem_nil, or_false] at hp
  rcases hp with rfl | rfl | rfl
  ·exact h1
  ·exact h2
  ·exact h3) (by rw [hl, hn]; exact hb)
 rw [hl, hn] at this
 exact this
theorem concat4_any (l1 l2 l3 l4 : List UInt8) (B1 B2 B3 B4 : Option Addr) (n1 c1 n2 c2 n3 c3 n4 c4 : Nat) (A : Option Addr) (c : Nat) (w : World) (hs : SlR w A 4 c 1 [.slice B1 n1 c1, .slice B2 n2 c2, .slice B3 n3 c3, .slice B4 n4 c4])
  (h1 : SlR w B1 n1 c1 1 (bytesL l1)) (h2 : SlR w B2 n2 c2 1 (bytesL l2)) (h3 : SlR w B3 n3 c3 1 (bytesL l3)) (h4 : SlR w B4 n4 c4 1 (bytesL l4)) (hb : n1 + n2 + n3 + n4 ≤ 140737488355328) :
  Calls Tryz.prog 62 #[.slice A 4 c] w fun e w' => ∃ O oc, e = .returned (.slice O (n1 + n2 + n3 + n4) oc) ∧ St w w' [.row O (n1 + n2 + n3 + n4) oc 5 1 (bytesL (l1 ++ (l2 ++ (l3 ++ l4))))] := by
 have e1 := h1.1
 have e2 := h2.1
 have e3 := h3.1
 have e4 := h4.1
 rw [length_bytesL, Nat.mul_one] at e1 e2 e3 e4
 have hl : allPc [((B1, n1, c1, l1) : Piece), (B2, n2, c2, l2), (B3, n3, c3, l3), (B4, n4, c4, l4)] = l1 ++ (l2 ++ (l3 ++ l4)) := by simp [allPc]
 have hn : (l1 ++ (l2 ++ (l3 ++ l4))).length = n1 + n2 + n3 + n4 := by rw [List.length_append, List.length_append, List.length_append]; omega
 have := concat_any [((B1, n1, c1, l1) : Piece), (B2, n2, c2, l2), (B3, n3, c3, l3), (B4, n4, c4, l4)] A 4 c w hs (by
  intro p hp
  simp only [List.mem_cons, List.not_mem_nil, or_false] at hp
  rcases hp with rfl | rfl | rfl | rfl
  ·exact h1
  ·exact h2
  ·exact h3
  ·exact h4) (by rw [hl, hn]; exact hb)
 rw [hl, hn] at this
 exact this
end Go.Proofs.YtaebeemnipafbaaGreatDoor

set_option maxRecDepth 20000
set_option linter.unusedSimpArgs false
set_option linter.unusedVariables false
namespace Go.Proofs.YtaebeemnipafbaaGreatDoor
open Go.RowKit
theorem sz4_big (n : Nat) (h : n < 4294967296) : sz4 (n : Int) = bigE 4 n := by
 have hu : unsN (n : Int) = n := by unfold unsN; omega
 simp [sz4, byteS, hu, bigE, List.range_succ, Nat.shiftRight_eq_div_pow]
set_option maxHeartbeats 2000000 in
set_option maxRecDepth 100000 in
theorem tag_any (key : List UInt8) (K : Option Addr) (m mc : Nat) (n : Int) (x y z : Dig) (w : World) (hn1 : -9223372036854775808 ≤ n) (hn2 : n ≤ 9223372036854775807) (hT : Tb w) (hk : SlR w K m mc 1 (bytesL key)) (hm : m ≤ 140737488355000) :
  Calls Tryz.prog 24 #[.slice K m mc, .agg (hdArr n x y z)] w fun e w' => e = .returned (tagN key n x y).v ∧ St w w' [] := by
 have hst := St.refl w
 have HT := Lib.hid hT
 clear hT
 by_cases hp : putNo n 4
 ·have HP := Lib.hid (fun w => oput_no n 4 w hn1 hn2 (by decide) (by decide) hp)
  clear hp hn1 hn2
  go_enter Tryz.func24, Tryz.ntmps24
  go_upto_region 1 with (first | (refine L_boxA (d := some 3) rfl rfl rfl (ev_tmp rfl) ?_; (try clear hnew); intro g3 W3 hnew; replace hst := hst.trans hnew; simp only [List.cons_append, List.nil_append] at hst) | (refine L_allocA (d := some 4) rfl rfl rfl el_api_Digest ?_; (try clear hnew); intro g4 W4 hnew; replace hst := hst.trans hnew; simp only [List.cons_append, List.nil_append] at hst))
  go_upto_region 2 with (first | (go_at_call 60; refine (HP.out _).mono ?_; unfold errV; rintro e Wp ⟨rfl, hnew⟩; replace hst := hst.keep hnew; clear hnew) | (refine L_load1 (d := some 9) rfl rfl rfl (by rfl) Tryz.underlying3 rfl (by (exact cell_of (hst.get 1 rfl) hdArr_0)) ?_))
  go_upto_region 3 with (fail)
  go_upto_region 4 with (first | (refine L_load1 (d := some 16) rfl rfl rfl (by rfl) Tryz.underlying3 rfl (by (exact cell_of (hst.get 1 rfl) hdArr_0)) ?_) | (refine L_load1 (d := some 20) rfl rfl rfl (by rfl) Tryz.underlying3 rfl (by (exact cell_of (hst.get 1 rfl) hdArr_0)) ?_) | (refine L_load1 (d := some 24) rfl rfl rfl (by rfl) Tryz.underlying3 rfl (by (exact cell_of (hst.get 1 rfl) hdArr_0)) ?_) | (refine L_load1 (d := some 28) rfl rfl rfl (by rfl) Tryz.underlying3 rfl (by (exact cell_of (hst.get 1 rfl) hdArr_0)) ?_) | (refine L_buildS (d := some 30) rfl rfl rfl [_, _, _, _] (bs_4 (ev_tmp rfl) (ev_tmp rfl) (ev_tmp rfl) (ev_tmp rfl)) rfl Tryz.underlying22 el_uint8 rfl (by (simp [Value.cells]; done)) (by decide) (by decide) ?_; (try clear hnew); intro g30 W30 hnew; replace hst := hst.trans hnew; simp only [List.cons_append, List.nil_append] at hst; simp only [List.flatMap_cons, List.flatMap_nil, List.append_nil, Value.cells, List.toList_toArray] at hst))
  simp only [List.cons_append, List.nil_append] at hst
  rw [sz4_cells] at hst
  clear hnew HP
  refine wp_region_idx [(0, 0), (1, 0), (2, 0), (3, 0), (4, 2), (5, 2), (6, 2), (7, 2), (8, 2), (9, 1)] (by kernel_rfl) (by kernel_rfl) ?_
  replace hst := hst.drew
  refine idx_q rfl rfl ?_; go_wp2_with fail
  refine idx_q rfl rfl ?_; go_wp2_with fail
  refine idx_qf rfl rfl (by kernel_rfl) ?_; go_wp2_with fail
  refine idx_q rfl rfl ?_; go_wp2_with ((refine L_sliceMid (d := some 34) rfl rfl rfl (by rfl) Tryz.underlying32 el_uint8 (hdArr_root (hst.get 2 rfl)) (Dig.size _) (by decide) ?_; intro hs34))
  refine idx_g rfl ?_; go_wp2_with fail; refine ⟨by (exact Below.refl _ _), ?_⟩
  refine idx_g rfl ?_; go_wp2_with ((refine L_sliceMid (d := some 36) rfl rfl rfl (by rfl) Tryz.underlying32 el_uint8 (hdArr_map (hst.get 2 rfl)) (Dig.size _) (by decide) ?_; intro hs36)); refine ⟨by (exact Below.refl _ _), ?_⟩
  refine idx_g rfl ?_; go_wp2_with ((refine L_buildS (d := some 37) rfl rfl rfl [_, _, _] (bs_3 (ev_tmp rfl) (ev_tmp rfl) (ev_tmp rfl)) rfl Tryz.underlying162 el_S_uint8 rfl (by (simp [Value.cells]; done)) (by decide) (by decide) ?_; (try clear hnew); intro g37 W37 hnew; replace hst := hst.trans hnew; simp only [List.cons_append, List.nil_append] at hst; simp only [List.flatMap_cons, List.flatMap_nil, List.append_nil, Value.cells, List.toList_toArray] at hst)); refine ⟨by (exact hnew.below), ?_⟩
  refine idx_g rfl ?_; go_wp2_with ((go_at_call 62; have h34 := hnew.old (by decide) hs34; have h36 := hnew.old (by decide) hs36; clear hnew; refine (concat3_any (sz4 n) x.l y.l _ _ _ _ _ _ _ _ _ _ _ _ (hst.sl 0 rfl) (hst.sl 1 rfl) (by rw [← Dig.toList]; exact h34) (by rw [← Dig.toList]; exact h36) (by omega)).mono ?_; rintro e W29 ⟨O29, c29, rfl, hnew⟩; replace hst := hst.trans hnew; simp only [List.cons_append, List.nil_append] at hst)); refine ⟨by (exact hnew.below), ?_⟩
  refine idx_g rfl ?_; go_wp2_with ((go_at_call 61; (try clear hnew); refine (mac_any key (sz4 n ++ (x.l ++ y.l)) _ _ _ _ _ _ _ (HT.out.of hst) (hst.old (by decide) hk) (hst.sl 0 rfl) hm (by decide)).mono ?_; rintro e Wk1 ⟨rfl, hnew⟩; replace hst := hst.keep hnew)); refine ⟨by (exact hnew.below), ?_⟩
  refine idx_e rfl ?_; go_wp2_with ((refine wpl_at (.store 32 (.tmp 4) (.tmp 39)) rfl ?_; (refine L_storeA rfl rfl hst rfl (by rfl) (ev_tmp rfl) (by (exact Dig.one _)) el_api_Digest (by (rfl)) 3 rfl (by (rfl)) ?_; clear hst; intro WS9 hst; simp only [List.set_cons_zero, List.set_cons_succ] at hst)))
  refine idx_nil ?_
  go_wp2_with fail
  refine bp_cell rfl rfl rfl (hst.get 3 rfl) Tryz.underlying32 rfl el_api_Digest (by (rfl)) ?_
  exact ⟨rfl, hst.forget⟩
 ·obtain ⟨h0, h1⟩ : 0 ≤ n ∧ n < 4294967296 := by
   have hp' : ¬ (n < 0) ∧ ¬ (0 < n / 4294967296) := ⟨fun h => hp (.inr (.inr (.inl h))), fun h => hp (.inr (.inr (.inr ⟨by decide, h⟩)))⟩
   omega
  have HP := Lib.hid (fun w : World => show Calls Tryz.prog 60 #[.int .i64 n, .int .i64 4] w fun e w' => ∃ A, e = .returned (.tuple #[.slice A 4 4, .nilIface]) ∧ St w w' [.row A 4 4 5 1 (bytesL (sz4 n))] from by
   obtain ⟨k, rfl⟩ := Int.eq_ofNat_of_zero_le h0
   have hk : k < 4294967296 := by omega
   rw [sz4_big k hk]
   exact oput_any k 4 w (by decide) (by decide) (by omega) (fun _ => by rw [Nat.shiftRight_eq_div_pow]; omega))
  clear hp hn1 hn2 h0 h1
  go_enter Tryz.func24, Tryz.ntmps24
  go_upto_region 1 with (first | (refine L_boxA (d := some 3) rfl rfl rfl (ev_tmp rfl) ?_; (try clear hnew); intro g3 W3 hnew; replace hst := hst.trans hnew; simp only [List.cons_append, List.nil_append] at hst) | (refine L_allocA (d := some 4) rfl rfl rfl el_api_Digest ?_; (try clear hnew); intro g4 W4 hnew; replace hst := hst.trans hnew; simp only [List.cons_append, List.nil_append] at hst))
  go_upto_region 2 with (first | (go_at_call 60; refine (HP.out _).mono ?_; rintro e Wp ⟨Op, rfl, hnew⟩; replace hst := hst.trans hnew; simp only [List.cons_append, List.nil_append] at hst; clear hnew) | (refine L_load1 (d := some 9) rfl rfl rfl (by rfl) Tryz.underlying3 rfl (by (exact cell_of (hst.get 1 rfl) hdArr_0)) ?_))
  go_upto_region 4 with (fail)
  clear HP
  refine wp_region_idx [(0, 0), (1, 0), (2, 0), (3, 0), (4, 2), (5, 2), (6, 2), (7, 2), (8, 2), (9, 1)] (by kernel_rfl) (by kernel_rfl) ?_
  replace hst := hst.drew
  refine idx_q rfl rfl ?_; go_wp2_with fail
  refine idx_q rfl rfl ?_; go_wp2_with fail
  refine idx_qf rfl rfl (by kernel_rfl) ?_; go_wp2_with fail
  refine idx_q rfl rfl ?_; go_wp2_with ((refine L_sliceMid (d := some 34) rfl rfl rfl (by rfl) Tryz.underlying32 el_uint8 (hdArr_root (hst.get 2 rfl)) (Dig.size _) (by decide) ?_; intro hs34))
  refine idx_g rfl ?_; go_wp2_with fail; refine ⟨by (exact Below.refl _ _), ?_⟩
  refine idx_g rfl ?_; go_wp2_with ((refine L_sliceMid (d := some 36) rfl rfl rfl (by rfl) Tryz.underlying32 el_uint8 (hdArr_map (hst.get 2 rfl)) (Dig.size _) (by decide) ?_; intro hs36)); refine ⟨by (exact Below.refl _ _), ?_⟩
  refine idx_g rfl ?_; go_wp2_with ((refine L_buildS (d := some 37) rfl rfl rfl [_, _, _] (bs_3 (ev_tmp rfl) (ev_tmp rfl) (ev_tmp rfl)) rfl Tryz.underlying162 el_S_uint8 rfl (by (simp [Value.cells]; done)) (by decide) (by decide) ?_; (try clear hnew); intro g37 W37 hnew; replace hst := hst.trans hnew; simp only [List.cons_append, List.nil_append] at hst; simp only [List.flatMap_cons, List.flatMap_nil, List.append_nil, Value.cells, List.toList_toArray] at hst)); refine ⟨by (exact hnew.below), ?_⟩
  refine idx_g rfl ?_; go_wp2_with ((go_at_call 62; have h34 := hnew.old (by decide) hs34; have h36 := hnew.old (by decide) hs36; clear hnew; refine (concat3_any (sz4 n) x.l y.l _ _ _ _ _ _ _ _ _ _ _ _ (hst.sl 0 rfl) (hst.sl 1 rfl) (by rw [← Dig.toList]; exact h34) (by rw [← Dig.toList]; exact h36) (by omega)).mono ?_; rintro e W29 ⟨O29, c29, rfl, hnew⟩; replace hst := hst.trans hnew; simp only [List.cons_append, List.nil_append] at hst)); refine ⟨by (exact hnew.below), ?_⟩
  refine idx_g rfl ?_; go_wp2_with ((go_at_call 61; (try clear hnew); refine (mac_any key (sz4 n ++ (x.l ++ y.l)) _ _ _ _ _ _ _ (HT.out.of hst) (hst.old (by decide) hk) (hst.sl 0 rfl) hm (by decide)).mono ?_; rintro e Wk2 ⟨rfl, hnew⟩; replace hst := hst.keep hnew)); refine ⟨by (exact hnew.below), ?_⟩
  refine idx_e rfl ?_; go_wp2_with ((refine wpl_at (.store 32 (.tmp 4) (.tmp 39)) rfl ?_; (refine L_storeA rfl rfl hst rfl (by rfl) (ev_tmp rfl) (by (exact Dig.one _)) el_api_Digest (by (rfl)) 3 rfl (by (rfl)) ?_; clear hst; intro WS9 hst; simp only [List.set_cons_zero, List.set_cons_succ] at hst)))
  refine idx_nil ?_
  go_wp2_with fail
  refine bp_cell rfl rfl rfl (hst.get 3 rfl) Tryz.underlying32 rfl el_api_Digest (by (rfl)) ?_
  exact ⟨rfl, hst.forget⟩
end Go.Proofs.YtaebeemnipafbaaGreatDoor

set_option maxRecDepth 20000
set_option linter.unusedSimpArgs false
set_option linter.unusedVariables false
namespace Go.Proofs.YtaebeemnipafbaaGreatDoor
open Go.RowKit
section
variable {P : Program} {ops : Array Oper} {rest : List Oper} {o : Oper} {a : Act} {W w0 : World} {Q : Exit → Act → World → Prop} {L : List Res} {d : Option Tmp}
theorem firstCells_str (l : List UInt8) (W : World) : (Builtin.firstCells 1 l.length (.string (bsOf l))).run P W = .ok (bytesL l).toArray W := by
 simp only [Builtin.firstCells, Sem.run_pure]
 congr 1
 apply Array.ext'
 have e : (bsOf l).extract 0 l.length = bsOf l := by
  have := bsOf_size l
  rw [← this]
  exact ByteArray.extract_zero_size
 rw [e]
 simp [bytesL, byteV, bsOf]
theorem run_append_str (hst : St w0 W L) (k : Nat) {A : Option Addr} {n c e : Nat} {xs : List Value} (hk : L[k]? = some (.row A n c e 1 xs)) {t u ty : TypeId} (ht : P.underlying t = some (.slice e)) (hu : P.underlying u = some .string) {z : Value}
  (he : ElemIs P e z 1 1) (hzs : z.cells.size = 1) (l : List UInt8) (hb : n + l.length ≤ 140737488355328) :
  ∃ A' c' W', (Builtin.append_ #[t, u] ty #[.slice A n c, .string (bsOf l)]).run P W = .ok (.slice A' (n + l.length) c') W' ∧ St w0 W' (L.set k (.row A' (n + l.length) c' e 1 (xs ++ bytesL l))) := by
 obtain ⟨i, hi, hiz, his, hib⟩ := he.parts
 have hmax : n + l.length ≤ maxLen := by simp only [maxLen]; omega
 have hlt : k < L.length := (List.getElem?_eq_some_iff.1 hk).1
 have hself : L.set k (.row A n c e 1 xs) = L := by
  apply List.ext_getElem?
  intro j
  by_cases hj : k = j
  ·subst hj; rw [List.getElem?_set_self hlt, hk]
  ·rw [List.getElem?_set_ne hj]
 have hln : (bytesL l).length = l.length * 1 := by rw [length_bytesL, Nat.mul_one]
 have place : ∀ (W1 : World) (cc : Nat), St w0 W1 L → n + l.length ≤ cc → cc ≤ maxLen → (xs ++ bytesL l).length = (n + l.length) * 1 →
   St w0 (W1.alloc (.cells ((xs ++ bytesL l).toArray ++ Builtin.zeroCells z.cells (cc - (n + l.length))) e)) (L.set k (.row (some ⟨W1.heap.size, 0, none⟩) (n + l.length) cc e 1 (xs ++ bytesL l))) := fun W1 cc h1 hcc hcm hl => by
  have h2 := h1.allocRow e (rowIn_new (n := n + l.length) (c := cc) (s := 1) (z := z.cells) hl hzs hcc hcm)
  have h3 := h2.drop (L' := .row (some ⟨W1.heap.size, 0, none⟩) (n + l.length) cc e 1 (xs ++ bytesL l) :: L.eraseIdx k) ((List.eraseIdx_sublist L k).cons_cons _)
  exact h3.perm (perm_set _ L k hlt)
 have hsz := bsOf_size l
 have hf : ∀ W1 : World, (Builtin.firstCells 1 l.length (.string (bsOf l))).run P W1 = .ok (bytesL l).toArray W1 := firstCells_str l
 rcases hst.at_ k hk with ⟨rfl, rfl, rfl, rfl⟩ | ⟨g, off, cur, rfl, hg, hrow⟩
 ·rcases Nat.eq_zero_or_pos l.length with h0 | h0
  ·obtain rfl : l = [] := List.eq_nil_of_length_eq_zero h0
   refine ⟨none, 0, W, ?_, by simpa [hself, bytesL] using hst⟩
   have hf0 : (Builtin.firstCells 1 0 (.string (bsOf []))).run P W = .ok #[] W := hf W
   simp [Builtin.append_, run_underlying ht, run_underlying hu, sizeOf, typeInfo, hi, his, Builtin.lenOf, hsz, hf0]
  ·have hge := grownCap_ge W l.length 0 e
   have hcm := grownCap_le_maxLen W l.length 0 e (by omega)
   have hrun := run_append_nil_string (P := P) (w := W) t u ty e i z ht hu hi hiz (bsOf l) (by omega) (by omega) (by rw [hib]; omega)
   have hp := place W.drew (grownCap W l.length 0 e) hst.drew (by omega) hcm (by simpa using hln)
   refine ⟨_, _, _, ?_, hp⟩
   rw [hrun, hsz]
   simp [bytesL, bsOf]
   rfl
 ·have hlx := hrow.len
  have hlen : (xs ++ bytesL l).length = (n + l.length) * 1 := by rw [List.length_append, hlx, hln, Nat.add_mul]
  by_cases hroom : n + l.length ≤ c
  ·obtain ⟨hrow', hfit⟩ := rowIn_put hrow hln hroom
   have hth := there_of_block (o := off + n * 1) (n := (bytesL l).length) hg hfit
   have hstore := run_storeCells_cells (P := P) g (off + n * 1) (bytesL l) 0 W (fun j hj => by simpa using (hth j hj).1) (fun j hj => by simpa using (hth j hj).2) oneCell_bytes
   simp only [Nat.add_zero] at hstore
   refine ⟨some ⟨g, off, none⟩, c, W.setCells g (off + n * 1) (bytesL l), ?_, ?_⟩
   ·simp only [Builtin.append_]
    simp only [Nat.mul_one] at hstore
    simp [run_underlying ht, run_underlying hu, sizeOf, typeInfo, hi, his, Builtin.lenOf, hsz, hroom, hf, Addr.add_mid, hstore]
   ·obtain ⟨e1, e2, e3, e4⟩ := setCells_rest g (bytesL l) (off + n * 1) W
    exact hst.turnAt k hk e1 e2 e3 (by omega) (fun q _ hq => heap_setCells_other g (bytesL l) _ W q (fun e' => hq (by simp [Res.dom, e']))) (fun q hq => .inl hq)
     (.inr ⟨g, off, _, rfl, heap_setCells g e (bytesL l) _ cur W hg hfit, hrow'⟩)
  ·have hlo : ∀ j u, xs[j]? = some u → W.cell? ((⟨g, off, none⟩ : Addr).add j) = some u := rangeAt_add (rangeAt_of_cells hg hrow.cells)
   have hge := grownCap_ge W (n + l.length) c e
   have hcm := grownCap_le_maxLen W (n + l.length) c e hmax
   have hfit := growslice_fits (need := n + l.length) (old := c) (bytes := i.bytes) (by omega) (by rw [hib]; omega)
   have hp := place W.drew (grownCap W (n + l.length) c e) hst.drew hge hcm hlen
   refine ⟨_, _, _, ?_, hp⟩
   have hn : ¬ (n + l.length ≤ c) := hroom
   have h63' : ¬ (9223372036854775807 < ((n : Int) + (l.length : Int))) := by omega
   have h48' : ¬ (281474976710656 < Builtin.nextslicecap (n + l.length) c * i.bytes) := by omega
   have hfo := run_firstCells_some (P := P) W.drew 1 n ⟨g, off, none⟩ n c xs (by simpa using hlx) (by simpa using hlo)
   simp [Builtin.append_, run_underlying ht, run_underlying hu, sizeOf, typeInfo, zeroValue, hi, hiz, his, Builtin.lenOf, hsz, hn, h63', h48', Question.forced, hf, hfo, newRow, grownCap]
   congr 2
   apply Array.ext'
   simp
theorem L_appendT (hd : o.dst = d) (hw : Region.wanted o (yielded ops a.tmps) = true) (hst : St w0 W L) {x y : Operand} {t u : TypeId} (ho : o.op = .call { callee := .builtin .append, args := #[x, y], argTypes := #[t, u] })
  {A : Option Addr} {n c : Nat} (hx : a.eval x = .slice A n c) {l : List UInt8} (hy : a.eval y = .string (bsOf l)) {e : Nat} (ht : P.underlying t = some (.slice e)) (hu : P.underlying u = some .string) {z : Value}
  (he : ElemIs P e z 1 1) (hzs : z.cells.size = 1) (k : Nat) {xs : List Value} {n' : Nat} (hk : L[k]? = some (.row A n' c e 1 xs)) (hnn : n' = n) (hb : n + l.length ≤ 140737488355328)
  (h : ∀ (A' : Option Addr) (c' : Nat) (W' : World), St w0 W' (L.set k (.row A' (n + l.length) c' e 1 (xs ++ bytesL l))) → wpList P ops Q rest (a.put d (.slice A' (n + l.length) c')) W') : wpList P ops Q (o :: rest) a W := by
 subst hnn
 obtain ⟨A', c', W', hrun, hst'⟩ := run_append_str (P := P) (ty := o.type) hst k hk ht hu he hzs l hb
 refine L_val hd hw ?_ (h A' c' W' hst')
 unfold execOp
 simp only [ho, resolve, invoke, builtin, Sem.run_bind, Sem.run_pure, Result.andThen_ok, List.map_toArray, List.map_cons, List.map_nil, hx, hy, hrun]
theorem L_convSB (hd : o.dst = d) (hw : Region.wanted o (yielded ops a.tmps) = true) {t u e : TypeId} {x : Operand} (ho : o.op = .convert u t x) {l : List UInt8} (hx : a.eval x = .string (bsOf l))
  (ht : P.underlying t = some (.slice e)) (hu : P.underlying u = some .string) (he : P.underlying e = some (.int .u8)) (hb : l.length ≤ 140737488355328)
  (h : ∀ (g cap : Nat) (ob : Obj) (W' : World), St W W' [.obj g ob] → (∀ W2 : World, W2.heap[g]? = some ob → SlR W2 (some ⟨g, 0, none⟩) l.length cap 1 (bytesL l)) → wpList P ops Q rest (a.put d (.slice (some ⟨g, 0, none⟩) l.length cap)) W') : wpList P ops Q (o :: rest) a W := by
 have hrun := run_bytes_of_string (P := P) W u t e (bsOf l) hu ht he
 have hz := bsOf_size l
 rw [hz] at hrun
 have hge := grownCap_ge W l.length 0 e
 have hcm := grownCap_le_maxLen W l.length 0 e (by simp only [maxLen]; omega)
 refine L_val hd hw (W' := W.drew.alloc (.cells (bytesRow (bsOf l) (grownCap W l.length 0 e)) e ((bytesRow (bsOf l) (grownCap W l.length 0 e)).size, (bytesRow (bsOf l) (grownCap W l.length 0 e)).size + 1))) ?_
  (h _ _ _ _ ((St.refl W).drew.allocObj _) (fun W2 h2 => ⟨by simp [length_bytesL], hge, hcm, fun _ => ⟨_, 0, rfl, rangeAt_of_cells h2 (fun j v hv => ?_)⟩⟩))
 ·unfold execOp
  simp only [ho, hx]
  simp [hrun]
 ·have hj : j < l.length := by
   have := (List.getElem?_eq_some_iff.1 hv).1
   rwa [length_bytesL] at this
  rw [Nat.zero_add, ← hv, bytesRow]
  rw [Array.getElem?_append_left (by simp [bsOf]; exact hj)]
  simp [bsOf, bytesL]
  rfl
end
end Go.Proofs.YtaebeemnipafbaaGreatDoor

set_option maxRecDepth 20000
set_option linter.unusedSimpArgs false
set_option linter.unusedVariables false
namespace Go.Proofs.YtaebeemnipafbaaGreatDoor
open Go.RowKit
theorem dig_at (d : Dig) (i : Nat) (h : i < 32) : d.arr[i]? = some (.int .u8 (((d.l.getD i 0).toNat : Nat) : Int)) := by
 rw [Dig.get d i h, List.getD_eq_getElem?_getD, List.getElem?_eq_getElem (by rw [d.h]; exact h)]
 rfl
theorem or_add (x i y : Nat) (hx : x * 2 ^ i < 2 ^ 63) (hy : y < 2 ^ i) (h63 : i < 63) : bits .or .i64 ((x : Int) * ((2 ^ i : Nat) : Int)) (y : Int) = (x : Int) * ((2 ^ i : Nat) : Int) + (y : Int) := by
 have h2 : x * 2 ^ i ||| y = x * 2 ^ i + y := by
  have := Nat.shiftLeft_add_eq_or_of_lt (i := i) (b := y) hy x
  rw [Nat.shiftLeft_eq] at this
  exact this.symm
 have hp : 2 ^ i < 2 ^ 63 := Nat.pow_lt_pow_right (by decide) h63
 have h := i64_or_nat (x * 2 ^ i) y (by omega) (by omega)
 rw [h2] at h
 rw [show (x : Int) * ((2 ^ i : Nat) : Int) = ((x * 2 ^ i : Nat) : Int) by simp, h]
 simp
theorem or4 (a b c e : Nat) (ha : a < 2 ^ 8) (hb : b < 2 ^ 8) (hc : c < 2 ^ 8) (he : e < 2 ^ 8) :
  bits .or .i64 (bits .or .i64 (bits .or .i64 ((a : Int) * 16777216) ((b : Int) * 65536)) ((c : Int) * 256)) (e : Int) = (((((a * 256 + b) * 256 + c) * 256 + e : Nat)) : Int) := by
 have e1 := or_add a 24 (b * 65536) (by omega) (by omega) (by decide)
 rw [show ((2 ^ 24 : Nat) : Int) = 16777216 from rfl, show ((b * 65536 : Nat) : Int) = (b : Int) * 65536 by omega] at e1
 have e2 := or_add (a * 256 + b) 16 (c * 256) (by omega) (by omega) (by decide)
 rw [show ((2 ^ 16 : Nat) : Int) = 65536 from rfl, show ((c * 256 : Nat) : Int) = (c : Int) * 256 by omega, show ((a * 256 + b : Nat) : Int) * 65536 = (a : Int) * 16777216 + (b : Int) * 65536 by omega] at e2
 have e3 := or_add ((a * 256 + b) * 256 + c) 8 e (by omega) (by omega) (by decide)
 rw [show ((2 ^ 8 : Nat) : Int) = 256 from rfl, show (((a * 256 + b) * 256 + c : Nat) : Int) * 256 = (a : Int) * 16777216 + (b : Int) * 65536 + (c : Int) * 256 by omega] at e3
 rw [e1, e2, e3]
 omega
theorem take_four (d : Dig) : d.l.take 4 = [d.l.getD 0 0, d.l.getD 1 0, d.l.getD 2 0, d.l.getD 3 0] := by
 obtain ⟨l, h⟩ := d
 match l, h with
 | a :: b :: c :: e :: r, _ => rfl
theorem four_or (a b c d : UInt8) : natE [a, b, c, d] = ((a.toNat * 256 + b.toNat) * 256 + c.toNat) * 256 + d.toNat := by simp [natE]
set_option maxHeartbeats 2000000 in
theorem index_any (l : List UInt8) (w : World) (hT : Tb w) (hn : l.length ≤ 140737488354000) : Calls Tryz.prog 35 #[.string (bsOf l)] w fun e w' => e = .returned (.int .i64 ((idxN l : Nat) : Int)) ∧ St w w' [] := by
 have hst := St.refl w
 have HT := Lib.hid hT
 clear hT
 go_enter Tryz.func35, Tryz.ntmps35
 have HB := Lib.hid (show [Value.int .u8 12] ++ bytesL l = bytesL (12 :: l) from rfl)
 go_upto_region 1 with (go_big_may; fail)
 go_upto_region 2 with (go_big_may; first | (refine L_appendT (d := some 6) rfl rfl hst rfl (ev_tmp rfl) (ev_tmp rfl) Tryz.underlying22 Tryz.underlying9 el_uint8 rfl 0 rfl rfl (by omega) ?_; clear hst; intro A6 c6 W6 hst; simp only [List.set_cons_zero] at hst; rw [HB.out] at hst) | (go_at_call 80; (try clear hnew); refine (ssum_any (List.cons 12 l) _ _ _ _ (HT.out.of hst) (hst.sl 0 rfl) (by omega)).mono ?_; rintro e Wk1 ⟨rfl, hnew⟩; replace hst := hst.keep hnew) | (refine L_buildS (d := some 4) rfl rfl rfl [_] (bs_1 ev_const) rfl Tryz.underlying22 el_uint8 rfl (by (simp [Value.cells]; done)) (by decide) (by decide) ?_; (try clear hnew); intro g4 W4 hnew; replace hst := hst.trans hnew; simp only [List.cons_append, List.nil_append] at hst; simp only [List.flatMap_cons, List.flatMap_nil, List.append_nil, Value.cells, List.toList_toArray] at hst) | (refine L_allocA (d := some 3) rfl rfl rfl el_api_Digest ?_; (try clear hnew); intro g3 W3 hnew; replace hst := hst.trans hnew; simp only [List.cons_append, List.nil_append] at hst) | (refine wpl_at (.store 32 (.tmp 3) (.tmp 7)) rfl ?_; (refine L_storeA rfl rfl hst rfl (by rfl) (ev_tmp rfl) (by (exact Dig.one _)) el_api_Digest (by (rfl)) 0 rfl (by (rfl)) ?_; clear hst; intro WS5 hst; simp only [List.set_cons_zero, List.set_cons_succ, HB.out] at hst)))
 clear hnew
 obtain ⟨a, ha⟩ : ∃ a, a = (sha (12 :: l)).l.getD 0 0 := ⟨_, rfl⟩
 obtain ⟨b, hb⟩ : ∃ b, b = (sha (12 :: l)).l.getD 1 0 := ⟨_, rfl⟩
 obtain ⟨c, hc⟩ : ∃ c, c = (sha (12 :: l)).l.getD 2 0 := ⟨_, rfl⟩
 obtain ⟨e, he⟩ : ∃ e, e = (sha (12 :: l)).l.getD 3 0 := ⟨_, rfl⟩
 have H0 := Lib.hid (show (sha (12 :: l)).arr[0]? = some (.int .u8 (a.toNat : Int)) from by rw [ha]; exact dig_at _ 0 (by decide))
 have H1 := Lib.hid (show (sha (12 :: l)).arr[1]? = some (.int .u8 (b.toNat : Int)) from by rw [hb]; exact dig_at _ 1 (by decide))
 have H2 := Lib.hid (show (sha (12 :: l)).arr[2]? = some (.int .u8 (c.toNat : Int)) from by rw [hc]; exact dig_at _ 2 (by decide))
 have H3 := Lib.hid (show (sha (12 :: l)).arr[3]? = some (.int .u8 (e.toNat : Int)) from by rw [he]; exact dig_at _ 3 (by decide))
 have la := UInt8.toNat_lt a
 have lb := UInt8.toNat_lt b
 have lc := UInt8.toNat_lt c
 have le := UInt8.toNat_lt e
 have HN := Lib.hid (show bits .or .i64 (bits .or .i64 (bits .or .i64 ((a.toNat : Int) * 16777216) ((b.toNat : Int) * 65536)) ((c.toNat : Int) * 256)) (e.toNat : Int) = ((idxN l : Nat) : Int) by
  rw [or4 _ _ _ _ la lb lc le, idxN, take_four, four_or, ha, hb, hc, he])
 clear ha hb hc he
 go_wp2_with (first | (refine L_load1 (d := some 9) rfl rfl rfl (by rfl) Tryz.underlying5 rfl (by (exact cell_of (hst.get 0 rfl) H0.out)) ?_) | (refine L_load1 (d := some 13) rfl rfl rfl (by rfl) Tryz.underlying5 rfl (by (exact cell_of (hst.get 0 rfl) H1.out)) ?_) | (refine L_load1 (d := some 18) rfl rfl rfl (by rfl) Tryz.underlying5 rfl (by (exact cell_of (hst.get 0 rfl) H2.out)) ?_) | (refine L_load1 (d := some 23) rfl rfl rfl (by rfl) Tryz.underlying5 rfl (by (exact cell_of (hst.get 0 rfl) H3.out)) ?_))
 rw [HN.out]
 go_ret
 exact ⟨rfl, hst.forget⟩
end Go.Proofs.YtaebeemnipafbaaGreatDoor

set_option maxRecDepth 20000
set_option linter.unusedSimpArgs false
set_option linter.unusedVariables false
namespace Go.Proofs.YtaebeemnipafbaaGreatDoor
open Go.RowKit
section
variable {P : Program} {ops : Array Oper} {rest : List Oper} {o : Oper} {a : Act} {W : World} {Q : Exit → Act → World → Prop} {d : Option Tmp}
theorem L_and1 (hd : o.dst = d) (hw : Region.wanted o (yielded ops a.tmps) = true) {t t' : TypeId} {x y : Operand} (ho : o.op = .binOp .and t x y t') {q : Nat} (hx : a.eval x = .int .i64 (q : Int)) (hy : a.eval y = .int .i64 1) (hq : q < 2 ^ 63)
  (h : wpList P ops Q rest (a.put d (.int .i64 ((q % 2 : Nat) : Int))) W) : wpList P ops Q (o :: rest) a W := by
 refine L_val hd hw ?_ h
 unfold execOp
 simp only [ho, hx, hy]
 have e : bits .and .i64 (q : Int) 1 = ((q % 2 : Nat) : Int) := by
  have := i64_mask q 1 hq (by decide)
  rw [Nat.and_one_is_mod] at this
  exact this
 have h1 : (eqGuard .and t x y (.int .i64 (q : Int)) (.int .i64 1)).run P W = .ok () W := by simp [eqGuard]
 have h2 : (Go.binOp .and t (.int .i64 (q : Int)) (.int .i64 1)).run P W = .ok (.int .i64 ((q % 2 : Nat) : Int)) W := by
  rw [← e]
  rfl
 simp [h1, h2]
theorem L_shrN (hd : o.dst = d) (hw : Region.wanted o (yielded ops a.tmps) = true) {t t' : TypeId} {x y : Operand} (ho : o.op = .binOp .shr t x y t') {k' : IntKind} {m c : Nat} (hx : a.eval x = .int .i64 (m : Int)) (hy : a.eval y = .int k' ((c : Nat) : Int)) (hc : c ≤ 64)
  (h : wpList P ops Q rest (a.put d (.int .i64 ((m / 2 ^ c : Nat) : Int))) W) : wpList P ops Q (o :: rest) a W :=
 L_shrI hd hw ho hx hy hc (by
  rw [show (m : Int) / 2 ^ c = ((m / 2 ^ c : Nat) : Int) by simp]
  exact h)
end
theorem mFold_take (k : Nat) (l : Dig) (ps : List Dig) (j : Nat) (hj : j < ps.length) : mFold k l (ps.take (j + 1)) = if k / 2 ^ j % 2 = 1 then mNode ps[j] (mFold k l (ps.take j)) else mNode (mFold k l (ps.take j)) ps[j] := by
 rw [List.take_succ_eq_append_getElem hj, mFold_snoc, List.length_take, Nat.min_eq_left (by omega)]
set_option maxHeartbeats 4000000 in
set_option maxRecDepth 100000 in
theorem tfoldM_any (k : Nat) (l : Dig) (ps : List Dig) (A : Option Addr) (c : Nat) (w : World) (hT : Tb w) (hx : SlR w A 32 c 32 (digsL ps)) (hk : k < 4294967296) :
  Calls Tryz.prog 57 #[.int .i64 (k : Int), l.v, .slice A 32 c] w fun e w' => e = .returned (.tuple #[(mFold k l ps).v, .nilIface]) ∧ St w w' [] := by
 have hst := St.refl w
 have HT := Lib.hid hT
 have hl : ps.length = 32 := by have := hx.1; rw [length_digsL] at this; omega
 have HK := Lib.hid (fun w : World => by have h := tkey_any (k : Int) w; rw [decide_eq_true (show 0 ≤ (k : Int) ∧ (k : Int) < 4294967296 by omega)] at h; exact h)
 have HA := Lib.hid (fun j (hj : j < 32) => show ∃ (p : Dig), ((digsL ps).drop (j * 32)).take 32 = p.arr.toList ∧
   mFold k l (ps.take (j + 1)) = if k / 2 ^ j % 2 = 1 then mNode p (mFold k l (ps.take j)) else mNode (mFold k l (ps.take j)) p from
  ⟨ps[j]'(by omega), by rw [digsL_at ps j (by omega), Dig.toList], mFold_take k l ps j (by omega)⟩)
 have HZ := Lib.hid (show mFold k l (ps.take 32) = mFold k l ps by rw [List.take_of_length_le (by omega)])
 have hcap := hx.2.1
 have hmax := hx.2.2.1
 simp only [maxLen] at hmax
 clear hT hl
 go_enter Tryz.func57, Tryz.ntmps57
 go_wp2_with (first | (go_at_call 89; (try clear hnew); refine (HK.out _).mono ?_; rintro e Wk1 ⟨rfl, hnew⟩; replace hst := hst.keep hnew) | (refine L_boxA (d := some 4) rfl rfl rfl (ev_tmp rfl) ?_; (try clear hnew); intro g4 W4 hnew; replace hst := hst.trans hnew; simp only [List.cons_append, List.nil_append] at hst) | (refine L_allocA (d := some 6) rfl rfl rfl el_api_Digest ?_; (try clear hnew); intro g6 W6 hnew; replace hst := hst.trans hnew; simp only [List.cons_append, List.nil_append] at hst))
 (try clear hnew)
 have h0 : mFold k l (ps.take 0) = l := rfl
 rw [← h0] at hst
 clear h0
 go_loopg [22] 32 (fun gk s22 wr => ∃ j : Nat, Hid (j + gk = 32) ∧ s22 = .int .i64 (j : Int) ∧ St w wr [.blk g6 32 zeroD.arr, .blk g4 32 (mFold k l (ps.take j)).arr])
 case atStart => exact ⟨0, Lib.hid (by omega), rfl, hst⟩
 case round =>
  clear hst
  obtain ⟨j, HI, rfl, hst⟩ := hrel
  have hi := HI.out
  by_cases hjm : j < 32
  ·clear hi
   obtain ⟨p, hp, hs⟩ := HA.out j hjm
   have HP := Lib.hid hp
   have hq : k / 2 ^ j < 2 ^ 63 := Nat.lt_of_le_of_lt (Nat.div_le_self _ _) (by omega)
   clear hp
   generalize mFold k l (ps.take j) = u at *
   by_cases hb : k / 2 ^ j % 2 = 1
   ·rw [if_pos hb] at hs
    have HS := Lib.hid hs
    have HB := Lib.hid hb
    clear hs hb
    go_wp2_with (first | (refine L_loadM (d := some 26) rfl rfl rfl (by rfl) Tryz.underlying32 rfl el_api_Digest (cs := p.arr) (by rw [← HP.out]; exact hr25) (Dig.size _) ?_) | (refine L_shrN (d := some 29) rfl rfl rfl (ev_tmp rfl) (ev_tmp rfl) (by omega) ?_) | (refine L_and1 (d := some 30) rfl rfl rfl (ev_tmp rfl) ev_const hq ?_; rw [HB.out]) | (go_at_call 95; (try clear hnew); with_reducible refine (mnode_any _ _ _ (HT.out.of hst)).mono ?_; rintro e Wk2 ⟨rfl, hnew⟩; replace hst := hst.keep hnew) | (refine L_idxS (d := some 25) rfl rfl rfl (by rfl) (by rfl) Tryz.underlying44 el_api_Digest (by (exact hst.old (by decide) hx)) (by omega) (by omega) ?_; intro o25 p25 ha25 hr25; ((subst ha25))) | (refine L_allocA (d := some 9) rfl rfl rfl el_api_Digest ?_; (try clear hnew); intro g9 W9 hnew; replace hst := hst.trans hnew; simp only [List.cons_append, List.nil_append] at hst) | (refine wpl_at (.store 32 (.tmp 9) (.tmp 26)) rfl ?_; (refine L_storeA rfl rfl hst rfl (by rfl) (ev_tmp rfl) (by (exact Dig.one _)) el_api_Digest (by (exact Dig.size _)) 0 rfl (by (rfl)) ?_; clear hst; intro WS5 hst; simp only [List.set_cons_zero, List.set_cons_succ] at hst)) | ((refine L_loadA (d := some 32) rfl rfl rfl (by rfl) Tryz.underlying32 rfl el_api_Digest (by (exact hst.get 0 rfl)) (by (exact Dig.size _)) ?_)) | ((refine L_loadA (d := some 33) rfl rfl rfl (by rfl) Tryz.underlying32 rfl el_api_Digest (by (exact hst.get 2 rfl)) (by (exact Dig.size _)) ?_)) | (refine wpl_at (.store 32 (.tmp 4) (.tmp 34)) rfl ?_; (refine L_storeA rfl rfl hst rfl (by rfl) (ev_tmp rfl) (by (exact Dig.one _)) el_api_Digest (by (exact Dig.size _)) 2 rfl (by (exact Dig.size _)) ?_; clear hst; intro WS3 hst; simp only [List.set_cons_zero, List.set_cons_succ] at hst)))
    go_roundg (gk - 1)
    case measure => have hi := HI.out; omega
    case rel =>
     have hi := HI.out
     refine ⟨j + 1, Lib.hid (by omega), by go_num, ?_⟩
     rw [HS.out]
     exact hst.pick [1, 2] (by decide)
   ·have hb0 : k / 2 ^ j % 2 = 0 := by omega
    rw [if_neg hb] at hs
    have HS := Lib.hid hs
    have HB := Lib.hid hb0
    clear hs hb hb0
    go_wp2_with (first | (refine L_loadM (d := some 26) rfl rfl rfl (by rfl) Tryz.underlying32 rfl el_api_Digest (cs := p.arr) (by rw [← HP.out]; exact hr25) (Dig.size _) ?_) | (refine L_shrN (d := some 29) rfl rfl rfl (ev_tmp rfl) (ev_tmp rfl) (by omega) ?_) | (refine L_and1 (d := some 30) rfl rfl rfl (ev_tmp rfl) ev_const hq ?_; rw [HB.out]) | (go_at_call 95; (try clear hnew); with_reducible refine (mnode_any _ _ _ (HT.out.of hst)).mono ?_; rintro e Wk3 ⟨rfl, hnew⟩; replace hst := hst.keep hnew) | (refine L_idxS (d := some 25) rfl rfl rfl (by rfl) (by rfl) Tryz.underlying44 el_api_Digest (by (exact hst.old (by decide) hx)) (by omega) (by omega) ?_; intro o25 p25 ha25 hr25; ((subst ha25))) | (refine L_allocA (d := some 9) rfl rfl rfl el_api_Digest ?_; (try clear hnew); intro g9 W9 hnew; replace hst := hst.trans hnew; simp only [List.cons_append, List.nil_append] at hst) | (refine wpl_at (.store 32 (.tmp 9) (.tmp 26)) rfl ?_; (refine L_storeA rfl rfl hst rfl (by rfl) (ev_tmp rfl) (by (exact Dig.one _)) el_api_Digest (by (exact Dig.size _)) 0 rfl (by (rfl)) ?_; clear hst; intro WS5 hst; simp only [List.set_cons_zero, List.set_cons_succ] at hst)) | ((refine L_loadA (d := some 35) rfl rfl rfl (by rfl) Tryz.underlying32 rfl el_api_Digest (by (exact hst.get 2 rfl)) (by (exact Dig.size _)) ?_)) | ((refine L_loadA (d := some 36) rfl rfl rfl (by rfl) Tryz.underlying32 rfl el_api_Digest (by (exact hst.get 0 rfl)) (by (exact Dig.size _)) ?_)) | (refine wpl_at (.store 32 (.tmp 4) (.tmp 37)) rfl ?_; (refine L_storeA rfl rfl hst rfl (by rfl) (ev_tmp rfl) (by (exact Dig.one _)) el_api_Digest (by (exact Dig.size _)) 2 rfl (by (exact Dig.size _)) ?_; clear hst; intro WS3 hst; simp only [List.set_cons_zero, List.set_cons_succ] at hst)))
    go_roundg (gk - 1)
    case measure => have hi := HI.out; omega
    case rel =>
     have hi := HI.out
     refine ⟨j + 1, Lib.hid (by omega), by go_num, ?_⟩
     rw [HS.out]
     exact hst.pick [1, 2] (by decide)
  ·obtain rfl : j = 32 := by omega
   rw [HZ.out] at hst
   clear hi HI
   go_wp2_with (first | ((refine L_loadA (d := some 39) rfl rfl rfl (by rfl) Tryz.underlying32 rfl el_api_Digest (by (exact hst.get 1 rfl)) (by (exact Dig.size _)) ?_)) | (refine wpl_at (.store 32 (.tmp 6) (.tmp 39)) rfl ?_; (refine L_storeA rfl rfl hst rfl (by rfl) (ev_tmp rfl) (by (exact Dig.one _)) el_api_Digest (by (exact Dig.size _)) 0 rfl (by (rfl)) ?_; clear hst; intro WS1 hst; simp only [List.set_cons_zero, List.set_cons_succ] at hst)))
   refine bp_cell_tmp rfl rfl rfl rfl (hst.get 0 rfl) Tryz.underlying32 rfl el_api_Digest (by (exact Dig.size _)) ?_
   exact ⟨rfl, hst.forget⟩
set_option maxHeartbeats 1000000 in
theorem tfoldM_len (k : Nat) (l : Dig) (A : Option Addr) (m c : Nat) (w : World) (hm : m ≠ 32) (hk : k < 4294967296) :
  Calls Tryz.prog 57 #[.int .i64 (k : Int), l.v, .slice A m c] w fun e w' => e = .returned (.tuple #[zeroD.v, errV 3]) ∧ St w w' [] := by
 have hst := St.refl w
 have HK := Lib.hid (fun w : World => by have h := tkey_any (k : Int) w; rw [decide_eq_true (show 0 ≤ (k : Int) ∧ (k : Int) < 4294967296 by omega)] at h; exact h)
 have h1 : ((m : Int) != 32) = true := by rw [bne_iff_ne]; omega
 clear hm
 go_enter Tryz.func57, Tryz.ntmps57
 go_wp2_with (first | (go_at_call 89; (try clear hnew); refine (HK.out _).mono ?_; rintro e Wk4 ⟨rfl, hnew⟩; replace hst := hst.keep hnew) | (refine L_boxA (d := some 4) rfl rfl rfl (ev_tmp rfl) ?_; (try clear hnew); intro g4 W4 hnew; replace hst := hst.trans hnew; simp only [List.cons_append, List.nil_append] at hst) | (refine L_allocA (d := some 6) rfl rfl rfl el_api_Digest ?_; (try clear hnew); intro g6 W6 hnew; replace hst := hst.trans hnew; simp only [List.cons_append, List.nil_append] at hst) | (refine L_build0 (d := some 18) rfl rfl rfl Tryz.underlying32 el_uint8 el_api_Digest ?_) | (refine wpl_at (.store 32 (.tmp 6) (.tmp 18)) rfl ?_; (refine L_storeA rfl rfl hst rfl (by rfl) (ev_tmp rfl) (by (exact Dig.one _)) el_api_Digest (by (rfl)) 0 rfl (by (rfl)) ?_; clear hst; intro WS2 hst; simp only [List.set_cons_zero, List.set_cons_succ] at hst)))
 refine bp_cell_tmp rfl rfl rfl rfl (hst.get 0 rfl) Tryz.underlying32 rfl el_api_Digest (by (rfl)) ?_
 exact ⟨rfl, hst.forget⟩
set_option maxHeartbeats 2000000 in
set_option maxRecDepth 100000 in
theorem entry_any (s : List UInt8) (d : Dig) (w : World) (hT : Tb w) (hn : s.length ≤ 140737488354000) :
  Calls Tryz.prog 58 #[.string (bsOf s), d.v] w fun e w' => e = .returned (eLeaf (idxN s) d).v ∧ St w w' [] := by
 have hst := St.refl w
 have HT := Lib.hid hT
 have HI := Lib.hid (fun (w' : World) (h : Tb w') => index_any s w' h hn)
 have HL := Lib.hid (fun (w' : World) (h : Tb w') => tleafE_any (idxN s) d w' h (idxN_lt s))
 generalize eLeaf (idxN s) d = r at *
 generalize idxN s = i at *
 clear hT
 go_enter Tryz.func58, Tryz.ntmps58
 go_upto_region 1 with (go_big_may; first | (refine L_boxA (d := some 3) rfl rfl rfl (ev_tmp rfl) ?_; (try clear hnew); intro g3 W3 hnew; replace hst := hst.trans hnew; simp only [List.cons_append, List.nil_append] at hst) | (refine L_allocA (d := some 4) rfl rfl rfl el_api_Digest ?_; (try clear hnew); intro g4 W4 hnew; replace hst := hst.trans hnew; simp only [List.cons_append, List.nil_append] at hst))
 (try simp only [Act.put, List.setIfInBounds_toArray, List.set_cons_succ, List.set_cons_zero])
 go_cut [5] (fun s5 wx => ∃ g5, s5 = .pointer (some ⟨g5, 0, none⟩) ∧ St w wx [.blk g5 32 r.arr, .blk g4 32 zeroD.arr, .blk g3 32 d.arr])
 case first =>
  refine wp_region_pm (.one 0 3 (.one 2 0 (.two 1 2 (.one 3 0 (.two 4 2 (.one 5 3 (.one 6 3 (.one 7 3 (.one 8 2 (.one 9 1 (.one 10 2 .nil)))))) 8 2 (.one 4 2 (.one 5 2 (.one 6 3 (.one 7 3 (.one 9 1 (.one 10 2 .nil)))))))) 8 2 (.one 1 2 (.one 3 2 (.one 4 2 (.one 5 2 (.one 6 3 (.one 7 3 (.one 9 1 (.one 10 2 .nil))))))))))) (by kernel_rfl) (by kernel_rfl) ?_
  replace hst := hst.drew
  refine pm_p rfl rfl ?_; go_wp2_with fail
  refine pm_q rfl rfl ?_; go_wp2_with (((refine L_loadA (d := some 10) rfl rfl rfl (by rfl) Tryz.underlying32 rfl el_api_Digest (by (exact hst.get 1 rfl)) (by (exact Dig.size _)) ?_)))
  refine pm_two (ki := 2) (kj := 2) rfl rfl ?_ ?_
  ·go_wp2_with ((go_at_call 35; (try clear hnew); refine (HI.out _ (HT.out.of hst)).mono ?_; rintro e Wk5 ⟨rfl, hnew⟩; replace hst := hst.keep hnew)); refine ⟨fun _ => (by (exact hnew.below)), ?_⟩
   refine pm_q rfl rfl ?_; go_wp2_with ((refine L_buildE (d := some 11) rfl rfl rfl (ev_tmp rfl) (ev_tmp rfl) ?_))
   refine pm_two (ki := 2) (kj := 2) rfl rfl ?_ ?_
   ·go_wp2_with ((go_at_call 96; (try clear hnew); refine (HL.out _ (HT.out.of hst)).mono ?_; rintro e Wk6 ⟨rfl, hnew⟩; replace hst := hst.keep hnew)); refine ⟨fun _ => (by (exact hnew.below)), ?_⟩
    refine pm_p rfl rfl ?_; go_wp2_with fail
    refine pm_p rfl rfl ?_; go_wp2_with fail
    refine pm_p rfl rfl ?_; go_wp2_with fail
    refine pm_g rfl ?_; go_wp2_with ((refine L_allocA (d := some 5) rfl rfl rfl el_api_Digest ?_; (try clear hnew); intro g5 W5 hnew; replace hst := hst.trans hnew; simp only [List.cons_append, List.nil_append] at hst)); refine ⟨by (exact hnew.below), ?_⟩
    refine pm_e rfl ?_; go_wp2_with ((refine wpl_at (.store 32 (.tmp 5) (.tmp 13)) rfl ?_; (refine L_storeA rfl rfl hst rfl (by rfl) (ev_tmp rfl) (by (exact Dig.one _)) el_api_Digest (by (exact Dig.size _)) 0 rfl (by (rfl)) ?_; clear hst; intro WS9 hst; simp only [List.set_cons_zero, List.set_cons_succ] at hst)))
    refine pm_g rfl ?_; go_wp2_with fail; refine ⟨by (exact Below.refl _ _), ?_⟩
    refine pm_nil ?_
    go_wp2_with fail
    go_meet
    case rel => exact ⟨_, rfl, hst⟩
   ·go_wp2_with ((refine L_allocA (d := some 5) rfl rfl rfl el_api_Digest ?_; (try clear hnew); intro g5 W5 hnew; replace hst := hst.trans hnew; simp only [List.cons_append, List.nil_append] at hst)); refine ⟨fun _ => (by (exact hnew.below)), ?_⟩
    refine pm_g rfl ?_; go_wp2_with ((go_at_call 96; (try clear hnew); refine (HL.out _ (HT.out.of hst)).mono ?_; rintro e Wk6 ⟨rfl, hnew⟩; replace hst := hst.keep hnew)); refine ⟨by (exact hnew.below), ?_⟩
    refine pm_g rfl ?_; go_wp2_with fail; refine ⟨by (exact Below.refl _ _), ?_⟩
    refine pm_p rfl rfl ?_; go_wp2_with fail
    refine pm_p rfl rfl ?_; go_wp2_with fail
    refine pm_e rfl ?_; go_wp2_with ((refine wpl_at (.store 32 (.tmp 5) (.tmp 13)) rfl ?_; (refine L_storeA rfl rfl hst rfl (by rfl) (ev_tmp rfl) (by (exact Dig.one _)) el_api_Digest (by (exact Dig.size _)) 0 rfl (by (rfl)) ?_; clear hst; intro WS9 hst; simp only [List.set_cons_zero, List.set_cons_succ] at hst)))
    refine pm_g rfl ?_; go_wp2_with fail; refine ⟨by (exact Below.refl _ _), ?_⟩
    refine pm_nil ?_
    go_wp2_with fail
    go_meet
    case rel => exact ⟨_, rfl, hst⟩
  ·go_wp2_with ((refine L_allocA (d := some 5) rfl rfl rfl el_api_Digest ?_; (try clear hnew); intro g5 W5 hnew; replace hst := hst.trans hnew; simp only [List.cons_append, List.nil_append] at hst)); refine ⟨fun _ => (by (exact hnew.below)), ?_⟩
   refine pm_g rfl ?_; go_wp2_with ((go_at_call 35; (try clear hnew); refine (HI.out _ (HT.out.of hst)).mono ?_; rintro e Wk5 ⟨rfl, hnew⟩; replace hst := hst.keep hnew)); refine ⟨by (exact hnew.below), ?_⟩
   refine pm_g rfl ?_; go_wp2_with ((refine L_buildE (d := some 11) rfl rfl rfl (ev_tmp rfl) (ev_tmp rfl) ?_)); refine ⟨by (exact Below.refl _ _), ?_⟩
   refine pm_g rfl ?_; go_wp2_with ((go_at_call 96; (try clear hnew); refine (HL.out _ (HT.out.of hst)).mono ?_; rintro e Wk6 ⟨rfl, hnew⟩; replace hst := hst.keep hnew)); refine ⟨by (exact hnew.below), ?_⟩
   refine pm_g rfl ?_; go_wp2_with fail; refine ⟨by (exact Below.refl _ _), ?_⟩
   refine pm_p rfl rfl ?_; go_wp2_with fail
   refine pm_p rfl rfl ?_; go_wp2_with fail
   refine pm_e rfl ?_; go_wp2_with ((refine wpl_at (.store 32 (.tmp 5) (.tmp 13)) rfl ?_; (refine L_storeA rfl rfl hst rfl (by rfl) (ev_tmp rfl) (by (exact Dig.one _)) el_api_Digest (by (exact Dig.size _)) 0 rfl (by (rfl)) ?_; clear hst; intro WS9 hst; simp only [List.set_cons_zero, List.set_cons_succ] at hst)))
   refine pm_g rfl ?_; go_wp2_with fail; refine ⟨by (exact Below.refl _ _), ?_⟩
   refine pm_nil ?_
   go_wp2_with fail
   go_meet
   case rel => exact ⟨_, rfl, hst⟩
 case rest =>
  clear hst
  obtain ⟨g5, rfl, hst⟩ := hcut
  go_wp2_with (first | ((refine L_loadA (d := some 15) rfl rfl rfl (by rfl) Tryz.underlying32 rfl el_api_Digest (by (exact hst.get 0 rfl)) (by (exact Dig.size _)) ?_)) | (refine wpl_at (.store 32 (.tmp 4) (.tmp 15)) rfl ?_; (refine L_storeA rfl rfl hst rfl (by rfl) (ev_tmp rfl) (by (exact Dig.one _)) el_api_Digest (by (exact Dig.size _)) 1 rfl (by (rfl)) ?_; clear hst; intro WS1 hst; simp only [List.set_cons_zero, List.set_cons_succ] at hst)))
  refine bp_cell rfl rfl rfl (hst.get 1 rfl) Tryz.underlying32 rfl el_api_Digest (by (exact Dig.size _)) ?_
  exact ⟨rfl, hst.forget⟩
end Go.Proofs.YtaebeemnipafbaaGreatDoor

set_option maxRecDepth 20000
set_option linter.unusedSimpArgs false
set_option linter.unusedVariables false
namespace Go.Proofs.YtaebeemnipafbaaGreatDoor
open Go.RowKit Go.Shelf
section
variable {P : Program} {ops : Array Oper} {rest : List Oper} {o : Oper} {a : Act} {W V : World} {Q : Exit → Act → World → Prop} {d : Option Tmp}
theorem L_cutU (hd : o.dst = d) (hw : Region.wanted o (yielded ops a.tmps) = true) {T : TypeId} {x : Operand} {l h m : Option Operand} (ho : o.op = .slice T x l h m) {A : Option Addr} {n c : Nat} (hx : a.eval x = .slice A n c)
  {e : TypeId} (hu : P.underlying T = some (.slice e)) {z : Value} {s b : Nat} (he : ElemIs P e z s b) (hs0 : 0 < s) {xs : List Value} (_ : SlR V A n c s xs) (lo hi mx : Nat)
  (hl : (l.map a.eval = none ∧ lo = 0) ∨ ∃ k v, l.map a.eval = some v ∧ v = .int k ((lo : Nat) : Int)) (hh : (h.map a.eval = none ∧ hi = n ∧ m.map a.eval = none) ∨ ∃ k v, h.map a.eval = some v ∧ v = .int k ((hi : Nat) : Int)) (hm : (m.map a.eval = none ∧ mx = c) ∨ ∃ k v, m.map a.eval = some v ∧ v = .int k ((mx : Nat) : Int))
  (h1 : lo ≤ hi) (h2 : hi ≤ n) (h3 : hi ≤ mx) (h4 : mx ≤ c)
  (hk : ∀ (A' : Option Addr) (c' : Nat), (∀ V' : World, SlR V' A n c s xs → SlR V' A' (hi - lo) c' s ((xs.drop (lo * s)).take ((hi - lo) * s))) → wpList P ops Q rest (a.put d (.slice A' (hi - lo) c')) W) : wpList P ops Q (o :: rest) a W := by
 refine L_val hd hw ?_ (hk _ _ (fun V' hs => hs.cut hs0 h1 h2 h3 h4))
 unfold execOp
 simp only [ho, hx]
 simp [run_cutS (P := P) (W := W) hu he hl hh hm h1 h3 h4]
end
attribute [local simp] prArr_size
set_option maxHeartbeats 2000000 in
theorem halves_clos (x : KD) (b g : Nat) (W : World) (hb : b ≤ 31) (hc : W.cell? ⟨g, 0, none⟩ = some (.int .i64 (b : Int))) :
  Calls Tryz.prog 124 #[.agg (prArr ((x.1.val : Nat) : Int) x.2), .pointer (some ⟨g, 0, none⟩)] W fun e w' => e = .returned (.bool (bitK b x.1.val)) ∧ St W w' [] := by
 have hst := St.refl W
 obtain ⟨⟨k, hk⟩, d⟩ := x
 have hg : g < W.heap.size := by
  unfold World.cell? at hc
  exact block_lt_of_cell hc
 have hq : k / 2 ^ b < 2 ^ 63 := Nat.lt_of_le_of_lt (Nat.div_le_self _ _) (by omega)
 have HC := Lib.hid (fun (W2 : World) (h : Below W.heap.size W W2) => (h.cell (p := ⟨g, 0, none⟩) hg).trans hc)
 clear hc hg
 simp only
 unfold bitK
 by_cases hb1 : k / 2 ^ b % 2 = 1
 ·rw [decide_eq_true hb1]
  have HB := Lib.hid hb1
  clear hb1 hk
  go_enter Tryz.func124, Tryz.ntmps124
  go_upto_region 1 with (go_big_may; (refine L_boxA (d := some 2) rfl rfl rfl (ev_tmp rfl) ?_; (try clear hnew); intro g2 W2 hnew; replace hst := hst.trans hnew; simp only [List.cons_append, List.nil_append] at hst))
  go_wp2_with (first | (refine L_load1 (d := some 6) rfl rfl rfl (by rfl) Tryz.underlying3 rfl (HC.out _ hst.below) ?_) | (refine L_shrN (d := some 7) rfl rfl rfl (ev_tmp rfl) (ev_tmp rfl) (by omega) ?_) | (refine L_and1 (d := some 8) rfl rfl rfl (ev_tmp rfl) ev_const hq ?_; rw [HB.out]) | (refine L_load1 (d := some 5) rfl rfl rfl (by rfl) Tryz.underlying3 rfl (by (exact cell_of (hst.get 0 rfl) prArr_0)) ?_))
  go_ret
  exact ⟨rfl, hst.forget⟩
 ·rw [decide_eq_false hb1]
  have HB := Lib.hid (show k / 2 ^ b % 2 = 0 by omega)
  clear hb1 hk
  go_enter Tryz.func124, Tryz.ntmps124
  go_upto_region 1 with (go_big_may; (refine L_boxA (d := some 2) rfl rfl rfl (ev_tmp rfl) ?_; (try clear hnew); intro g2 W2 hnew; replace hst := hst.trans hnew; simp only [List.cons_append, List.nil_append] at hst))
  go_wp2_with (first | (refine L_load1 (d := some 6) rfl rfl rfl (by rfl) Tryz.underlying3 rfl (HC.out _ hst.below) ?_) | (refine L_shrN (d := some 7) rfl rfl rfl (ev_tmp rfl) (ev_tmp rfl) (by omega) ?_) | (refine L_and1 (d := some 8) rfl rfl rfl (ev_tmp rfl) ev_const hq ?_; rw [HB.out]) | (refine L_load1 (d := some 5) rfl rfl rfl (by rfl) Tryz.underlying3 rfl (by (exact cell_of (hst.get 0 rfl) prArr_0)) ?_))
  go_ret
  exact ⟨rfl, hst.forget⟩
theorem idx_empty (A : Option Addr) (c : Nat) (f : Value) (w : World) : Calls Tryz.prog 123 #[.slice A 0 c, f] w fun e w' => e = .returned (.int .i64 (-1)) ∧ St w w' [] := by
 have hst := St.refl w
 go_enter Tryz.func123, Tryz.ntmps123
 go_wp2_with fail
 go_loopg [8] 1 (fun gk s8 wr => s8 = .int .i64 0 ∧ St w wr [])
 case atStart => exact ⟨rfl, hst⟩
 case round =>
  clear hst
  obtain ⟨rfl, hst⟩ := hrel
  go_wp2_with fail
  go_ret
  exact ⟨rfl, hst⟩
theorem idx_any (ks : List KD) (A : Option Addr) (n c b g : Nat) (w : World) (hx : SlR w A n c 33 (entL (ks.map kdN))) (hb : b ≤ 31) (hc : w.cell? ⟨g, 0, none⟩ = some (.int .i64 (b : Int))) :
  Calls Tryz.prog 123 #[.slice A n c, .func (.func 124) #[] #[.pointer (some ⟨g, 0, none⟩)]] w fun e w' =>
   e = .returned (.int .i64 (if ks.findIdx (fun x => bitK b x.1.val) < n then ((ks.findIdx (fun x => bitK b x.1.val) : Nat) : Int) else -1)) ∧ St w w' [] := by
 have hl : n = ks.length := by have := hx.1; rw [length_entL, List.length_map] at this; omega
 rcases Nat.eq_zero_or_pos n with h0 | h0
 ·subst h0
  refine (idx_empty A c _ w).mono ?_
  rintro e w' ⟨rfl, h⟩
  exact ⟨by rw [if_neg (by omega)], h⟩
 ·obtain ⟨bl, off, rfl, hr⟩ := hx.2.2.2 h0
  have hlt : bl < w.heap.size := rangeAt_lt hr (fun e => by
   have := length_entL (ks.map kdN)
   rw [e, List.length_map] at this
   simp at this
   omega)
  have hm := hx.2.2.1
  have hnc := hx.2.1
  simp only [maxLen] at hm
  have h := AnyQ.slices_IndexFunc Tryz.laysIdxE 33 Tryz.isAgg110 Tryz.sizeOf110 encE length_encE (fun x => bitK b x.1.val) 124 #[.pointer (some ⟨g, 0, none⟩)] (enters_of Tryz.func124 (by kernel_rfl) rfl) bl off n c ks w
   (fun W x hB => by
    have hcW : W.cell? ⟨g, 0, none⟩ = some (.int .i64 (b : Int)) := (hB.cell (p := ⟨g, 0, none⟩) (by unfold World.cell? at hc; exact block_lt_of_cell hc)).trans hc
    refine (halves_clos x b g W hb hcW).mono ?_
    rintro e w' ⟨he, h⟩
    exact ⟨he, hB.trans (h.below.mono hB.size)⟩)
   (by omega) (by omega) hlt (fun j hj i v hv => ent_cells hx hj hv)
  refine h.mono ?_
  rintro e w' ⟨rfl, hB⟩
  refine ⟨?_, ⟨hB, by simp, by simp, List.Pairwise.nil⟩⟩
  rw [List.take_of_length_le (by omega), Lib.idxBy, idxBy_find, Nat.zero_add, hl]
def cutI (b : Nat) (es : List (Nat × Dig)) : Nat := es.findIdx fun e => bitK b e.1
theorem cutI_le (b : Nat) (es : List (Nat × Dig)) : cutI b es ≤ es.length := List.findIdx_le_length
set_option maxHeartbeats 2000000 in
theorem halves_any (es : List (Nat × Dig)) (A : Option Addr) (n c b : Nat) (w : World) (hx : SlR w A n c 33 (entL es)) (hb : b ≤ 31) (hes : ∀ e ∈ es, e.1 < 4294967296) :
  Calls Tryz.prog 90 #[.slice A n c, .int .i64 (b : Int)] w fun e w' => ∃ A1 n1 c1 A2 n2 c2, e = .returned (.tuple #[.slice A1 n1 c1, .slice A2 n2 c2]) ∧
   (∀ V, SlR V A n c 33 (entL es) → SlR V A1 n1 c1 33 (entL (es.take (cutI b es)))) ∧ (∀ V, SlR V A n c 33 (entL es) → SlR V A2 n2 c2 33 (entL (es.drop (cutI b es)))) ∧ St w w' [] := by
 have hst := St.refl w
 obtain ⟨ks, rfl⟩ := kd_of hes
 have HC := Lib.hid (fun (w' : World) (g : Nat) (h1 : SlR w' A n c 33 (entL (ks.map kdN))) (h2 : w'.cell? ⟨g, 0, none⟩ = some (.int .i64 (b : Int))) => idx_any ks A n c b g w' h1 hb h2)
 rw [← findIdx_kd (bitK b)] at HC
 have hI : (ks.map kdN).findIdx (fun e => bitK b e.1) = cutI b (ks.map kdN) := rfl
 rw [hI] at HC
 have hle := cutI_le b (ks.map kdN)
 have hl : n = (ks.map kdN).length := by have := hx.1; rw [length_entL] at this; omega
 generalize hi : cutI b (ks.map kdN) = i at *
 have ht := Lib.hid (entL_take (ks.map kdN) i (by omega))
 have hd := Lib.hid (entL_drop (ks.map kdN) i (by omega))
 generalize entL ((ks.map kdN).take i) = lt at *
 generalize entL ((ks.map kdN).drop i) = ld at *
 have hall := Lib.hid (show i = n → entL (ks.map kdN) = lt ∧ ld = [] from fun e => by
  have h1 := ht.out
  have h2 := hd.out
  have hz := length_entL (ks.map kdN)
  rw [List.take_of_length_le (by omega)] at h1
  rw [List.drop_eq_nil_of_le (by omega)] at h2
  exact ⟨h1, h2.symm⟩)
 rw [← hl] at hle
 generalize entL (ks.map kdN) = el at *
 clear hl hi hes hI
 by_cases hin : i < n
 ·rw [if_pos hin] at HC
  have h0 : ¬ ((i : Int) < 0) := by omega
  have hnc := hx.2.1
  go_enter Tryz.func90, Tryz.ntmps90
  go_upto_region 1 with (go_big_may; (refine L_box1 (d := some 3) rfl rfl rfl (ev_tmp rfl) rfl ?_; (try clear hnew); intro g3 W3 hnew; replace hst := hst.trans hnew; simp only [List.cons_append, List.nil_append] at hst))
  go_upto_region 2 with (go_big_may; (go_at_call 123; (try clear hnew); refine (HC.out _ _ (hst.old (by decide) hx) (cell_of (hst.get 0 rfl) rfl)).mono ?_; rintro e Wk ⟨rfl, hnew⟩; replace hst := hst.keep hnew))
  go_upto_region 4 with (go_big_may; fail)
  refine wp_region_idx [(0, 0), (1, 0), (2, 0), (3, 0), (4, 0), (5, 0), (6, 2), (7, 2)] (by kernel_rfl) (by kernel_rfl) ?_
  replace hst := hst.drew
  refine idx_q rfl rfl ?_; go_wp2_with fail
  refine idx_q rfl rfl ?_; go_wp2_with fail
  refine idx_q rfl rfl ?_; go_wp2_with (((refine L_cutU (d := some 15) rfl rfl rfl (by rfl) Tryz.underlying143 el_api_Entry (by decide) hx 0 _ _ (Or.inl ⟨rfl, rfl⟩) (Or.inr ⟨_, _, rfl, by (exact ev_tmp rfl)⟩) (Or.inl ⟨rfl, rfl⟩) (by omega) (by omega) (by omega) (by omega) ?_; intro A15 c15 hs15)))
  refine idx_q rfl rfl ?_; go_wp2_with fail
  refine idx_q rfl rfl ?_; go_wp2_with fail
  refine idx_q rfl rfl ?_; go_wp2_with (((refine L_cutU (d := some 18) rfl rfl rfl (by rfl) Tryz.underlying143 el_api_Entry (by decide) hx _ _ _ (Or.inr ⟨_, _, rfl, by (exact ev_tmp rfl)⟩) (Or.inl ⟨rfl, rfl, rfl⟩) (Or.inl ⟨rfl, rfl⟩) (by omega) (by omega) (by omega) (by omega) ?_; intro A18 c18 hs18)))
  refine idx_g rfl ?_; go_wp2_with fail; refine ⟨by (exact Below.refl _ _), ?_⟩
  refine idx_g rfl ?_; go_wp2_with fail; refine ⟨by (exact Below.refl _ _), ?_⟩
  refine idx_nil ?_
  go_wp2_with fail
  go_ret2
  refine ⟨A15, i, c15, A18, n - i, c18, rfl, fun V hV => ?_, fun V hV => ?_, hst.forget⟩
  ·have hs := hs15 V hV
   rw [Nat.sub_zero, Nat.zero_mul, List.drop_zero, ht.out] at hs
   exact hs
  ·have hs := hs18 V hV
   have hz := hx.1
   rw [hd.out, List.take_of_length_le (by
    have := congrArg List.length hd.out
    rw [List.length_drop, hz] at this
    rw [← this, Nat.sub_mul]
    exact Nat.le_refl _)] at hs
   exact hs
 ·rw [if_neg hin] at HC
  have hin' : i = n := by omega
  obtain ⟨h1, h2⟩ := hall.out hin'
  have H12 := Lib.hid (And.intro h1 h2)
  clear h1 h2 hall
  subst hin'
  go_enter Tryz.func90, Tryz.ntmps90
  go_upto_region 1 with (go_big_may; (refine L_box1 (d := some 3) rfl rfl rfl (ev_tmp rfl) rfl ?_; (try clear hnew); intro g3 W3 hnew; replace hst := hst.trans hnew; simp only [List.cons_append, List.nil_append] at hst))
  go_upto_region 2 with (go_big_may; (go_at_call 123; (try clear hnew); refine (HC.out _ _ (hst.old (by decide) hx) (cell_of (hst.get 0 rfl) rfl)).mono ?_; rintro e Wk ⟨rfl, hnew⟩; replace hst := hst.keep hnew))
  go_upto_region 3 with (go_big_may; fail)
  go_wp2_with (fail)
  go_ret2
  obtain ⟨h1, h2⟩ := H12.out
  exact ⟨A, i, c, none, 0, 0, rfl, fun V hV => by rw [← h1]; exact hV, fun V _ => by rw [h2]; exact SlR.nil_ V 33, hst.forget⟩
end Go.Proofs.YtaebeemnipafbaaGreatDoor

set_option maxRecDepth 20000
set_option linter.unusedSimpArgs false
set_option linter.unusedVariables false
namespace Go.Proofs.YtaebeemnipafbaaGreatDoor
open Go.RowKit
theorem cutI_mid {es : List (Nat × Dig)} {b q : Nat} (hr : ∀ e ∈ es, q * 2 ^ (b + 1) ≤ e.1 ∧ e.1 < q * 2 ^ (b + 1) + 2 ^ (b + 1)) : cutI b es = es.findIdx fun e => decide (q * 2 ^ (b + 1) + 2 ^ b ≤ e.1) := by
 unfold cutI
 induction es with
 | nil => rfl
 | cons e es ih =>
  rw [List.findIdx_cons, List.findIdx_cons, ih (fun x hx => hr x (List.mem_cons_of_mem _ hx)), bit_mid (hr e (by simp)).1 (hr e (by simp)).2]
theorem pw_nodup {es : List (Nat × Dig)} (h : es.Pairwise fun a b => a.1 < b.1) : (es.map (·.1)).Nodup := by
 rw [List.Nodup, List.pairwise_map]
 exact h.imp (fun h => Nat.ne_of_lt h)
attribute [local simp] prArr_size
set_option maxHeartbeats 4000000 in
set_option maxRecDepth 100000 in
theorem troot_any : ∀ (b : Nat) (es : List (Nat × Dig)) (A : Option Addr) (n c q : Nat) (w : World), Tb w → SlR w A n c 33 (entL es) → b ≤ 32 → (es.Pairwise fun x y => x.1 < y.1) → (∀ e ∈ es, q * 2 ^ b ≤ e.1 ∧ e.1 < q * 2 ^ b + 2 ^ b) → q * 2 ^ b + 2 ^ b ≤ 4294967296 →
  Calls Tryz.prog 85 #[.slice A n c, .int .i64 (b : Int)] w fun e w' => e = .returned (mRoot (leafAt es) b (q * 2 ^ b)).v ∧ St w w' [] := by
 intro b
 induction b with
 | zero =>
  intro es A n c q w hT hx _ hs hr hq
  have hst := St.refl w
  have hl : n = es.length := by have := hx.1; rw [length_entL] at this; omega
  cases es with
  | nil =>
   obtain rfl : n = 0 := hl
   have HM := Lib.hid (mRoot_empty 0 (q * 2 ^ 0))
   generalize mRoot (leafAt []) 0 (q * 2 ^ 0) = r at *
   clear hT hs hr hq
   go_enter Tryz.func85, Tryz.ntmps85
   go_upto_region 1 with (go_big_may; (refine L_allocA (d := some 4) rfl rfl rfl el_api_Digest ?_; (try clear hnew); intro g4 W4 hnew; replace hst := hst.trans hnew; simp only [List.cons_append, List.nil_append] at hst))
   go_upto_region 2 with (go_big_may; fail)
   go_wp2_with (first | (refine L_build0 (d := some 12) rfl rfl rfl Tryz.underlying32 el_uint8 el_api_Digest ?_) | (refine wpl_at (.store 32 (.tmp 4) (.tmp 12)) rfl ?_; (refine L_storeA rfl rfl hst rfl (by rfl) (ev_tmp rfl) (by (exact Dig.one _)) el_api_Digest (by (rfl)) 0 rfl (by (rfl)) ?_; clear hst; intro WS1 hst; simp only [List.set_cons_zero, List.set_cons_succ] at hst)))
   refine bp_cell rfl rfl rfl (hst.get 0 rfl) Tryz.underlying32 rfl el_api_Digest (by (rfl)) ?_
   rw [HM.out]
   exact ⟨rfl, hst.forget⟩
  | cons e es =>
   have h0 := hr e (by simp)
   have he : e.1 = q := by omega
   have HM := Lib.hid (show mRoot (leafAt (e :: es)) 0 (q * 2 ^ 0) = eLeaf e.1 e.2 from by
    show leafAt (e :: es) (q * 2 ^ 0) = _
    rw [show q * 2 ^ 0 = e.1 by omega]
    exact leafAt_some (pw_nodup hs) (by simp))
   generalize mRoot (leafAt (e :: es)) 0 (q * 2 ^ 0) = r at *
   have hn0 : ((n : Int) == 0) = false := by rw [beq_eq_false_iff_ne]; simp at hl; omega
   have hn1 : (0 : Int) < (n : Int) := by simp at hl; omega
   have HP := Lib.hid (entL_at (e :: es) 0 (by simp))
   have hnc := hx.2.1
   have HT := Lib.hid hT
   have hk : e.1 < 4294967296 := by omega
   have HL := Lib.hid (fun (w' : World) (h : Tb w') => tleafE_any e.1 e.2 w' h hk)
   obtain ⟨k, d⟩ := e
   simp only [List.getElem_cons_zero] at *
   generalize eLeaf k d = ld at *
   generalize entL ((k, d) :: es) = el at *
   clear hT hs hr hq hl h0 he hk
   go_enter Tryz.func85, Tryz.ntmps85
   go_upto_region 1 with (go_big_may; (refine L_allocA (d := some 4) rfl rfl rfl el_api_Digest ?_; (try clear hnew); intro g4 W4 hnew; replace hst := hst.trans hnew; simp only [List.cons_append, List.nil_append] at hst))
   go_upto_region 3 with (go_big_may; fail)
   go_upto_region 4 with (go_big_may; fail)
   go_upto_region 5 with (go_big_may; first | (refine L_loadM (d := some 18) rfl rfl rfl (by rfl) Tryz.underlying110 rfl el_api_Entry (cs := prArr (k : Int) d) (by rw [← HP.out]; exact hr17) (prArr_size _ _) ?_) | (go_at_call 96; (try clear hnew); refine (HL.out _ (HT.out.of hst)).mono ?_; rintro e Wk1 ⟨rfl, hnew⟩; replace hst := hst.keep hnew) | (refine L_idxS (d := some 17) rfl rfl rfl (by rfl) (by rfl) Tryz.underlying143 el_api_Entry (by (exact hst.old (by decide) hx)) (by omega) (by omega) ?_; intro o17 p17 ha17 hr17; ((subst ha17))) | (refine L_allocA (d := some 5) rfl rfl rfl el_api_Digest ?_; (try clear hnew); intro g5 W5 hnew; replace hst := hst.trans hnew; simp only [List.cons_append, List.nil_append] at hst) | (refine wpl_at (.store 32 (.tmp 5) (.tmp 20)) rfl ?_; (refine L_storeA rfl rfl hst rfl (by rfl) (ev_tmp rfl) (by (exact Dig.one _)) el_api_Digest (by (exact Dig.size _)) 0 rfl (by (rfl)) ?_; clear hst; intro WS8 hst; simp only [List.set_cons_zero, List.set_cons_succ] at hst)))
   go_wp2_with (first | ((refine L_loadA (d := some 22) rfl rfl rfl (by rfl) Tryz.underlying32 rfl el_api_Digest (by (exact hst.get 0 rfl)) (by (exact Dig.size _)) ?_)) | (refine wpl_at (.store 32 (.tmp 4) (.tmp 22)) rfl ?_; (refine L_storeA rfl rfl hst rfl (by rfl) (ev_tmp rfl) (by (exact Dig.one _)) el_api_Digest (by (exact Dig.size _)) 1 rfl (by (rfl)) ?_; clear hst; intro WS1 hst; simp only [List.set_cons_zero, List.set_cons_succ] at hst)))
   refine bp_cell rfl rfl rfl (hst.get 1 rfl) Tryz.underlying32 rfl el_api_Digest (by (exact Dig.size _)) ?_
   rw [HM.out]
   exact ⟨rfl, hst.forget⟩
 | succ b ih =>
  intro es A n c q w hT hx hb hs hr hq
  have hst := St.refl w
  have hl : n = es.length := by have := hx.1; rw [length_entL] at this; omega
  have e2 : 2 ^ (b + 1) = 2 ^ b + 2 ^ b := by rw [Nat.pow_succ]; omega
  have hp := Nat.two_pow_pos b
  have e3 : q * 2 ^ (b + 1) = 2 * q * 2 ^ b := by rw [Nat.pow_succ, Nat.mul_comm (2 ^ b) 2, ← Nat.mul_assoc, Nat.mul_comm q 2]
  have e4 : (2 * q + 1) * 2 ^ b = q * 2 ^ (b + 1) + 2 ^ b := by rw [Nat.add_mul, Nat.one_mul, e3]
  cases hes : es with
  | nil =>
   rw [hes] at hx hl
   obtain rfl : n = 0 := hl
   have HM := Lib.hid (mRoot_empty (b + 1) (q * 2 ^ (b + 1)))
   generalize mRoot (leafAt []) (b + 1) (q * 2 ^ (b + 1)) = r at *
   clear hT hs hr hq ih e2 e3 e4 hes hp
   go_enter Tryz.func85, Tryz.ntmps85
   go_upto_region 1 with (go_big_may; (refine L_allocA (d := some 4) rfl rfl rfl el_api_Digest ?_; (try clear hnew); intro g4 W4 hnew; replace hst := hst.trans hnew; simp only [List.cons_append, List.nil_append] at hst))
   go_upto_region 2 with (go_big_may; fail)
   go_wp2_with (first | (refine L_build0 (d := some 12) rfl rfl rfl Tryz.underlying32 el_uint8 el_api_Digest ?_) | (refine wpl_at (.store 32 (.tmp 4) (.tmp 12)) rfl ?_; (refine L_storeA rfl rfl hst rfl (by rfl) (ev_tmp rfl) (by (exact Dig.one _)) el_api_Digest (by (rfl)) 0 rfl (by (rfl)) ?_; clear hst; intro WS1 hst; simp only [List.set_cons_zero, List.set_cons_succ] at hst)))
   refine bp_cell rfl rfl rfl (hst.get 0 rfl) Tryz.underlying32 rfl el_api_Digest (by (rfl)) ?_
   rw [HM.out]
   exact ⟨rfl, hst.forget⟩
  | cons e0 es0 =>
   rw [← hes]
   have hn0 : ((n : Int) == 0) = false := by rw [beq_eq_false_iff_ne, hl, hes]; simp; omega
   have hb0 : (((b + 1 : Nat) : Int) == 0) = false := by rw [beq_eq_false_iff_ne]; omega
   clear hes
   have hcut := cutI_mid hr
   have hmr := mRoot_halves es b (q * 2 ^ (b + 1))
   rw [← cut_low es _ hs, ← cut_high es _ hs, ← hcut] at hmr
   have hlow : es.take (cutI b es) = es.filter fun e => decide (e.1 < q * 2 ^ (b + 1) + 2 ^ b) := by rw [hcut]; exact cut_low es _ hs
   have hhigh : es.drop (cutI b es) = es.filter fun e => decide (q * 2 ^ (b + 1) + 2 ^ b ≤ e.1) := by rw [hcut]; exact cut_high es _ hs
   have HH := Lib.hid (fun (w' : World) (h : SlR w' A n c 33 (entL es)) => halves_any es A n c b w' h (by omega) (fun e he => by have := hr e he; omega))
   have HL := Lib.hid (fun (w' : World) (A1 : Option Addr) (n1 c1 : Nat) (ht : Tb w') (h : SlR w' A1 n1 c1 33 (entL (es.take (cutI b es)))) => ih (es.take (cutI b es)) A1 n1 c1 (2 * q) w' ht h (by omega) (hs.sublist (List.take_sublist _ _)) (fun e he => by
    have h1 := hr e ((List.take_sublist _ _).subset he)
    rw [hlow] at he
    have h2 := of_decide_eq_true (List.mem_filter.1 he).2
    omega) (by omega))
   have HR := Lib.hid (fun (w' : World) (A1 : Option Addr) (n1 c1 : Nat) (ht : Tb w') (h : SlR w' A1 n1 c1 33 (entL (es.drop (cutI b es)))) => ih (es.drop (cutI b es)) A1 n1 c1 (2 * q + 1) w' ht h (by omega) (hs.sublist (List.drop_sublist _ _)) (fun e he => by
    have h1 := hr e ((List.drop_sublist _ _).subset he)
    rw [hhigh] at he
    have h2 := of_decide_eq_true (List.mem_filter.1 he).2
    omega) (by omega))
   rw [← e3] at HL
   rw [e4] at HR
   have HM := Lib.hid hmr
   have HT := Lib.hid hT
   have HS := Lib.hid (show wrap64 (((b + 1 : Nat) : Int) - 1) = (b : Int) by
    rw [show ((b + 1 : Nat) : Int) - 1 = (b : Int) by omega]
    unfold wrap64
    omega)
   generalize mRoot (leafAt es) (b + 1) (q * 2 ^ (b + 1)) = r at *
   generalize mRoot (leafAt (es.take (cutI b es))) b (q * 2 ^ (b + 1)) = r1 at *
   generalize mRoot (leafAt (es.drop (cutI b es))) b (q * 2 ^ (b + 1) + 2 ^ b) = r2 at *
   generalize entL (es.take (cutI b es)) = l1 at *
   generalize entL (es.drop (cutI b es)) = l2 at *
   generalize entL es = el at *
   clear hT ih hs hr hq e2 e3 e4 hcut hmr hlow hhigh hl hp
   have hb31 : b ≤ 31 := by omega
   clear hb
   go_enter Tryz.func85, Tryz.ntmps85
   go_upto_region 1 with (go_big_may; (refine L_allocA (d := some 4) rfl rfl rfl el_api_Digest ?_; (try clear hnew); intro g4 W4 hnew; replace hst := hst.trans hnew; simp only [List.cons_append, List.nil_append] at hst))
   go_upto_region 3 with (go_big_may; fail)
   go_upto_region 6 with (go_big_may; fail)
   go_upto_region 7 with (go_big_may; (go_at_call 90; (try clear hnew); refine (HH.out _ (hst.old (by decide) hx)).mono ?_; rintro e Wh ⟨A1, n1, c1, A2, n2, c2, rfl, hx1, hx2, hnew⟩; have HX1 := Lib.hid hx1; have HX2 := Lib.hid hx2; clear hx1 hx2; replace hst := hst.keep hnew; clear hnew))
   go_wp2_with (first | (go_at_call_of 85 (Value.slice A1 n1 c1); (try clear hnew); refine (HL.out _ _ _ _ (HT.out.of hst) (HX1.out _ (hst.old (by decide) hx))).mono ?_; rintro e W1 ⟨rfl, hnew⟩; replace hst := hst.keep hnew) | (go_at_call_of 85 (Value.slice A2 n2 c2); (try clear hnew); refine (HR.out _ _ _ _ (HT.out.of hst) (HX2.out _ (hst.old (by decide) hx))).mono ?_; rintro e W1 ⟨rfl, hnew⟩; replace hst := hst.keep hnew) | (go_at_call 95; (try clear hnew); refine (mnode_any _ _ _ (HT.out.of hst)).mono ?_; rintro e Wk2 ⟨rfl, hnew⟩; replace hst := hst.keep hnew) | (refine wpl_at (.store 32 (.tmp 4) (.tmp 38)) rfl ?_; (refine L_storeA rfl rfl hst rfl (by rfl) (ev_tmp rfl) (by (exact Dig.one _)) el_api_Digest (by (exact Dig.size _)) 0 rfl (by (rfl)) ?_; clear hst; intro WS9 hst; simp only [List.set_cons_zero, List.set_cons_succ] at hst)))
   refine bp_cell rfl rfl rfl (hst.get 0 rfl) Tryz.underlying32 rfl el_api_Digest (by (exact Dig.size _)) ?_
   rw [HM.out]
   exact ⟨rfl, hst.forget⟩
end Go.Proofs.YtaebeemnipafbaaGreatDoor

set_option maxRecDepth 20000
set_option linter.unusedSimpArgs false
set_option linter.unusedVariables false
namespace Go.Proofs.YtaebeemnipafbaaGreatDoor
open Go.RowKit Go.Shelf Go.Sort
open Go.Maps (Keyed)
def cmpE (x y : KD) : Int := ((x.1.val : Nat) : Int) - ((y.1.val : Nat) : Int)
theorem ltE (x y : KD) : ltOf cmpE x y = decide (x.1.val < y.1.val) := by
 unfold ltOf cmpE
 congr 1
 apply propext
 omega
theorem swoE : Sort.SWO (ltOf cmpE) where
 irrefl x := by rw [ltE]; simp
 trans x y z h1 h2 := by rw [ltE] at *; simp at *; omega
 ntrans x y z h1 h2 := by rw [ltE] at *; simp at *; omega
section
variable {P : Program} {ops : Array Oper} {rest : List Oper} {o : Oper} {a : Act} {W w0 : World} {Q : Exit → Act → World → Prop} {L : List Res} {d : Option Tmp}
theorem L_boxG (hst : St w0 W L) (hgr : ∃ os, W = Sort.grow w0 os) (hd : o.dst = d) (hw : Region.wanted o (yielded ops a.tmps) = true) {T : TypeId} {x : Operand} (ho : o.op = .box T x) {cs : Array Value} (hx : a.eval x = .agg cs)
  (h : ∀ (g : Nat) (W' : World), St w0 W' (.blk g T cs :: L) → (∃ os, W' = Sort.grow w0 os) → wpList P ops Q rest (a.put d (.pointer (some ⟨g, 0, none⟩))) W') : wpList P ops Q (o :: rest) a W := by
 obtain ⟨os, rfl⟩ := hgr
 refine L_val hd hw (exec_box T x ho) ?_
 rw [hx]
 refine h _ _ (hst.alloc cs T) ⟨os ++ #[.cells cs T], ?_⟩
 rw [Sort.alloc_eq_grow, Sort.grow_grow]
 rfl
end
set_option maxHeartbeats 1000000 in
theorem cmp_clos (x y : KD) (W : World) : Calls Tryz.prog 121 #[.agg (prArr ((x.1.val : Nat) : Int) x.2), .agg (prArr ((y.1.val : Nat) : Int) y.2)] W fun e w' => e = .returned (.int .i64 (cmpE x y)) ∧ ∃ os, w' = Sort.grow W os := by
 have hst := St.refl W
 have hgr : ∃ os, W = Sort.grow W os := ⟨#[], by simp⟩
 have lx := x.1.isLt
 have ly := y.1.isLt
 go_enter Tryz.func121, Tryz.ntmps121
 go_wp2_with (first | (refine L_boxG hst hgr (d := some 2) rfl rfl rfl (ev_tmp rfl) ?_; clear hst hgr; intro g2 W2 hst hgr) | (refine L_boxG hst hgr (d := some 3) rfl rfl rfl (ev_tmp rfl) ?_; clear hst hgr; intro g3 W3 hst hgr) | (refine L_load1 (d := some 6) rfl rfl rfl (by rfl) Tryz.underlying3 rfl (cell_of (hst.get 1 rfl) prArr_0) ?_) | (refine L_load1 (d := some 8) rfl rfl rfl (by rfl) Tryz.underlying3 rfl (cell_of (hst.get 0 rfl) prArr_0) ?_))
 go_ret
 exact ⟨rfl, hgr⟩
theorem ent_get {ks : List KD} {j : Nat} {v : Value} (h : (entL (ks.map kdN))[j]? = some v) : j / 33 < ks.length ∧ (encE (ks[j / 33]!))[j % 33]? = some v := by
 have hj := (List.getElem?_eq_some_iff.1 h).1
 rw [length_entL, List.length_map] at hj
 have h1 : j / 33 < ks.length := by omega
 refine ⟨h1, ?_⟩
 rw [← kd_at h1, List.getElem?_take, if_pos (by omega), List.getElem?_drop, show j / 33 * 33 + j % 33 = j by omega]
 exact h
theorem St.sortRows {w0 W : World} {L : List Res} (h : St w0 W L) (k : Nat) {blk off n c e : Nat} {xs : List Value} (hk : L[k]? = some (.row (some ⟨blk, off, none⟩) n c e 33 xs)) (q : Nat) (d : Array KD) (hd : d.size = n) (os : Array Obj) :
  St w0 (sortWorldK encE 33 W blk off q d os) (L.set k (.row (some ⟨blk, off, none⟩) n c e 33 (entL (d.toList.map kdN)))) := by
 have hlt : blk < W.heap.size := h.lt (List.mem_of_getElem? hk) rfl
 have hsz : (putRowK encE 33 (Sort.ahead W q) blk off d).heap.size = W.heap.size := by simp [putRowK, Sort.putRow, mapBlock, Sort.ahead]
 have hold : ∀ i, i < W.heap.size → (sortWorldK encE 33 W blk off q d os).heap[i]? = (putRowK encE 33 (Sort.ahead W q) blk off d).heap[i]? := fun i hi => heap_grow_old _ _ (by rw [hsz]; exact hi)
 refine h.turnAt k hk rfl rfl rfl (by simp [sortWorldK, putRowK, Sort.putRow, mapBlock, Sort.ahead, Sort.grow]) (fun i hi hne => ?_) (fun g hg => .inl hg) ?_
 ·rw [hold i hi]
  have hne : blk ≠ i := fun e => hne (by simp [Res.dom, e])
  simp [putRowK, Sort.putRow, mapBlock, Sort.ahead, Array.getElem?_modify, hne]
 ·rcases h.at_ k hk with ⟨h0, _⟩ | ⟨g, off', cur, hA, hh, hr⟩
  ·cases h0
  ·simp only [Option.some.injEq, Addr.mk.injEq, and_true] at hA
   obtain ⟨rfl, rfl⟩ := hA
   refine .inr ⟨blk, off, putCells id off (flatK encE 33 d) cur, rfl, ?_, ?_⟩
   ·rw [hold blk hlt]
    show ((Sort.ahead W q).heap.modify blk _)[blk]? = _
    rw [Array.getElem?_modify, if_pos rfl]
    show (W.heap[blk]?).map _ = _
    rw [hh]
    rfl
   ·have hrm := hr.room
    have hnc := hr.nc
    have hl : (entL (d.toList.map kdN)).length = n * 33 := by rw [length_entL, List.length_map, Array.length_toList, hd]
    refine ⟨hl, hnc, hr.cm, by simpa [putCells] using hrm, fun j v hv => ?_⟩
    have hj : j < n * 33 := by rw [← hl]; exact (List.getElem?_eq_some_iff.1 hv).1
    have hroom : n * 33 ≤ c * 33 := Nat.mul_le_mul_right _ hnc
    rw [putCells, Array.getElem?_mapIdx]
    have hlt2 : off + j < cur.size := by omega
    rw [Array.getElem?_eq_getElem hlt2]
    obtain ⟨h1, h2⟩ := ent_get hv
    have h3 : off ≤ off + j ∧ off + j < off + (flatK encE 33 d).size := by rw [size_flatK, hd]; omega
    simp only [Option.map_some, h3, and_self, if_true, id]
    rw [show off + j - off = j by omega, get_flatK _ _ _ _ (by rw [hd]; exact hj)]
    have h4 : d[j / 33]! = d.toList[j / 33]! := by simp [getElem!_def]
    rw [h4]
    congr 1
    rw [getElem!_def, h2]
theorem frozen_row {w0 W : World} {L : List Res} (h : St w0 W L) (k : Nat) {blk off n c e s : Nat} {xs : List Value} (hk : L[k]? = some (.row (some ⟨blk, off, none⟩) n c e s xs)) (j : Nat) (hj : j < n * s) : W.frozen? ⟨blk, off + j, none⟩ = false := by
 rcases h.at_ k hk with ⟨h0, _⟩ | ⟨g, off', cur, hA, hh, hr⟩
 ·cases h0
 ·simp only [Option.some.injEq, Addr.mk.injEq, and_true] at hA
  obtain ⟨rfl, rfl⟩ := hA
  have hrm := hr.room
  have : n * s ≤ c * s := Nat.mul_le_mul_right _ hr.nc
  exact (there_of_block (o := off) (n := n * s) hh (by omega) j hj).2
set_option maxHeartbeats 1000000 in
theorem sort_some (ks : List KD) (blk off n c : Nat) (w0 w : World) (L : List Res) (hst : St w0 w (.row (some ⟨blk, off, none⟩) n c 110 33 (entL (ks.map kdN)) :: L)) (hn : n ≤ 64) :
  Calls Tryz.prog 120 #[.slice (some ⟨blk, off, none⟩) n c, .func (.func 121) #[] #[]] w fun e w' => e = .returned (.tuple #[]) ∧
   ∃ ds : List KD, ds.Perm ks ∧ (ds.Pairwise fun a b => ¬ b.1.val < a.1.val) ∧ St w0 w' (.row (some ⟨blk, off, none⟩) n c 110 33 (entL (ds.map kdN)) :: L) := by
 have hx := hst.sl 0 rfl
 have hl : n = ks.length := by have := hx.1; rw [length_entL, List.length_map] at this; omega
 have hlt : blk < w.heap.size := hst.lt (List.mem_cons_self ..) rfl
 have h := AnyQ.slices_SortFunc Tryz.laysSortE 33 Tryz.isAgg110 Tryz.sizeOf110 encE length_encE (fun x => prArr_one _ _) cmpE swoE 121 #[] blk off c ks.toArray w (enters_of Tryz.func121 (by kernel_rfl) rfl)
  (fun m os dk hs x y => (cmp_clos x y _).mono fun e w' ⟨he, os', hw⟩ => ⟨he, 0, os', hw⟩)
  (fun t ht => by
   rw [size_flatK] at ht
   have ht' : t < ks.length * 33 := by simpa using ht
   refine ⟨?_, frozen_row hst 0 rfl t (by rw [hl]; exact ht')⟩
   rw [get_flatK _ _ _ _ ht]
   have h1 : t / 33 < ks.length := by omega
   have h2 : t % 33 < (encE (ks[t / 33]!)).length := by rw [length_encE]; omega
   have h3 := ent_cells hx (j := t / 33) h1 (i := t % 33) (v := (encE (ks[t / 33]!))[t % 33]) (List.getElem?_eq_getElem h2)
   rw [show off + t / 33 * 33 + t % 33 = off + t by omega] at h3
   rw [h3]
   have h4 : ks.toArray[t / 33]! = ks[t / 33]! := by simp [getElem!_def]
   rw [h4]
   simp only [id]
   generalize encE (ks[t / 33]!) = ee at h2 ⊢
   simp [getElem!_def, List.getElem?_eq_getElem h2])
  hlt (by simp; omega)
 have hz : ks.toArray.size = n := by simp [hl]
 rw [hz] at h
 refine h.mono ?_
 rintro e w' ⟨rfl, d', q, os, hp, hs, rfl⟩
 refine ⟨rfl, d'.toList, ?_, ?_, ?_⟩
 ·have := (list_perm (by rw [hz]; exact hp)).2
  simpa using this
 ·have h1 := (list_perm (by rw [hz]; exact hp)).1
  have := list_sorted (lt := ltOf cmpE) (d := d') (by rw [h1, hz]; exact hs)
  refine this.imp (fun {a b} hab => ?_)
  rw [ltE] at hab
  exact of_decide_eq_false hab
 ·have h1 := (list_perm (by rw [hz]; exact hp)).1
  exact hst.sortRows 0 rfl q d' (by rw [h1, hz]) os
theorem sort_any (ks : List KD) (A : Option Addr) (n c : Nat) (w0 w : World) (L : List Res) (hst : St w0 w (.row A n c 110 33 (entL (ks.map kdN)) :: L)) (hn : n ≤ 64) :
  Calls Tryz.prog 120 #[.slice A n c, .func (.func 121) #[] #[]] w fun e w' => e = .returned (.tuple #[]) ∧
   ∃ ds : List KD, ds.Perm ks ∧ (ds.Pairwise fun a b => ¬ b.1.val < a.1.val) ∧ St w0 w' (.row A n c 110 33 (entL (ds.map kdN)) :: L) := by
 have hx := hst.sl 0 rfl
 have hl : n = ks.length := by have := hx.1; rw [length_entL, List.length_map] at this; omega
 rcases Nat.eq_zero_or_pos n with h0 | h0
 ·obtain rfl : ks = [] := List.eq_nil_of_length_eq_zero (by omega)
  subst h0
  refine (AnyF.slices_SortFunc_none Tryz.laysSortE A c _ w).mono ?_
  rintro e w' ⟨rfl, rfl⟩
  exact ⟨rfl, [], List.Perm.refl _, List.Pairwise.nil, hst⟩
 ·obtain ⟨b, o, rfl, _⟩ := hx.2.2.2 h0
  exact sort_some ks b o n c w0 w L hst hn
end Go.Proofs.YtaebeemnipafbaaGreatDoor

set_option maxRecDepth 20000
set_option linter.unusedSimpArgs false
set_option linter.unusedVariables false
namespace Go.Proofs.YtaebeemnipafbaaGreatDoor
open Go.RowKit Go.Shelf Go.Sort
open Go.Maps (Keyed)
theorem entL_ones (es : List (Nat × Dig)) : ∀ u ∈ entL es, u.oneCell' = true := by
 intro u hu
 unfold entL pairsL at hu
 obtain ⟨p, _, hp⟩ := List.mem_flatMap.1 hu
 exact prArr_one p.1 p.2 u (by rw [prArr_list]; exact hp)
set_option maxHeartbeats 1000000 in
theorem cloneE_any (es : List (Nat × Dig)) (A : Option Addr) (n c : Nat) (w : World) (hx : SlR w A n c 33 (entL es)) (hn : n ≤ 64) :
  Calls Tryz.prog 119 #[.slice A n c] w fun e w' => ∃ O oc, e = .returned (.slice O n oc) ∧ St w w' [.row O n oc 110 33 (entL es)] := by
 have hst := St.refl w
 have q49 : ∀ (w : World) (a : Option Addr) (n c n' c' : Nat), (binOp .eql 93 (.slice a n c) (.slice none n' c')).run Tryz.prog w = .ok (.bool a.isNone) w := fun w a n c n' c' => Lib.run_eql_slice_nil w _ _ a n c n' c' Tryz.underlying93
 cases A with
 | none =>
  obtain rfl : n = 0 := by
   rcases Nat.eq_zero_or_pos n with h | h
   ·exact h
   ·obtain ⟨b, o, h1, _⟩ := hx.2.2.2 h
    cases h1
  obtain rfl : es = [] := List.eq_nil_of_length_eq_zero (by have := hx.1; rw [length_entL] at this; omega)
  go_enter Tryz.func119, Tryz.ntmps119
  go_wp2_with (fail)
  go_ret
  exact ⟨none, 0, rfl, hst.nilRow _ 33⟩
 | some a =>
  go_enter Tryz.func119, Tryz.ntmps119
  go_wp2_with (first | (refine L_buildS (d := some 5) rfl rfl rfl [] (bs_0 ) rfl Tryz.underlying93 el_api_Entry rfl (by (simp [Value.cells]; done)) (by decide) (by decide) ?_; (try clear hnew); intro g5 W5 hnew; replace hst := hst.trans hnew; simp only [List.cons_append, List.nil_append] at hst; simp only [List.flatMap_cons, List.flatMap_nil, List.append_nil, Value.cells, List.toList_toArray] at hst) | (refine L_appendO (d := some 7) rfl rfl hst rfl (by rfl) (by rfl) Tryz.underlying93 el_api_Entry rfl (by decide) (by decide) 0 rfl (by (rfl)) (by (exact hst.old (by decide) hx)) (by (exact entL_ones _)) (by omega) ?_; clear hst; intro A7 c7 W7 hst; simp only [List.set_cons_zero, List.set_cons_succ, List.nil_append, Nat.zero_add] at hst))
  go_ret
  exact ⟨_, _, rfl, by simpa using hst⟩
def kInt (n : Nat) : Value := .int .i64 (n : Int)
theorem kInt_inj (x y : Nat) (h : kInt x = kInt y) : x = y := by simp only [kInt, Value.int.injEq, true_and] at h; omega
theorem keyed_int : Keyed Tryz.prog 3 := Go.Maps.int_keyed Tryz.underlying3
theorem kInt_ok {n : Nat} (h : n < 9223372036854775808) : KeyOk Tryz.prog 3 kInt n := ⟨_, Go.Maps.keyOf_int_mk Tryz.underlying3 (WalkArith.wf_i64 (by omega))⟩
def metL (es : List (Nat × Dig)) (j : Nat) : List (Nat × Nat) := (es.take j).mapIdx fun i e => (e.1, i)
theorem metL_keys (es : List (Nat × Dig)) (j : Nat) : (metL es j).map (·.1) = (es.take j).map (·.1) := by
 unfold metL
 apply List.ext_getElem?
 intro i
 rw [List.getElem?_map, List.getElem?_mapIdx, List.getElem?_map, Option.map_map]
 rfl
theorem metL_succ {es : List (Nat × Dig)} {j : Nat} (hj : j < es.length) : metL es (j + 1) = metL es j ++ [(es[j].1, j)] := by
 unfold metL
 rw [List.take_succ_eq_append_getElem hj, List.mapIdx_append]
 simp [Nat.min_eq_left (Nat.le_of_lt hj)]
set_option maxHeartbeats 4000000 in
set_option maxRecDepth 100000 in
theorem tsorted_any (es : List (Nat × Dig)) (A : Option Addr) (n c : Nat) (w : World) (hx : SlR w A n c 33 (entL es)) (hn : n ≤ 64) (hk : ∀ e ∈ es, e.1 < 4294967296) (hd : (es.map (·.1)).Nodup) :
  Calls Tryz.prog 84 #[.slice A n c] w fun e w' => ∃ (ss : List (Nat × Dig)) (O : Option Addr) (oc : Nat), e = .returned (.tuple #[.slice O n oc, .nilIface]) ∧ (ss.Pairwise fun a b => a.1 < b.1) ∧ ss.Perm es ∧ St w w' [.row O n oc 110 33 (entL ss)] := by
 have hst := St.refl w
 have hl : n = es.length := by have := hx.1; rw [length_entL] at this; omega
 have h64 : ¬ (64 : Int) < (n : Int) := by omega
 have hnc := hx.2.1
 have hcm := hx.2.2.1
 simp only [maxLen] at hcm
 have HA := Lib.hid (fun j (hj : j < n) => show ∃ (k : Nat) (d : Dig), k < 4294967296 ∧ ((entL es).drop ((j : Int).toNat * 33)).take 33 = (prArr (k : Int) d).toList ∧ k ∉ (metL es j).map (·.1) ∧ metL es (j + 1) = metL es j ++ [(k, j)] from by
  have hj' : j < es.length := by omega
  refine ⟨es[j].1, es[j].2, hk _ (List.getElem_mem _), entL_at es j hj', ?_, metL_succ hj'⟩
  rw [metL_keys]
  intro hm
  obtain ⟨e, he, hee⟩ := List.mem_map.1 hm
  obtain ⟨i, hi, hie⟩ := List.mem_iff_getElem.1 he
  rw [List.length_take] at hi
  have hdi := List.pairwise_iff_getElem.1 hd i j (by simp; omega) (by simpa using hj') (by omega)
  rw [List.getElem_map, List.getElem_map] at hdi
  rw [List.getElem_take] at hie
  exact hdi (by rw [hie, hee]))
 have HK := Lib.hid (fun j => show ∀ p ∈ metL es j, KeyOk Tryz.prog 3 kInt p.1 from fun p hp => by
  have h1 : p.1 ∈ (metL es j).map (·.1) := List.mem_map.2 ⟨p, hp, rfl⟩
  rw [metL_keys] at h1
  obtain ⟨e, he, hee⟩ := List.mem_map.1 h1
  have := hk e ((List.take_sublist _ _).subset he)
  exact kInt_ok (by omega))
 have HD := Lib.hid (fun j => show ((metL es j).map (·.1)).Nodup from by
  rw [metL_keys]
  exact hd.sublist ((List.take_sublist _ _).map _))
 obtain ⟨ks, hks⟩ := kd_of hk
 have HS := Lib.hid (show ∀ ds : List KD, ds.Perm ks → (ds.Pairwise fun a b => ¬ b.1.val < a.1.val) → ((ds.map kdN).Pairwise fun a b => a.1 < b.1) ∧ (ds.map kdN).Perm es from fun ds h1 h2 => by
  rw [hks]
  exact sorted_kd h1 h2 (by rw [← hks]; exact hd))
 have HC := Lib.hid (fun (w' : World) (h : SlR w' A n c 33 (entL es)) => cloneE_any es A n c w' h hn)
 have HO := Lib.hid (fun (O : Option Addr) (oc : Nat) (w0 w' : World) (L : List Res) (h : St w0 w' (.row O n oc 110 33 (entL es) :: L)) => sort_any ks O n oc w0 w' L (by rw [← hks]; exact h) hn)
 have hm0 : metL es 0 = [] := rfl
 clear hk hd hks hn hl
 go_enter Tryz.func84, Tryz.ntmps84
 go_wp2_with ((refine L_makeMap kInt kInt (d := some 14) rfl rfl rfl ?_; intro gm W14 hnew; replace hst := hst.trans hnew; simp only [List.cons_append, List.nil_append] at hst))
 (try clear hnew)
 rw [← hm0] at hst
 generalize entL es = el at *
 generalize metL es = mt at *
 clear hm0 h64
 go_loopg [17] n (fun gk s17 wr => ∃ j : Nat, Hid (j + gk = n) ∧ s17 = .int .i64 (j : Int) ∧ St w wr [.obj gm (mpO kInt kInt (mt j))])
 case atStart => exact ⟨0, Lib.hid (by omega), rfl, hst⟩
 case round =>
  clear hst
  obtain ⟨j, HI, rfl, hst⟩ := hrel
  have hi := HI.out
  by_cases hjm : j < n
  ·clear hi
   obtain ⟨k, d, hk, hp, hkm, hms⟩ := HA.out j hjm
   have HP := Lib.hid hp
   have HM := Lib.hid hms
   have HN := Lib.hid (lookA_none.2 hkm)
   have HKk := Lib.hid (fun w : World => by have h := tkey_any (k : Int) w; rw [decide_eq_true (show 0 ≤ (k : Int) ∧ (k : Int) < 4294967296 by omega)] at h; exact h)
   have HU := Lib.hid (show updA k j (mt j) = mt (j + 1) from by rw [hms]; exact if_neg hkm)
   have HKO := Lib.hid (show KeyOk Tryz.prog 3 kInt k from kInt_ok (by omega))
   clear hp hms hkm hk
   go_wp2_with (first | (refine L_loadM (d := some 21) rfl rfl rfl (by rfl) Tryz.underlying110 rfl el_api_Entry (cs := prArr (k : Int) d) (by rw [← HP.out]; exact hr20) (prArr_size _ _) ?_) | (go_at_call 89; (try clear hnew); refine (HKk.out _).mono ?_; rintro e Wk1 ⟨rfl, hnew⟩; replace hst := hst.keep hnew) | (refine L_look2 (fk := kInt) (fv := kInt) (y := k) (l := mt j) (d := some 31) rfl rfl rfl keyed_int Tryz.underlying187 el_int (ev_tmp rfl) (ev_tmp rfl) kInt_inj (HK.out j) (HD.out j) HKO.out (by (exact hst.obj 1 rfl)) HN.out ?_) | (refine L_mapUpd (fk := kInt) (fv := kInt) (l := mt j) (u := k) (v := j) rfl rfl hst rfl keyed_int Tryz.underlying187 (ev_tmp rfl) (ev_tmp rfl) (ev_tmp rfl) kInt_inj (HK.out j) (HD.out j) HKO.out 1 rfl ?_; clear hst; intro WM hst; simp only [List.set_cons_zero, List.set_cons_succ] at hst; rw [HU.out] at hst) | (refine L_idxS (d := some 20) rfl rfl rfl (by rfl) (by rfl) Tryz.underlying93 el_api_Entry (by (exact hst.old (by decide) hx)) (by omega) (by omega) ?_; intro o20 p20 ha20 hr20; ((subst ha20))) | (refine L_allocA (d := some 6) rfl rfl rfl el_api_Entry ?_; (try clear hnew); intro g6 W6 hnew; replace hst := hst.trans hnew; simp only [List.cons_append, List.nil_append] at hst) | (refine wpl_at (.store 110 (.tmp 6) (.tmp 21)) rfl ?_; (refine L_storeA rfl rfl hst rfl (by rfl) (ev_tmp rfl) (by (exact prArr_all _ _)) el_api_Entry (by (exact prArr_size _ _)) 0 rfl (by (rfl)) ?_; clear hst; intro WS5 hst; simp only [List.set_cons_zero, List.set_cons_succ] at hst)) | (refine L_load1 (d := some 23) rfl rfl rfl (by rfl) Tryz.underlying3 rfl (by (exact cell_of (hst.get 0 rfl) prArr_0)) ?_) | (refine L_load1 (d := some 30) rfl rfl rfl (by rfl) Tryz.underlying3 rfl (by (exact cell_of (hst.get 0 rfl) prArr_0)) ?_) | (refine L_load1 (d := some 38) rfl rfl rfl (by rfl) Tryz.underlying3 rfl (by (exact cell_of (hst.get 0 rfl) prArr_0)) ?_))
   go_roundg (gk - 1)
   case measure => have hi := HI.out; omega
   case rel =>
    have hi := HI.out
    exact ⟨j + 1, Lib.hid (by omega), by go_num, hst.pick [1] (by decide)⟩
  ·clear hi HI
   go_wp2_with (first | (go_at_call 119; (try clear hnew); refine (HC.out _ (hst.old (by decide) hx)).mono ?_; rintro e Wc ⟨O, oc, rfl, hnew⟩; replace hst := hst.trans hnew; simp only [List.cons_append, List.nil_append] at hst) | (go_at_call 120; (try clear hnew); refine (HO.out _ _ _ _ _ hst).mono ?_; rintro e Ws ⟨rfl, ds, hp, hs, hst'⟩; clear hst; have hst := hst'; clear hst'))
   go_ret2
   obtain ⟨h1, h2⟩ := HS.out ds hp hs
   exact ⟨ds.map kdN, O, oc, rfl, h1, h2, hst.pick [0] (by decide)⟩
end Go.Proofs.YtaebeemnipafbaaGreatDoor

set_option maxRecDepth 20000
set_option linter.unusedSimpArgs false
set_option linter.unusedVariables false
namespace Go.Proofs.YtaebeemnipafbaaGreatDoor
open Go.RowKit
open Go.Maps (Keyed)
def sV (l : List UInt8) : Value := .string (bsOf l)
def lsV (x : NoteN × Nat × Dig) : Value := .agg (lsArr x.1.name x.1.key x.1.turn (x.2.1 : Int) x.2.2)
theorem sV_inj (x y : List UInt8) (h : sV x = sV y) : x = y := by
 simp only [sV, Value.string.injEq] at h
 exact bsOf_inj h
theorem keyed_str : Keyed Tryz.prog 9 := Go.Maps.string_keyed Tryz.underlying9
theorem sV_ok {l : List UInt8} (h : isNm l = true) : KeyOk Tryz.prog 9 sV l := ⟨_, Go.WideMaps.keyOf_string_mk Tryz.underlying9 (by rw [bsOf_size]; have := isNm_len h; simp only [maxLen]; omega)⟩
theorem el_string : ElemIs Tryz.prog 9 (.string (bsOf [])) 1 16 := by unfold ElemIs; kernel_rfl
structure LgP where
 (g m c lc Mn Ma : Nat)
 (A O : Option Addr)
 nm : List (List UInt8 × (NoteN × Nat × Dig))
 am : List (Nat × List UInt8)
def lgL (p : LgP) (key : List UInt8) (ns : List NoteN) : List Res :=
 [.blk p.g 80 (lgArr p.A p.m p.c p.O ns.length p.lc p.Mn p.Ma), .row p.A p.m p.c 5 1 (bytesL key), .row p.O ns.length p.lc 32 32 (digsL (lvN ns)), .obj p.Mn (mpO sV lsV p.nm), .obj p.Ma (mpO kInt sV p.am)]
theorem MapsOf.ksO {ns : List NoteN} {nm : List (List UInt8 × (NoteN × Nat × Dig))} {am : List (Nat × List UInt8)} (h : MapsOf ns nm am) : ∀ p ∈ nm, KeyOk Tryz.prog 9 sV p.1 := fun p hp => sV_ok (h.ks p hp)
theorem MapsOf.ksOA {ns : List NoteN} {nm : List (List UInt8 × (NoteN × Nat × Dig))} {am : List (Nat × List UInt8)} (h : MapsOf ns nm am) : ∀ p ∈ am, KeyOk Tryz.prog 3 kInt p.1 := fun p hp => kInt_ok (by have := (h.ksA p hp).1; omega)
section
variable {ops : Array Oper} {rest : List Oper} {o : Oper} {a : Act} {W : World} {Q : Exit → Act → World → Prop} {d : Option Tmp}
theorem L_buildLg (hd : o.dst = d) (hw : Region.wanted o (yielded ops a.tmps) = true) {x y z : Operand} (ho : o.op = .build 80 #[(0, x), (2, y), (3, z)]) {A : Option Addr} {m c u v : Nat} (hx : a.eval x = .slice A m c) (hy : a.eval y = .map (some u)) (hz : a.eval z = .map (some v))
  (h : wpList Tryz.prog ops Q rest (a.put d (.agg (lgArr A m c none 0 0 u v))) W) : wpList Tryz.prog ops Q (o :: rest) a W :=
 L_buildT hd hw ho Tryz.underlying80 el_log_Log [(0, 1), (1, 1), (2, 1), (3, 1)] (by kernel_rfl) (ps := [(0, .slice A m c), (2, .map (some u)), (3, .map (some v))]) (by simp [hx, hy, hz]) (qs := [(0, [.slice A m c]), (2, [.map (some u)]), (3, [.map (some v)])])
  ⟨rfl, rfl, by simp, rfl, rfl, by simp, rfl, rfl, by simp, trivial⟩ rfl h
end
set_option maxHeartbeats 1000000 in
theorem lnew_any (key : List UInt8) (K : Option Addr) (m c : Nat) (w : World) (hk : SlR w K m c 1 (bytesL key)) (hm : m ≤ 140737488355000) :
  Calls Tryz.prog 8 #[.slice K m c] w fun e w' => ∃ p : LgP, e = .returned (.pointer (some ⟨p.g, 0, none⟩)) ∧ p.m = m ∧ MapsOf [] p.nm p.am ∧ St w w' (lgL p key []) := by
 have hst := St.refl w
 have HC := Lib.hid (fun (w' : World) (h : SlR w' K m c 1 (bytesL key)) => cloneB_any key K m c w' h (by omega))
 go_enter Tryz.func8, Tryz.ntmps8
 go_upto_region 1 with (go_big_may; fail)
 go_wp2_with (first | (go_at_call 30; (try clear hnew); refine (HC.out _ (hst.old (by decide) hk)).mono ?_; rintro e Wc ⟨O, oc, rfl, hnew⟩; replace hst := hst.trans hnew; simp only [List.cons_append, List.nil_append] at hst) | (refine L_makeMap sV lsV (d := some 5) rfl rfl rfl ?_; (try clear hnew); intro Mn W5 hnew; replace hst := hst.trans hnew; simp only [List.cons_append, List.nil_append] at hst) | (refine L_makeMap kInt sV (d := some 6) rfl rfl rfl ?_; (try clear hnew); intro Ma W6 hnew; replace hst := hst.trans hnew; simp only [List.cons_append, List.nil_append] at hst) | (refine L_buildLg (d := some 7) rfl rfl rfl (ev_tmp rfl) (ev_tmp rfl) (ev_tmp rfl) ?_) | (refine L_boxA (d := some 8) rfl rfl rfl (ev_tmp rfl) ?_; (try clear hnew); intro g8 W8 hnew; replace hst := hst.trans hnew; simp only [List.cons_append, List.nil_append] at hst))
 go_ret
 exact ⟨⟨g8, m, oc, 0, Mn, Ma, O, none, [], []⟩, rfl, rfl, MapsOf.nil, (hst.nilRow 32 32).pick [1, 4, 0, 3, 2] (by decide)⟩
end Go.Proofs.YtaebeemnipafbaaGreatDoor

set_option maxRecDepth 20000
set_option linter.unusedSimpArgs false
set_option linter.unusedVariables false
namespace Go.Proofs.YtaebeemnipafbaaGreatDoor
open Go.RowKit
def fL (nm : List (List UInt8 × (NoteN × Nat × Dig))) (s : List UInt8) : Dig := ((lookA s nm).map fun x => x.2.2).getD zeroD
def enN (nm : List (List UInt8 × (NoteN × Nat × Dig))) (am : List (Nat × List UInt8)) (i : Nat) : Nat × Dig := match am[i]? with | some p => (p.1, fL nm p.2) | none => (0, zeroD)
theorem enN_all (nm : List (List UInt8 × (NoteN × Nat × Dig))) (am : List (Nat × List UInt8)) : (List.range am.length).map (enN nm am) = am.map fun p => (p.1, fL nm p.2) := by
 apply List.ext_getElem?
 intro i
 rw [List.getElem?_map, List.getElem?_map]
 by_cases h : i < am.length
 ·rw [List.getElem?_range h, List.getElem?_eq_getElem h]
  simp [enN, h]
 ·rw [List.getElem?_eq_none (by simpa using h), List.getElem?_eq_none (by omega)]
  rfl
theorem ent_snoc (es : List (Nat × Dig)) (k : Nat) (d : Dig) : entL es ++ (prArr (k : Int) d).toList = entL (es ++ [(k, d)]) := by
 rw [entL_app]
 congr 1
 rw [entL, entI, List.map_cons, List.map_nil, pairsL_one]
attribute [local simp] prArr_size
set_option maxHeartbeats 8000000 in
set_option maxRecDepth 100000 in
theorem entries_any (key : List UInt8) (ns : List NoteN) (p : LgP) (w0 w : World) (L : List Res) (hst : St w0 w (lgL p key ns ++ L)) (hm : MapsOf ns p.nm p.am) (hl : Logged ns) :
  Calls Tryz.prog 40 #[.pointer (some ⟨p.g, 0, none⟩)] w fun e w' => ∃ (es : List (Nat × Dig)) (O : Option Addr) (oc : Nat), e = .returned (.slice O es.length oc) ∧ es.length ≤ 64 ∧ (∀ e ∈ es, e.1 < 4294967296) ∧ (es.map (·.1)).Nodup ∧ leafAt es = lgF ns ∧
   St w0 w' (.row O es.length oc 110 33 (entL es) :: (lgL p key ns ++ L)) := by
 have HO := Lib.hid hm.ksO
 have HD := Lib.hid hm.nd
 have HM := Lib.hid hm
 have HLg := Lib.hid hl
 have hlen : p.am.length ≤ 64 := by rw [hm.lenA, hm.len]; exact hl.names
 have HAt := Lib.hid (fun (i : Nat) (q : Nat × List UInt8) (h : p.am[i]? = some q) => show ∃ x, lookA q.2 p.nm = some x ∧ enN p.nm p.am i = (q.1, x.2.2) ∧ KeyOk Tryz.prog 9 sV q.2 from by
  have hmem := List.mem_of_getElem? h
  obtain ⟨x, hx⟩ := hm.total (k := q.1) (s := q.2) hmem
  exact ⟨x, hx, by unfold enN fL; rw [h]; simp only [hx]; rfl, sV_ok (hm.ksA q hmem).2⟩)
 simp only [lgL, List.cons_append, List.nil_append] at hst
 obtain ⟨g, m, c, lc, Mn, Ma, A, O0, nm, am⟩ := p
 simp only at *
 obtain ⟨n, hn⟩ : ∃ n, n = am.length := ⟨_, rfl⟩
 have HN := Lib.hid hn
 rw [← hn] at hlen
 clear hm hl hn
 go_enter Tryz.func40, Tryz.ntmps40
 go_upto_region 1 with (go_big_may; fail)
 go_upto_region 2 with (go_big_may; fail)
 go_wp2_with (first | (refine L_load1 (d := some 9) rfl rfl rfl (by rfl) Tryz.underlying78 rfl (cell_of (hst.get 0 rfl) lgArr_3) ?_) | (refine L_range (fk := kInt) (fv := sV) (l := am) (d := some 10) rfl rfl rfl Tryz.underlying78 (ev_tmp rfl) (hst.obj 4 rfl) ?_; intro r W10 hnew; replace hst := hst.trans hnew; simp only [List.cons_append, List.nil_append] at hst))
 (try simp only [Act.put, List.setIfInBounds_toArray, List.set_cons_succ, List.set_cons_zero])
 rw [← HN.out] at hst
 clear hnew
 have hst := hst.nilRow 110 33
 go_loopg [3] n (fun gk s3 wr => ∃ (dn : List Nat) (O : Option Addr) (k oc : Nat), Hid (dn.length + gk = n ∧ dn.Nodup ∧ (∀ i ∈ dn, i < n) ∧ k = dn.length) ∧ s3 = .slice O k oc ∧
  St w0 wr (.row O k oc 110 33 (entL (dn.map (enN nm am))) :: .obj r (.mapIter (some Ma) n dn.toArray n) :: .blk g 80 (lgArr A m c O0 ns.length lc Mn Ma) :: .row A m c 5 1 (bytesL key) :: .row O0 ns.length lc 32 32 (digsL (lvN ns)) :: .obj Mn (mpO sV lsV nm) :: .obj Ma (mpO kInt sV am) :: L))
 case atStart => exact ⟨[], none, 0, 0, Lib.hid ⟨by simp, List.nodup_nil, by simp, rfl⟩, rfl, hst⟩
 case round =>
  clear hst
  obtain ⟨dn, O, k, oc, HG, rfl, hst⟩ := hrel
  go_wp2_with ((refine L_next (fk := kInt) (fv := sV) (l := am) (d := some 11) rfl rfl hst rfl (ev_tmp rfl) HN.out (Nat.le_refl _) (hst.obj 6 rfl) 1 rfl ?_ ?_))
  ·intro hall
   go_wp2_with fail
   go_ret
   obtain ⟨g1, g2, g3, rfl⟩ := HG.out
   have hn := HN.out
   have hp := range_perm g2 g3 hall
   have hpm : (dn.map (enN nm am)).Perm (am.map fun p => (p.1, fL nm p.2)) := by
    rw [← enN_all, ← hn]
    exact hp.map _
   have hM := HM.out
   have hnd : ((am.map fun p => (p.1, fL nm p.2)).map (·.1)).Nodup := by
    rw [List.map_map]
    exact hM.ndA
   have hlen2 : (dn.map (enN nm am)).length = dn.length := by simp
   refine ⟨dn.map (enN nm am), O, oc, by rw [hlen2]; rfl, by rw [hpm.length_eq, List.length_map, ← hn]; exact hlen, ?_, ((hpm.map _).nodup_iff).2 hnd, ?_, ?_⟩
   ·intro e he
    obtain ⟨q, hq, rfl⟩ := List.mem_map.1 (hpm.mem_iff.1 he)
    exact (hM.ksA q hq).1
   ·funext k
    rw [leafAt_perm (((hpm.map _).nodup_iff).2 hnd) hpm]
    exact hM.entries HLg.out (fL nm) (fun q _ x hx => by unfold fL; rw [hx]; rfl) k
   ·simp only [lgL, List.cons_append, List.nil_append]
    rw [hlen2]
    exact hst.drop ((List.sublist_cons_self _ _).cons_cons _)
  ·intro i q W11 hq hi hst'
   clear hst
   have hst := hst'
   clear hst'
   simp only [List.set_cons_zero, List.set_cons_succ] at hst
   obtain ⟨x, hx, he, hko⟩ := HAt.out i q hq
   obtain ⟨k1, s1⟩ := q
   obtain ⟨⟨a1, a2, a3⟩, a4, a5⟩ := x
   simp only at hx he hko
   have HX := Lib.hid hx
   have HK := Lib.hid hko
   have HQ := Lib.hid hq
   have HIn := Lib.hid hi
   have HSn := Lib.hid (show entL (dn.map (enN nm am)) ++ (prArr (k1 : Int) a5).toList = entL ((dn ++ [i]).map (enN nm am)) by
    rw [ent_snoc, List.map_append, List.map_singleton, he])
   have hk64 : k ≤ 64 := by
    obtain ⟨g1, g2, g3, g4⟩ := HG.out
    omega
   clear hx hko hq he hi
   generalize entL (dn.map (enN nm am)) = e0 at *
   go_wp2_with (first | (refine L_entry (fk := kInt) (fv := sV) (l := am) (i := i) (d := some 13) rfl rfl rfl (ev_tmp rfl) HN.out (hst.obj 6 rfl) (hst.obj 1 rfl) HQ.out ?_) | (refine L_look1s (fk := sV) (fv := lsV) (y := s1) (l := nm) (d := some 23) rfl rfl rfl keyed_str Tryz.underlying77 el_log_last (ev_tmp rfl) (ev_tmp rfl) sV_inj HO.out HD.out HK.out (hst.obj 5 rfl) HX.out ?_) | (refine L_fieldD (d := some 24) rfl rfl rfl Tryz.underlying85 rfl (ev_tmp rfl) Tryz.underlying32 el_api_Digest lsArr_leaf ?_) | (refine L_buildE (d := some 25) rfl rfl rfl (ev_tmp rfl) (ev_tmp rfl) ?_) | (refine L_load1 (d := some 21) rfl rfl rfl (by rfl) Tryz.underlying77 rfl (by (exact cell_of (hst.get 2 rfl) lgArr_2)) ?_) | (refine L_buildS (d := some 26) rfl rfl rfl [_] (bs_1 (ev_tmp rfl)) rfl Tryz.underlying93 el_api_Entry rfl (by (simp [Value.cells]; done)) (by decide) (by decide) ?_; (try clear hnew); intro g26 W26 hnew; replace hst := hst.trans hnew; simp only [List.cons_append, List.nil_append] at hst; simp only [List.flatMap_cons, List.flatMap_nil, List.append_nil, Value.cells, List.toList_toArray] at hst) | (refine L_appendO (d := some 27) rfl rfl hst rfl (by rfl) (by rfl) Tryz.underlying93 el_api_Entry rfl (by decide) (by decide) 1 rfl (by (rfl)) (by (exact hst.sl 0 rfl)) (by (exact prArr_one _ _)) (by omega) ?_; clear hst; intro A27 c27 W27 hst; simp only [List.set_cons_zero, List.set_cons_succ, List.nil_append, Nat.zero_add] at hst))
   have hG2 : (dn ++ [i]).length + (gk - 1) = n ∧ (dn ++ [i]).Nodup ∧ (∀ j ∈ dn ++ [i], j < n) ∧ k + 1 = (dn ++ [i]).length ∧ 0 < gk := by
    obtain ⟨g1, g2, g3, g4⟩ := HG.out
    have hin : i < n := by rw [HN.out]; exact (List.getElem?_eq_some_iff.1 HQ.out).1
    have hnd : (dn ++ [i]).Nodup := by
     rw [List.nodup_append]
     refine ⟨g2, by simp, fun a ha b hb => ?_⟩
     rw [List.mem_singleton.1 hb]
     intro e
     exact HIn.out (e ▸ ha)
    have hlt : ∀ j ∈ dn ++ [i], j < n := fun j hj => by
     rcases List.mem_append.1 hj with hj | hj
     ·exact g3 j hj
     ·rw [List.mem_singleton.1 hj]; exact hin
    have hle := nodup_le n _ hnd hlt
    rw [List.length_append, List.length_singleton] at hle
    refine ⟨?_, hnd, hlt, ?_, ?_⟩
    ·rw [List.length_append, List.length_singleton]; omega
    ·rw [List.length_append, List.length_singleton]; omega
    ·omega
   obtain ⟨q1, q2, q3, q4, q5⟩ := hG2
   go_roundg (gk - 1)
   case measure => omega
   case rel =>
    refine ⟨dn ++ [i], A27, k + 1, c27, Lib.hid ⟨q1, q2, q3, q4⟩, rfl, ?_⟩
    rw [← HSn.out]
    exact hst.tail
end Go.Proofs.YtaebeemnipafbaaGreatDoor

set_option maxRecDepth 20000
set_option linter.unusedSimpArgs false
set_option linter.unusedVariables false
namespace Go.Proofs.YtaebeemnipafbaaGreatDoor
open Go.RowKit Go.Shelf
theorem nodup_perm {ss es : List (Nat × Dig)} (hs : ss.Pairwise fun a b => a.1 < b.1) (hp : ss.Perm es) : leafAt ss = leafAt es := by
 funext k
 exact leafAt_perm (pw_nodup hs) hp k
theorem troot32 (es ss : List (Nat × Dig)) (O : Option Addr) (n oc : Nat) (w' : World) (ht : Tb w') (h : SlR w' O n oc 33 (entL ss)) (hs : ss.Pairwise fun a b => a.1 < b.1) (hp : ss.Perm es) (hk : ∀ e ∈ es, e.1 < 4294967296) :
  Calls Tryz.prog 85 #[.slice O n oc, .int .i64 32] w' fun e w'' => e = .returned (mRoot (leafAt es) 32 0).v ∧ St w' w'' [] := by
 obtain ⟨b, hb⟩ : ∃ b : Nat, b = 32 := ⟨_, rfl⟩
 have hbi : (32 : Int) = ((b : Nat) : Int) := by rw [hb]; rfl
 have h1 := troot_any b ss O n oc 0 w' ht h (by omega) hs (fun e he => ⟨by omega, by
  have := hk e (hp.mem_iff.1 he)
  have e2 : 2 ^ b = 4294967296 := by rw [hb]
  omega⟩) (by
  have e2 : 2 ^ b = 4294967296 := by rw [hb]
  omega)
 rw [nodup_perm hs hp, Nat.zero_mul] at h1
 rw [hbi, ← hb]
 exact h1
set_option maxHeartbeats 1000000 in
theorem tRootM_any (es : List (Nat × Dig)) (A : Option Addr) (n c : Nat) (w : World) (hT : Tb w) (hx : SlR w A n c 33 (entL es)) (hn : n ≤ 64) (hk : ∀ e ∈ es, e.1 < 4294967296) (hd : (es.map (·.1)).Nodup) :
  Calls Tryz.prog 39 #[.slice A n c] w fun e w' => e = .returned (.tuple #[(mRoot (leafAt es) 32 0).v, .nilIface]) ∧ St w w' [] := by
 have hst := St.refl w
 have HT := Lib.hid hT
 have HS := Lib.hid (fun (w' : World) (h : SlR w' A n c 33 (entL es)) => tsorted_any es A n c w' h hn hk hd)
 have HR := Lib.hid (fun (ss : List (Nat × Dig)) (O : Option Addr) (oc : Nat) (w' : World) (ht : Tb w') (hs : ss.Pairwise fun a b => a.1 < b.1) (hp : ss.Perm es) (h : SlR w' O n oc 33 (entL ss)) =>
  troot32 es ss O n oc w' ht h hs hp hk)
 generalize mRoot (leafAt es) 32 0 = r at *
 clear hT hk hd
 go_enter Tryz.func39, Tryz.ntmps39
 go_upto_region 1 with (go_big_may; (refine L_allocA (d := some 2) rfl rfl rfl el_api_Digest ?_; (try clear hnew); intro g2 W2 hnew; replace hst := hst.trans hnew; simp only [List.cons_append, List.nil_append] at hst))
 go_upto_region 2 with (go_big_may; (go_at_call 84; (try clear hnew); refine (HS.out _ (hst.old (by decide) hx)).mono ?_; rintro e Ws ⟨ss, O, oc, rfl, hs, hp, hnew⟩; have HSP := Lib.hid (And.intro hs hp); clear hs hp; replace hst := hst.trans hnew; simp only [List.cons_append, List.nil_append] at hst))
 go_upto_region 4 with (go_big_may; fail)
 go_wp2_with (first | (go_at_call 85; (try clear hnew); refine (HR.out ss _ _ _ (HT.out.of hst) HSP.out.1 HSP.out.2 (hst.sl 0 rfl)).mono ?_; rintro e Wr ⟨rfl, hnew⟩; replace hst := hst.keep hnew) | (refine wpl_at (.store 32 (.tmp 2) (.tmp 16)) rfl ?_; (refine L_storeA rfl rfl hst rfl (by rfl) (ev_tmp rfl) (by (exact Dig.one _)) el_api_Digest (by (exact Dig.size _)) 1 rfl (by (rfl)) ?_; clear hst; intro WS2 hst; simp only [List.set_cons_zero, List.set_cons_succ] at hst)))
 refine bp_cell_tmp rfl rfl rfl rfl (hst.get 1 rfl) Tryz.underlying32 rfl el_api_Digest (by (exact Dig.size _)) ?_
 exact ⟨rfl, hst.forget⟩
def pthN (f : Nat → Dig) (k j : Nat) : List Dig := (List.range 32).map fun i => if i < j then zeroD else mRoot f i (sibN i k)
theorem pthN_len (f : Nat → Dig) (k j : Nat) : (pthN f k j).length = 32 := by simp [pthN]
theorem pthN_0 (f : Nat → Dig) (k : Nat) : pthN f k 0 = mPath f k 32 := by simp [pthN, mPath]
theorem pthN_32 (f : Nat → Dig) (k : Nat) : pthN f k 32 = List.replicate 32 zeroD := by
 unfold pthN
 apply List.ext_getElem?
 intro i
 rw [List.getElem?_map]
 by_cases h : i < 32
 ·rw [List.getElem?_range h, List.getElem?_replicate, if_pos h]
  simp [h]
 ·rw [List.getElem?_eq_none (by simpa using h), List.getElem?_eq_none (by simpa using h)]; rfl
theorem pthN_set (f : Nat → Dig) (k j : Nat) (h : j < 32) : (pthN f k (j + 1)).set j (mRoot f j (sibN j k)) = pthN f k j := by
 apply List.ext_getElem?
 intro i
 rw [List.getElem?_set]
 unfold pthN
 by_cases hi : i < 32
 ·by_cases hj : j = i
  ·subst hj
   simp [h]
  ·rw [if_neg hj, List.getElem?_map, List.getElem?_map, List.getElem?_range hi]
   simp only [Option.map_some]
   congr 1
   by_cases h1 : i < j
   ·rw [if_pos (by omega), if_pos h1]
   ·rw [if_neg (by omega), if_neg h1]
 ·have : ¬ j = i := by omega
  simp [this, hi]
theorem digsL_putD (ds : List Dig) (j : Nat) (d : Dig) (h : j < ds.length) : (digsL ds).take (j * 32) ++ d.arr.toList ++ (digsL ds).drop (j * 32 + 32) = digsL (ds.set j d) := by
 have e : ds.set j d = ds.take j ++ ([d] ++ ds.drop (j + 1)) := by rw [List.set_eq_take_append_cons_drop, if_pos h]; rfl
 have h1 := digsL_cut ds 0 j
 have h2 := digsL_cut ds (j + 1) (ds.length - (j + 1))
 rw [Nat.zero_mul, List.drop_zero, List.drop_zero] at h1
 rw [show j * 32 + 32 = (j + 1) * 32 by omega, h1, e]
 have h3 : (digsL ds).drop ((j + 1) * 32) = digsL (ds.drop (j + 1)) := by
  rw [List.take_of_length_le (by rw [List.length_drop, length_digsL, ← Nat.sub_mul]; exact Nat.le_refl _), List.take_of_length_le (by rw [List.length_drop]; exact Nat.le_refl _)] at h2
  exact h2
 rw [h3]
 simp [digsL, Dig.toList]
theorem under_step {es : List (Nat × Dig)} {b q k : Nat} {f : Nat → Dig} (hs : es.Pairwise fun x y => x.1 < y.1) (hr : ∀ e ∈ es, q * 2 ^ (b + 1) ≤ e.1 ∧ e.1 < q * 2 ^ (b + 1) + 2 ^ (b + 1)) (hq : q = k / 2 ^ (b + 1))
  (hf : ∀ x, q * 2 ^ (b + 1) ≤ x → x < q * 2 ^ (b + 1) + 2 ^ (b + 1) → leafAt es x = f x) :
  ∀ own oth : List (Nat × Dig), (own, oth) = (if k / 2 ^ b % 2 = 1 then (es.drop (cutI b es), es.take (cutI b es)) else (es.take (cutI b es), es.drop (cutI b es))) →
  (own.Pairwise fun x y => x.1 < y.1) ∧ (∀ e ∈ own, k / 2 ^ b * 2 ^ b ≤ e.1 ∧ e.1 < k / 2 ^ b * 2 ^ b + 2 ^ b) ∧ (∀ x, k / 2 ^ b * 2 ^ b ≤ x → x < k / 2 ^ b * 2 ^ b + 2 ^ b → leafAt own x = f x) ∧
  (oth.Pairwise fun x y => x.1 < y.1) ∧ (∀ e ∈ oth, sibN b k ≤ e.1 ∧ e.1 < sibN b k + 2 ^ b) ∧ (∀ x, sibN b k ≤ x → x < sibN b k + 2 ^ b → leafAt oth x = f x) := by
 have hcut := cutI_mid hr
 have hlow : es.take (cutI b es) = es.filter fun e => decide (e.1 < q * 2 ^ (b + 1) + 2 ^ b) := by rw [hcut]; exact cut_low es _ hs
 have hhigh : es.drop (cutI b es) = es.filter fun e => decide (q * 2 ^ (b + 1) + 2 ^ b ≤ e.1) := by rw [hcut]; exact cut_high es _ hs
 have e1 : 2 ^ (b + 1) = 2 ^ b + 2 ^ b := by rw [Nat.pow_succ]; omega
 have hp := Nat.two_pow_pos b
 have e2 : k / 2 ^ (b + 1) = k / 2 ^ b / 2 := half_step k b
 rw [e2] at hq
 have e3 : q * 2 ^ (b + 1) = 2 * q * 2 ^ b := by rw [Nat.pow_succ, Nat.mul_comm (2 ^ b) 2, ← Nat.mul_assoc, Nat.mul_comm q 2]
 have e4 : (2 * q + 1) * 2 ^ b = 2 * q * 2 ^ b + 2 ^ b := by rw [Nat.add_mul, Nat.one_mul]
 have pl : (es.take (cutI b es)).Pairwise fun x y => x.1 < y.1 := hs.sublist (List.take_sublist _ _)
 have ph : (es.drop (cutI b es)).Pairwise fun x y => x.1 < y.1 := hs.sublist (List.drop_sublist _ _)
 have rl : ∀ e ∈ es.take (cutI b es), 2 * q * 2 ^ b ≤ e.1 ∧ e.1 < 2 * q * 2 ^ b + 2 ^ b := fun e he => by
  have h1 := hr e ((List.take_sublist _ _).subset he)
  rw [hlow] at he
  have h2 := of_decide_eq_true (List.mem_filter.1 he).2
  omega
 have rh : ∀ e ∈ es.drop (cutI b es), (2 * q + 1) * 2 ^ b ≤ e.1 ∧ e.1 < (2 * q + 1) * 2 ^ b + 2 ^ b := fun e he => by
  have h1 := hr e ((List.drop_sublist _ _).subset he)
  rw [hhigh] at he
  have h2 := of_decide_eq_true (List.mem_filter.1 he).2
  omega
 have fl : ∀ x, 2 * q * 2 ^ b ≤ x → x < 2 * q * 2 ^ b + 2 ^ b → leafAt (es.take (cutI b es)) x = f x := fun x h1 h2 => by
  rw [hlow, leafAt_filter es (fun y => decide (y < q * 2 ^ (b + 1) + 2 ^ b)) (decide_eq_true (by omega))]
  exact hf x (by omega) (by omega)
 have fh : ∀ x, (2 * q + 1) * 2 ^ b ≤ x → x < (2 * q + 1) * 2 ^ b + 2 ^ b → leafAt (es.drop (cutI b es)) x = f x := fun x h1 h2 => by
  rw [hhigh, leafAt_filter es (fun y => decide (q * 2 ^ (b + 1) + 2 ^ b ≤ y)) (decide_eq_true (by omega))]
  exact hf x (by omega) (by omega)
 intro own oth ho
 unfold sibN
 by_cases hb : k / 2 ^ b % 2 = 1
 ·rw [if_pos hb] at ho ⊢
  obtain ⟨rfl, rfl⟩ := Prod.mk.inj ho
  have hk : k / 2 ^ b = 2 * q + 1 := by omega
  rw [hk, Nat.add_sub_cancel]
  exact ⟨ph, rh, fh, pl, rl, fl⟩
 ·rw [if_neg hb] at ho ⊢
  obtain ⟨rfl, rfl⟩ := Prod.mk.inj ho
  have hk : k / 2 ^ b = 2 * q := by omega
  rw [hk]
  exact ⟨pl, rl, fl, ph, rh, fh⟩
theorem par_le {k b : Nat} (hk : k < 4294967296) (hb : b ≤ 31) : k / 2 ^ (b + 1) * 2 ^ (b + 1) + 2 ^ (b + 1) ≤ 4294967296 := by
 have e : (4294967296 : Nat) = 2 ^ (31 - b) * 2 ^ (b + 1) := by rw [← Nat.pow_add, show 31 - b + (b + 1) = 32 by omega]
 have h1 : k / 2 ^ (b + 1) < 2 ^ (31 - b) := (Nat.div_lt_iff_lt_mul (Nat.two_pow_pos _)).2 (by rw [← e]; exact hk)
 have h2 := Nat.mul_le_mul_right (2 ^ (b + 1)) h1
 rw [Nat.succ_mul, ← e] at h2
 exact h2
theorem sib_form {k b : Nat} (hk : k < 4294967296) (hb : b ≤ 31) : ∃ q, sibN b k = q * 2 ^ b ∧ q * 2 ^ b + 2 ^ b ≤ 4294967296 := by
 have h := par_le hk hb
 have hp := Nat.two_pow_pos b
 have e1 : 2 ^ (b + 1) = 2 ^ b + 2 ^ b := by rw [Nat.pow_succ]; omega
 have e2 : k / 2 ^ (b + 1) = k / 2 ^ b / 2 := half_step k b
 have e3 : k / 2 ^ (b + 1) * 2 ^ (b + 1) = 2 * (k / 2 ^ (b + 1)) * 2 ^ b := by rw [Nat.pow_succ, Nat.mul_comm (2 ^ b) 2, ← Nat.mul_assoc, Nat.mul_comm (k / (2 * 2 ^ b)) 2]
 unfold sibN
 by_cases hb1 : k / 2 ^ b % 2 = 1
 ·rw [if_pos hb1]
  refine ⟨_, rfl, ?_⟩
  have : k / 2 ^ b - 1 = 2 * (k / 2 ^ (b + 1)) := by omega
  rw [this]
  omega
 ·rw [if_neg hb1]
  refine ⟨_, rfl, ?_⟩
  have : k / 2 ^ b + 1 = 2 * (k / 2 ^ (b + 1)) + 1 := by omega
  rw [this, Nat.add_mul, Nat.one_mul]
  omega
section
variable {P : Program} {ops : Array Oper} {rest : List Oper} {o : Oper} {a : Act} {W : World} {Q : Exit → Act → World → Prop} {d : Option Tmp}
theorem zero_cells : ∀ v ∈ zeroD.arr.toList, v = .int .u8 0 := by
 intro v hv
 rw [Dig.toList] at hv
 obtain ⟨b, hb, rfl⟩ := List.mem_map.1 hv
 rw [show b = 0 from List.eq_of_mem_replicate hb]
 rfl
theorem digs_zero (n : Nat) : digsL (List.replicate n zeroD) = List.replicate (n * 32) (.int .u8 0) := by
 rw [List.eq_replicate_iff]
 refine ⟨by rw [length_digsL, List.length_replicate], fun v hv => ?_⟩
 unfold digsL at hv
 obtain ⟨d, hd, hv⟩ := List.mem_flatMap.1 hv
 rw [List.eq_of_mem_replicate hd, ← Dig.toList] at hv
 exact zero_cells v hv
theorem L_makeD (hd : o.dst = d) (hw : Region.wanted o (yielded ops a.tmps) = true) {T : TypeId} {x y : Operand} (ho : o.op = .makeSlice T x y) {n : Nat} (hx : a.eval x = .int .i64 (n : Int)) (hy : a.eval y = .int .i64 (n : Int))
  {e : TypeId} (hu : P.underlying T = some (.slice e)) {b : Nat} (he : ElemIs P e (.agg zeroD.arr) 32 b) (hb : n * b ≤ 281474976710656) (hn : n ≤ maxLen)
  (h : ∀ (g : Option Addr) (W' : World), St W W' [.row g n n e 32 (digsL (List.replicate n zeroD))] → wpList P ops Q rest (a.put d (.slice g n n)) W') : wpList P ops Q (o :: rest) a W := by
 obtain ⟨i, hi, hiz, his, hib⟩ := he.parts
 have hn' : (n : Int) ≤ 9223372036854775807 := by simp only [maxLen] at hn; omega
 have hr := run_make (P := P) W T e i (.agg zeroD.arr) hu hi hiz .i64 .i64 n n (by omega) (Int.le_refl _) (by rw [hib, Int.mul_comm]; omega) hn'
 simp only [Int.toNat_natCast] at hr
 have hsz := size_madeCells (Value.agg zeroD.arr).cells (n * i.size)
 have hcells : (madeCells (Value.agg zeroD.arr).cells (n * i.size)).toList = digsL (List.replicate n zeroD) := by
  rw [digs_zero, List.eq_replicate_iff]
  refine ⟨by rw [Array.length_toList, hsz, his], fun v hv => ?_⟩
  rw [Array.mem_toList_iff] at hv
  unfold madeCells at hv
  simp only [Value.cells] at hv
  obtain ⟨j, hj, rfl⟩ := Array.mem_map.1 hv
  have hlt : j % zeroD.arr.size < zeroD.arr.size := Nat.mod_lt _ (by rw [Dig.size]; decide)
  have h5 : zeroD.arr[j % zeroD.arr.size]! = zeroD.arr[j % zeroD.arr.size]'hlt := getElem!_pos zeroD.arr _ hlt
  rw [h5]
  exact zero_cells _ (Array.mem_toList_iff.2 (Array.getElem_mem hlt))
 have hrow := St.newRow (W := W) e (n := n) (s := 32) (cs := madeCells (Value.agg zeroD.arr).cells (n * i.size)) (by rw [hsz, his]) hn
 rw [hcells] at hrow
 refine L_val hd hw ?_ (h _ _ hrow)
 unfold execOp
 simp only [ho, hx, hy]
 simp [hr]
end
attribute [local simp] prArr_size
set_option maxHeartbeats 8000000 in
set_option maxRecDepth 100000 in
theorem tPathM_any (es : List (Nat × Dig)) (A : Option Addr) (n c k : Nat) (w : World) (hT : Tb w) (hx : SlR w A n c 33 (entL es)) (hn : n ≤ 64) (hk : ∀ e ∈ es, e.1 < 4294967296) (hd : (es.map (·.1)).Nodup) (hk2 : k < 4294967296) :
  Calls Tryz.prog 46 #[.slice A n c, .int .i64 (k : Int)] w fun e w' => ∃ O oc, e = .returned (.tuple #[.slice O 32 oc, .nilIface]) ∧ St w w' [.row O 32 oc 32 32 (digsL (mPath (leafAt es) k 32))] := by
 have hst := St.refl w
 have HT := Lib.hid hT
 have HS := Lib.hid (fun (w' : World) (h : SlR w' A n c 33 (entL es)) => tsorted_any es A n c w' h hn hk hd)
 have HK := Lib.hid (fun w : World => by have h := tkey_any (k : Int) w; rw [decide_eq_true (show 0 ≤ (k : Int) ∧ (k : Int) < 4294967296 by omega)] at h; exact h)
 have HE := Lib.hid (fun (ss : List (Nat × Dig)) (hs : ss.Pairwise fun a b => a.1 < b.1) (hp : ss.Perm es) => nodup_perm hs hp)
 have HB := Lib.hid (fun (ss : List (Nat × Dig)) (hp : ss.Perm es) (e : Nat × Dig) (he : e ∈ ss) => hk e (hp.mem_iff.1 he))
 generalize hf : leafAt es = f at *
 have Hk2 := Lib.hid hk2
 have hZ := Lib.hid (show digsL (List.replicate 32 zeroD) = digsL (pthN f k 32) from by rw [pthN_32])
 have h0Z := Lib.hid (pthN_0 f k)
 clear hT hk hd hf hk2
 go_enter Tryz.func46, Tryz.ntmps46
 go_upto_region 1 with (go_big_may; fail)
 go_upto_region 2 with (go_big_may; (go_at_call 84; (try clear hnew); refine (HS.out _ (hst.old (by decide) hx)).mono ?_; rintro e Ws ⟨ss, O, oc, rfl, hs, hp, hnew⟩; have HSP := Lib.hid (And.intro hs hp); clear hs hp; replace hst := hst.trans hnew; simp only [List.cons_append, List.nil_append] at hst))
 go_upto_region 4 with (go_big_may; fail)
 go_upto_region 6 with (go_big_may; (go_at_call 89; (try clear hnew); refine (HK.out _).mono ?_; rintro e Wk1 ⟨rfl, hnew⟩; replace hst := hst.keep hnew))
 (try clear hnew)
 go_upto_region 7 with (go_big_may; (refine L_makeD (d := some 24) (n := 32) rfl rfl rfl (by rfl) (by rfl) Tryz.underlying44 el_api_Digest (by decide) (by decide) ?_; intro Pp W24 hnew; replace hst := hst.trans hnew; simp only [List.cons_append, List.nil_append] at hst; rw [hZ.out] at hst))
 go_upto_region 8 with (go_big_may; fail)
 (try clear hnew)
 go_loopg [6, 9] 32 (fun gk s6 s9 wr => ∃ (own : List (Nat × Dig)) (A' : Option Addr) (n' c' : Nat), Hid (gk ≤ 32 ∧ (own.Pairwise fun x y => x.1 < y.1) ∧ (∀ e ∈ own, k / 2 ^ gk * 2 ^ gk ≤ e.1 ∧ e.1 < k / 2 ^ gk * 2 ^ gk + 2 ^ gk) ∧ (∀ x, k / 2 ^ gk * 2 ^ gk ≤ x → x < k / 2 ^ gk * 2 ^ gk + 2 ^ gk → leafAt own x = f x)) ∧
  Hid (∀ V, SlR V O n oc 33 (entL ss) → SlR V A' n' c' 33 (entL own)) ∧ s9 = .int .i64 ((gk : Int) - 1) ∧ s6 = .slice A' n' c' ∧ St w wr [.row Pp 32 32 32 32 (digsL (pthN f k gk)), .row O n oc 110 33 (entL ss)])
 case atStart =>
  refine ⟨ss, O, n, oc, Lib.hid ⟨Nat.le_refl _, HSP.out.1, ?_, ?_⟩, Lib.hid (fun V h => h), rfl, rfl, hst⟩
  ·intro e he
   have := HB.out ss HSP.out.2 e he
   have hk := Hk2.out
   rw [Nat.div_eq_of_lt (by omega)]
   omega
  ·intro x _ _
   rw [HE.out ss HSP.out.1 HSP.out.2]
 case round =>
  clear hst
  obtain ⟨es', A', n', c', HG, HO, rfl, rfl, hst⟩ := hrel
  cases gk with
  | zero =>
   rw [h0Z.out] at hst
   go_wp2_with (fail)
   go_ret2
   exact ⟨Pp, 32, rfl, hst.pick [0] (by decide)⟩
  | succ b =>
   obtain ⟨hb32, g1, g2, g3⟩ := HG.out
   have hk := Hk2.out
   have hb31 : b ≤ 31 := by omega
   have e1 : ((b + 1 : Nat) : Int) - 1 = (b : Int) := by omega
   rw [e1]
   have hus := under_step (b := b) (k := k) g1 g2 rfl g3
   obtain ⟨q, hq1, hq2⟩ := sib_form hk hb31
   have hps := pthN_set f k b (by omega)
   have hds := digsL_putD (pthN f k (b + 1)) b (mRoot f b (sibN b k)) (by rw [pthN_len]; omega)
   rw [hps] at hds
   have HSET := Lib.hid (show List.take (((b : Nat) : Int).toNat * 32) (digsL (pthN f k (b + 1))) ++ (mRoot f b (sibN b k)).arr.toList ++ List.drop (((b : Nat) : Int).toNat * 32 + 32) (digsL (pthN f k (b + 1))) = digsL (pthN f k b) from hds)
   have HH := Lib.hid (fun (w' : World) (h : SlR w' A' n' c' 33 (entL es')) => halves_any es' A' n' c' b w' h hb31 (fun e he => by
    have h1 := g2 e he
    have h2 := par_le hk hb31
    omega))
   have HRT0 := fun (oth : List (Nat × Dig)) (ho1 : oth.Pairwise fun x y => x.1 < y.1) (ho2 : ∀ e ∈ oth, sibN b k ≤ e.1 ∧ e.1 < sibN b k + 2 ^ b) (ho3 : ∀ x, sibN b k ≤ x → x < sibN b k + 2 ^ b → leafAt oth x = f x) (A1 : Option Addr) (n1 c1 : Nat) (w' : World) (ht : Tb w') (h : SlR w' A1 n1 c1 33 (entL oth)) =>
    show Calls Tryz.prog 85 #[.slice A1 n1 c1, .int .i64 (b : Int)] w' fun e w'' => e = .returned (mRoot f b (sibN b k)).v ∧ St w' w'' [] from by
     have h1 := troot_any b oth A1 n1 c1 q w' ht h (by omega) ho1 (fun e he => by rw [← hq1]; exact ho2 e he) hq2
     rw [← hq1, mRoot_congr b (sibN b k) ho3] at h1
     exact h1
   have hq : k / 2 ^ b < 2 ^ 63 := Nat.lt_of_le_of_lt (Nat.div_le_self _ _) (by omega)
   by_cases hb1 : k / 2 ^ b % 2 = 1
   ·obtain ⟨own, hown0⟩ : ∃ own, own = es'.drop (cutI b es') := ⟨_, rfl⟩
    obtain ⟨oth, hoth0⟩ : ∃ oth, oth = es'.take (cutI b es') := ⟨_, rfl⟩
    obtain ⟨u1, u2, u3, u4, u5, u6⟩ := hus own oth (by rw [if_pos hb1, hown0, hoth0])
    have HU := Lib.hid (And.intro u1 (And.intro u2 u3))
    have HRT := Lib.hid (HRT0 oth u4 u5 u6)
    have HB2 := Lib.hid hb1
    rw [← hown0, ← hoth0] at HH
    clear u1 u2 u3 u4 u5 u6 hus HRT0 hb1 hown0 hoth0 g1 g2 g3 hq1 hq2 hps hds e1 HG hk
    generalize mRoot f b (sibN b k) = rt at *
    generalize digsL (pthN f k (b + 1)) = x1 at *
    generalize hx00 : digsL (pthN f k b) = x0 at *
    have HX0 := Lib.hid hx00
    clear hx00
    generalize entL oth = eo at *
    generalize entL es' = e' at *
    go_wp2_with (first | (go_at_call 90; (try clear hnew); refine (HH.out _ (HO.out _ (hst.sl 1 rfl))).mono ?_; rintro e Wh ⟨A1, n1, c1, A2, n2, c2, rfl, hx1, hx2, hnew⟩; have HX1 := Lib.hid hx1; have HX2 := Lib.hid hx2; clear hx1 hx2; replace hst := hst.keep hnew; clear hnew) | (refine L_shrN (d := some 37) rfl rfl rfl (ev_tmp rfl) (ev_tmp rfl) (by omega) ?_) | (refine L_and1 (d := some 38) rfl rfl rfl (ev_tmp rfl) ev_const hq ?_; rw [HB2.out]) | (go_at_call 85; (try clear hnew); refine (HRT.out _ _ _ _ (HT.out.of hst) (HX1.out _ (HO.out _ (hst.sl 1 rfl)))).mono ?_; rintro e Wr ⟨rfl, hnew⟩; replace hst := hst.keep hnew) | ((refine L_idxO (d := some 48) rfl rfl hst rfl (by rfl) (by rfl) Tryz.underlying44 el_api_Digest 0 rfl (by (rfl)) (by omega) (by omega) ?_; intro o48 p48 ha48; ((subst ha48)))) | (refine wpl_at (.store 32 (.tmp 48) (.tmp 47)) rfl ?_; (refine L_storeRM rfl rfl hst rfl (by rfl) (ev_tmp rfl) (by (exact Dig.one _)) el_api_Digest (by (exact Dig.size _)) 0 rfl (by (omega)) ?_; clear hst; intro WS6 hst; simp only [List.set_cons_zero, List.set_cons_succ, HSET.out] at hst)))
    go_roundg b
    case measure => exact Nat.lt_succ_self b
    case rel =>
     refine ⟨own, A2, n2, c2, Lib.hid ⟨by omega, HU.out⟩, Lib.hid (fun V hV => HX2.out V (HO.out V hV)), by go_num, rfl, ?_⟩
     rw [HX0.out]
     exact hst
   ·obtain ⟨own, hown0⟩ : ∃ own, own = es'.take (cutI b es') := ⟨_, rfl⟩
    obtain ⟨oth, hoth0⟩ : ∃ oth, oth = es'.drop (cutI b es') := ⟨_, rfl⟩
    obtain ⟨u1, u2, u3, u4, u5, u6⟩ := hus own oth (by rw [if_neg hb1, hown0, hoth0])
    have HU := Lib.hid (And.intro u1 (And.intro u2 u3))
    have HRT := Lib.hid (HRT0 oth u4 u5 u6)
    have HB2 := Lib.hid (show k / 2 ^ b % 2 = 0 by omega)
    rw [← hown0, ← hoth0] at HH
    clear u1 u2 u3 u4 u5 u6 hus HRT0 hb1 hown0 hoth0 g1 g2 g3 hq1 hq2 hps hds e1 HG hk
    generalize mRoot f b (sibN b k) = rt at *
    generalize digsL (pthN f k (b + 1)) = x1 at *
    generalize hx00 : digsL (pthN f k b) = x0 at *
    have HX0 := Lib.hid hx00
    clear hx00
    generalize entL oth = eo at *
    generalize entL es' = e' at *
    go_wp2_with (first | (go_at_call 90; (try clear hnew); refine (HH.out _ (HO.out _ (hst.sl 1 rfl))).mono ?_; rintro e Wh ⟨A1, n1, c1, A2, n2, c2, rfl, hx1, hx2, hnew⟩; have HX1 := Lib.hid hx1; have HX2 := Lib.hid hx2; clear hx1 hx2; replace hst := hst.keep hnew; clear hnew) | (refine L_shrN (d := some 37) rfl rfl rfl (ev_tmp rfl) (ev_tmp rfl) (by omega) ?_) | (refine L_and1 (d := some 38) rfl rfl rfl (ev_tmp rfl) ev_const hq ?_; rw [HB2.out]) | (go_at_call 85; (try clear hnew); refine (HRT.out _ _ _ _ (HT.out.of hst) (HX2.out _ (HO.out _ (hst.sl 1 rfl)))).mono ?_; rintro e Wr ⟨rfl, hnew⟩; replace hst := hst.keep hnew) | ((refine L_idxO (d := some 48) rfl rfl hst rfl (by rfl) (by rfl) Tryz.underlying44 el_api_Digest 0 rfl (by (rfl)) (by omega) (by omega) ?_; intro o48 p48 ha48; ((subst ha48)))) | (refine wpl_at (.store 32 (.tmp 48) (.tmp 47)) rfl ?_; (refine L_storeRM rfl rfl hst rfl (by rfl) (ev_tmp rfl) (by (exact Dig.one _)) el_api_Digest (by (exact Dig.size _)) 0 rfl (by (omega)) ?_; clear hst; intro WS6 hst; simp only [List.set_cons_zero, List.set_cons_succ, HSET.out] at hst)))
    go_roundg b
    case measure => exact Nat.lt_succ_self b
    case rel =>
     refine ⟨own, A1, n1, c1, Lib.hid ⟨by omega, HU.out⟩, Lib.hid (fun V hV => HX1.out V (HO.out V hV)), by go_num, rfl, ?_⟩
     rw [HX0.out]
     exact hst
end Go.Proofs.YtaebeemnipafbaaGreatDoor

set_option maxRecDepth 20000
set_option linter.unusedSimpArgs false
set_option linter.unusedVariables false
namespace Go.Proofs.YtaebeemnipafbaaGreatDoor
open Go.RowKit
theorem St.oldR {w0 W : World} {L : List Res} {b o : Nat} {xs : List Value} (h : St w0 W L) (hr : w0.rangeAt b o xs) (hx : xs ≠ []) : W.rangeAt b o xs := rangeAt_of_block hr (h.below.block b (rangeAt_lt hr hx))
theorem hdArr_ne (n : Int) (x y z : Dig) : (hdArr n x y z).toList ≠ [] := by rw [hdArr_list]; exact List.cons_ne_nil _ _
def pinArr (A : Option Addr) (m c : Nat) (n : Int) (x y z : Dig) : Array Value := (.slice A m c :: (hdArr n x y z).toList).toArray
theorem pinArr_size (A : Option Addr) (m c : Nat) (n : Int) (x y z : Dig) : (pinArr A m c n x y z).size = 98 := by simp [pinArr, hdArr_size]
theorem pinArr_list (A : Option Addr) (m c : Nat) (n : Int) (x y z : Dig) : (pinArr A m c n x y z).toList = .slice A m c :: (hdArr n x y z).toList := rfl
theorem pinArr_0 {A : Option Addr} {m c : Nat} {n : Int} {x y z : Dig} : (pinArr A m c n x y z)[0]? = some (.slice A m c) := rfl
theorem pinArr_head {W : World} {g t : Nat} {A : Option Addr} {m c : Nat} {n : Int} {x y z : Dig} {fr : Nat × Nat} (h : W.heap[g]? = some (.cells (pinArr A m c n x y z) t fr)) : W.rangeAt g 1 (hdArr n x y z).toList :=
 range_of_list h (fun j v hv => by rw [pinArr_list, Nat.add_comm, List.getElem?_cons_succ]; exact hv)
theorem pinArr_put (A : Option Addr) (m c : Nat) (n n' : Int) (x y z x' y' z' : Dig) : putAt (pinArr A m c n x y z) 1 (hdArr n' x' y' z').toList = pinArr A m c n' x' y' z' := by
 unfold putAt
 rw [pinArr_list]
 apply Array.ext'
 have h1 := hdArr_size n x y z
 have h2 := hdArr_size n' x' y' z'
 rw [List.take_succ_cons, List.take_zero, Array.length_toList, h2, show 1 + 97 = 97 + 1 from rfl, List.drop_succ_cons, List.drop_of_length_le (by rw [Array.length_toList, h1]; exact Nat.le_refl _), List.append_nil]
 rfl
theorem hdArr_putRoot (n : Int) (x y z d : Dig) : putAt (hdArr n x y z) 1 d.arr.toList = hdArr n d y z := by
 have l : ∀ d : Dig, d.arr.toList.length = 32 := fun d => by simp [Dig.size]
 unfold putAt
 rw [hdArr_list]
 apply Array.ext'
 rw [List.take_succ_cons, List.take_zero, l, show 1 + 32 = 32 + 1 from rfl, List.drop_succ_cons, List.drop_left' (l x)]
 rfl
section
variable {P : Program} {ops : Array Oper} {rest : List Oper} {o : Oper} {a : Act} {W : World} {Q : Exit → Act → World → Prop} {d : Option Tmp}
theorem L_buildG (hd : o.dst = d) (hw : Region.wanted o (yielded ops a.tmps) = true) {T : TypeId} {x : Operand} (ho : o.op = .build T #[(1, x)]) {f0 f1 f2 f3 : Field} (hu : P.underlying T = some (.struct #[f0, f1, f2, f3])) {z0 z1 z2 z3 : Value} {s0 s2 s3 b0 b1 b2 b3 : Nat} (h0 : ElemIs P f0.type z0 s0 b0) (h1 : ElemIs P f1.type z1 32 b1) (h2 : ElemIs P f2.type z2 s2 b2) (h3 : ElemIs P f3.type z3 s3 b3) (o1 : f1.offset = 1)
  {cs : Array Value} {s b : Nat} (he : ElemIs P T (.agg cs) s b) (hcs : 33 ≤ cs.size) {q : Dig} (hx : a.eval x = .agg q.arr)
  (h : wpList P ops Q rest (a.put d (.agg (putAt cs 1 q.arr.toList))) W) : wpList P ops Q (o :: rest) a W := by
 refine L_val hd hw ?_ h
 have hq : q.arr.size = 32 := Dig.size q
 have hf := fold_put q.arr.toList 0 1 cs (by simp [hq]; omega)
 have hz : (q.arr.zipIdx.foldl (fun cs x => cs.setIfInBounds (1 + x.2) x.1) cs) = putAt cs 1 q.arr.toList := by
  rw [← Array.foldl_toList, Array.toList_zipIdx]
  simpa using hf
 rw [show q.arr.zipIdx.size = 32 by simp [hq]] at hz
 unfold execOp
 simp only [ho]
 have hfill : Instr.fill (fun x => ([(f0.offset, s0), (1, 32), (f2.offset, s2), (f3.offset, s3)] : List (Nat × Nat))[x]?) cs [(1, .agg q.arr)] = some (putAt cs 1 q.arr.toList) := by
  have e1 : ¬ (cs.size < 33) := by omega
  simp [Instr.fill, Value.cells, hq, hcs, hz]
 simp [Instr.build, he.run_zero, run_underlying hu, Value.cells, hx, h0.run_size, h1.run_size, h2.run_size, h3.run_size, o1]
 rw [hfill]
 rfl
end
theorem el_pin_Pin : ElemIs Tryz.prog 165 (.agg (pinArr none 0 0 0 zeroD zeroD zeroD)) 98 128 := by unfold ElemIs; kernel_rfl
section
variable {ops : Array Oper} {rest : List Oper} {o : Oper} {a : Act} {W : World} {Q : Exit → Act → World → Prop} {d : Option Tmp}
theorem L_buildPin (hd : o.dst = d) (hw : Region.wanted o (yielded ops a.tmps) = true) {x y : Operand} (ho : o.op = .build 165 #[(0, x), (1, y)]) {A : Option Addr} {m c : Nat} (hx : a.eval x = .slice A m c) {n : Int} {p q r : Dig} (hy : a.eval y = .agg (hdArr n p q r))
  (h : wpList Tryz.prog ops Q rest (a.put d (.agg (pinArr A m c n p q r))) W) : wpList Tryz.prog ops Q (o :: rest) a W := by
 refine L_val hd hw ?_ h
 unfold execOp
 simp only [ho]
 have hs := hdArr_size n p q r
 have hz := el_pin_Pin.run_zero W
 have h1 := el_S_uint8.run_size W
 have h2 := el_api_Head.run_size W
 have hf := fold_put (hdArr n p q r).toList 0 1 (pinArr A m c 0 zeroD zeroD zeroD) (by simp [hs, pinArr_size])
 have h3 : Array.foldl (fun (cs : Array Value) (x : Value × Nat) => cs.setIfInBounds (1 + x.snd) x.fst) (pinArr A m c 0 zeroD zeroD zeroD) (hdArr n p q r).zipIdx 0 97 = pinArr A m c n p q r := by
  have e1 : 97 = (hdArr n p q r).zipIdx.size := by simp [hs]
  rw [e1, ← Array.foldl_toList, Array.toList_zipIdx]
  rw [show (1 + 0) = 1 from rfl, pinArr_put] at hf
  simpa using hf
 have h4 : (pinArr none 0 0 0 zeroD zeroD zeroD).setIfInBounds 0 (.slice A m c) = pinArr A m c 0 zeroD zeroD zeroD := rfl
 have h5 : pinArr none 0 0 0 zeroD zeroD zeroD ≠ #[] := fun e => by have := pinArr_size none 0 0 0 zeroD zeroD zeroD; rw [e] at this; exact absurd this (by decide)
 simp [Instr.build, hz, run_underlying Tryz.underlying165, h1, h2, hx, hy, Value.cells, Instr.fill, hs, h3, h4, h5, pinArr_size]
end
set_option maxHeartbeats 1000000 in
theorem pnew_any (key : List UInt8) (K : Option Addr) (m mc : Nat) (w : World) (hT : Tb w) (hk : SlR w K m mc 1 (bytesL key)) (hm : m ≤ 140737488355000) :
  Calls Tryz.prog 65 #[.slice K m mc] w fun e w' => ∃ g O oc, e = .returned (.pointer (some ⟨g, 0, none⟩)) ∧ St w w' [.blk g 165 (pinArr O m oc 0 (sha []) zeroD zeroD), .row O m oc 5 1 (bytesL key)] := by
 have hst := St.refl w
 have HT := Lib.hid hT
 clear hT
 go_enter Tryz.func65, Tryz.ntmps65
 go_wp2_with (first | (go_at_call 30; refine (cloneB_any key _ _ _ _ (hst.old (by decide) hk) (by omega)).mono ?_; rintro e W4 ⟨O4, c4, rfl, hnew⟩; replace hst := hst.trans hnew; simp only [List.cons_append, List.nil_append] at hst; clear hnew) | (go_at_call 80; refine (ssum_any [] none 0 0 _ (HT.out.of hst) (by simp [SlR, bytesL]) (by decide)).mono ?_; rintro e W5 ⟨rfl, hnew⟩; replace hst := hst.keep hnew; clear hnew) | (refine L_buildG (d := some 6) rfl rfl rfl Tryz.underlying41 el_int el_api_Digest el_api_Digest el_api_Digest rfl el_api_Head (by rw [hdArr_size]; decide) (ev_tmp rfl) ?_; rw [hdArr_putRoot]) | (refine L_buildPin (d := some 7) rfl rfl rfl (ev_tmp rfl) (ev_tmp rfl) ?_) | (refine L_boxA (d := some 8) rfl rfl rfl (ev_tmp rfl) ?_; (try clear hnew); intro g8 W8 hnew; replace hst := hst.trans hnew; simp only [List.cons_append, List.nil_append] at hst))
 go_ret
 exact ⟨_, _, _, rfl, hst⟩
set_option maxHeartbeats 1000000 in
theorem held_any (g t m c : Nat) (A : Option Addr) (n : Int) (x y z : Dig) (fr : Nat × Nat) (w : World) (hg : w.heap[g]? = some (.cells (pinArr A m c n x y z) t fr)) :
  Calls Tryz.prog 110 #[.pointer (some ⟨g, 0, none⟩)] w fun e w' => e = .returned (.agg (hdArr n x y z)) ∧ St w w' [] := by
 have hst := St.refl w
 have hr := pinArr_head hg
 clear hg
 go_enter Tryz.func110, Tryz.ntmps110
 go_wp2_with (first | (refine L_allocA (d := some 2) rfl rfl rfl el_api_Head ?_; (try clear hnew); intro g2 W2 hnew; replace hst := hst.trans hnew; simp only [List.cons_append, List.nil_append] at hst) | ((refine L_loadM (d := some 6) rfl rfl rfl (by rfl) Tryz.underlying41 rfl el_api_Head (by (exact hst.oldR hr (hdArr_ne _ _ _ _))) (by (exact hdArr_size _ _ _ _)) ?_)) | (refine wpl_at (.store 41 (.tmp 2) (.tmp 6)) rfl ?_; (refine L_storeA rfl rfl hst rfl (by rfl) (ev_tmp rfl) (by (exact hdArr_all _ _ _ _)) el_api_Head (by (exact hdArr_size _ _ _ _)) 0 rfl (by (rfl)) ?_; clear hst; intro WS4 hst; simp only [List.set_cons_zero, List.set_cons_succ] at hst)))
 refine bp_cell rfl rfl rfl (hst.get 0 rfl) Tryz.underlying41 rfl el_api_Head (hdArr_size _ _ _ _) ?_
 exact ⟨rfl, hst.forget⟩
end Go.Proofs.YtaebeemnipafbaaGreatDoor

set_option maxRecDepth 20000
set_option linter.unusedSimpArgs false
set_option linter.unusedVariables false
namespace Go.Proofs.YtaebeemnipafbaaGreatDoor
open Go.RowKit
theorem St.swap {w0 W : World} {X Y L : List Res} (h : St w0 W (X ++ (Y ++ L))) : St w0 W (Y ++ (X ++ L)) :=
 h.perm (by
  rw [← List.append_assoc, ← List.append_assoc]
  exact (List.perm_append_comm).append_right L)
theorem hdArr_putMap (n : Int) (x y z d : Dig) : putAt (hdArr n x y z) 33 d.arr.toList = hdArr n x d z :=
 put_part (cs := hdArr n x y z) (ds := hdArr n x d z) (.int .i64 n :: x.arr.toList) y.arr.toList d.arr.toList z.arr.toList (by rw [hdArr_list]; simp) (by rw [hdArr_list]; simp) (by rw [dig_len, dig_len]) (by simp [Dig.size])
section
variable {ops : Array Oper} {rest : List Oper} {o : Oper} {a : Act} {W : World} {Q : Exit → Act → World → Prop} {d : Option Tmp}
theorem L_buildHd (hd : o.dst = d) (hw : Region.wanted o (yielded ops a.tmps) = true) {x : Operand} (ho : o.op = .build 41 #[(0, x)]) {n : Int} (hx : a.eval x = .int .i64 n)
  (h : wpList Tryz.prog ops Q rest (a.put d (.agg (hdArr n zeroD zeroD zeroD))) W) : wpList Tryz.prog ops Q (o :: rest) a W :=
 L_buildT hd hw ho Tryz.underlying41 el_api_Head [(0, 1), (1, 32), (33, 32), (65, 32)] (by kernel_rfl) (ps := [(0, .int .i64 n)]) (by simp [hx]) (qs := [(0, [.int .i64 n])])
  ⟨rfl, rfl, by simp [hdArr_size], trivial⟩
  (put_part (cs := hdArr 0 zeroD zeroD zeroD) (ds := hdArr n zeroD zeroD zeroD) [] [.int .i64 0] [.int .i64 n] (zeroD.arr.toList ++ (zeroD.arr.toList ++ zeroD.arr.toList)) rfl rfl rfl rfl) h
end
def headR (key : List UInt8) (ns : List NoteN) : Dig := tagN key (ns.length : Int) (rootN (lvN ns)) (mapN ns)
attribute [local simp] hdArr_size
theorem since_any (key : List UInt8) (ns : List NoteN) (p : LgP) (m : Int) (w0 w : World) (L : List Res) (hT : Tb w0) (hst : St w0 w (lgL p key ns ++ L)) (hl : Logged ns) (h1 : 1 ≤ m) (h2 : m ≤ (ns.length : Int)) :
  Calls Tryz.prog 19 #[.pointer (some ⟨p.g, 0, none⟩), .int .i64 m] w fun e w' => ∃ O oc, e = .returned (.tuple #[.slice O (plN ns.length m.toNat true) oc, .nilIface]) ∧
   St w0 w' (.row O (plN ns.length m.toNat true) oc 32 32 (digsL (gpN (lvN ns) m.toNat true)) :: (lgL p key ns ++ L)) := by
 have hn := hl.len
 obtain ⟨k, rfl⟩ := Int.eq_ofNat_of_zero_le (show 0 ≤ m by omega)
 rw [Int.toNat_natCast]
 obtain ⟨g, mm, c, lc, Mn, Ma, A, O0, nm, am⟩ := p
 have hst0 := hst
 simp only [lgL, List.cons_append, List.nil_append] at hst
 have HP := Lib.hid (gProof_any (lvN ns) O0 ns.length lc k w (hT.of hst) (hst.sl 2 rfl) (by omega) (by omega) hn)
 go_enter Tryz.func19, Tryz.ntmps19
 go_wp2_with (first | (go_at_call 51; refine HP.out.mono ?_; rintro e W21 ⟨O, oc, rfl, hnew⟩; replace hst := hst0.trans hnew) | (refine L_load1 (d := some 9) rfl rfl rfl (by rfl) Tryz.underlying44 rfl (by (exact cell_of (hst.get 0 rfl) lgArr_1)) ?_))
 exact bp_two rfl rfl rfl rfl ⟨_, _, rfl, hst⟩
end Go.Proofs.YtaebeemnipafbaaGreatDoor

set_option maxRecDepth 20000
set_option linter.unusedSimpArgs false
set_option linter.unusedVariables false
namespace Go.Proofs.YtaebeemnipafbaaGreatDoor
structure DkS where
 ns : List NoteN
 j : Nat
 z : Dig
def DkOk (s : DkS) : Prop := Logged s.ns ∧ s.j ≤ s.ns.length
def findR (ns : List NoteN) (s : List UInt8) : Nat × Option NoteN := lookN (ns.length : Int) (rootN (lvN ns)) (mapN ns) s (findN ns s)
def findT (ns : List NoteN) (s : List UInt8) : Nat × List UInt8 :=
 if (findR ns s).1 = 0 then (0, match (findR ns s).2 with | none => tNone | some n => hexL n.key.l ++ [32] ++ Lib.itoa n.turn) else ((findR ns s).1, [])
open Classical in
noncomputable def addT (s : DkS) (m : List UInt8) : DkS × (Nat × List UInt8) :=
 if spI m < m.length ∧ hx64 (m.drop (spI m + 1)) then
  (if addE s.ns (m.take (spI m)) = 0 then (⟨addL s.ns (m.take (spI m)) (keyD (m.drop (spI m + 1))), s.j, s.z⟩, (0, Lib.decDigits s.ns.length)) else (s, (addE s.ns (m.take (spI m)), [])))
 else (s, (1, []))
noncomputable def ans3 (key : List UInt8) (s : DkS) (l : List UInt8) : DkS × (Nat × List UInt8) :=
 if l = tHead then (s, (0, headT s.ns.length (rootN (lvN s.ns)) (mapN s.ns)))
 else if l = tHeld then (s, (0, headT s.j (rootN (lvN (s.ns.take s.j))) (mapN (s.ns.take s.j))))
 else if l = tTake then (⟨s.ns, s.ns.length, headR key s.ns⟩, (0, tOk))
 else if begN l tFindB = true then (s, findT s.ns (l.drop 5))
 else if begN l tAddB = true then addT s (l.drop 4)
 else (s, (1, []))
def ansX (p : Nat × List UInt8) : List UInt8 := if p.1 = 0 then p.2 else errTx p.1
theorem spI_at (l : List UInt8) (h : spI l < l.length) : l[spI l]? = some 32 := by
 rw [List.getElem?_eq_getElem h]
 have h' : List.findIdx (fun b => b == 32) l < l.length := h
 have h2 := List.findIdx_getElem (w := h')
 have h3 : l[List.findIdx (fun b => b == 32) l] = 32 := by simpa using h2
 exact congrArg some h3
theorem beg_iff (l a : List UInt8) (ha : ∀ b ∈ a, b ≠ 32) : begN l (a ++ [32]) = true ↔ spI l < l.length ∧ l.take (spI l) = a := by
 unfold begN
 rw [decide_eq_true_iff, List.length_append, List.length_singleton]
 constructor
 ·intro h
  have hl : a.length + 1 ≤ l.length := by
   have := congrArg List.length h
   rw [List.length_take, List.length_append, List.length_singleton] at this
   omega
  have e : l = a ++ (32 :: l.drop (a.length + 1)) := by
   have := List.take_append_drop (a.length + 1) l
   rw [h, List.append_assoc] at this
   exact this.symm
  have hi : spI l = a.length := by
   unfold spI
   rw [e, List.findIdx_append, if_neg]
   ·simp [List.findIdx_cons]
   ·rw [List.findIdx_eq_length.2 (fun b hb => by simpa using ha b hb)]
    exact Nat.lt_irrefl _
  rw [hi]
  refine ⟨by omega, ?_⟩
  rw [e, List.take_left]
 ·rintro ⟨h1, h2⟩
  have hi : spI l = a.length := by
   have := congrArg List.length h2
   rw [List.length_take] at this
   omega
  rw [hi] at h1 h2
  have h3 := spI_at l (by rw [hi]; exact h1)
  rw [hi, List.getElem?_eq_getElem h1] at h3
  rw [List.take_succ_eq_append_getElem h1, h2, Option.some.inj h3]
theorem beg_len (l a : List UInt8) (ha : ∀ b ∈ a, b ≠ 32) (h : begN l (a ++ [32]) = true) : spI l = a.length ∧ spI l < l.length := by
 have := (beg_iff l a ha).1 h
 refine ⟨?_, this.1⟩
 have h2 := congrArg List.length this.2
 rw [List.length_take] at h2
 omega
theorem beg_add (l : List UInt8) : begN l tAddB = true ↔ spI l < l.length ∧ l.take (spI l) = tAdd := beg_iff l tAdd (by decide)
theorem beg_find (l : List UInt8) : begN l tFindB = true ↔ spI l < l.length ∧ l.take (spI l) = tFind := beg_iff l tFind (by decide)
theorem beg_add_len (l : List UInt8) (h : begN l tAddB = true) : spI l = 3 := (beg_len l tAdd (by decide) h).1
theorem beg_find_len (l : List UInt8) (h : begN l tFindB = true) : spI l = 4 := (beg_len l tFind (by decide) h).1
theorem lookN_some {n : Int} {x y : Dig} {s : List UInt8} {f : FoundN} {nt : NoteN} (h : (lookN n x y s f).2 = some nt) : nt = f.note ∧ noteOk nt = true := by
 unfold lookN at h
 split at h
 ·split at h
  ·split at h <;> cases h
  ·split at h
   ·rename_i hk
    split at h
    ·simp only [Option.some.injEq] at h
     exact ⟨h.symm, by rw [← h]; exact hk.1⟩
    ·cases h
   ·cases h
 ·cases h
theorem lookN_le (n : Int) (x y : Dig) (s : List UInt8) (f : FoundN) : (lookN n x y s f).1 ≤ 9 := by
 unfold lookN
 split
 ·split
  ·split <;> simp
  ·split
   ·split <;> simp
   ·simp
 ·simp
theorem addE_le (ns : List NoteN) (s : List UInt8) : addE ns s ≤ 9 := by
 unfold addE
 split
 ·split
  ·decide
  ·split <;> decide
 ·decide
theorem addL_len (ns : List NoteN) (s : List UInt8) (k : Dig) : ns.length ≤ (addL ns s k).length := by
 unfold addL
 split
 ·simp
 ·exact Nat.le_refl _
theorem DkOk.ans (key : List UInt8) {s : DkS} (h : DkOk s) (l : List UInt8) : DkOk (ans3 key s l).1 := by
 unfold ans3
 split
 ·exact h
 split
 ·exact h
 split
 ·exact ⟨h.1, Nat.le_refl _⟩
 split
 ·exact h
 split
 ·unfold addT
  split
  ·split
   ·refine ⟨h.1.addL _ _, Nat.le_trans h.2 ?_⟩
    exact addL_len _ _ _
   ·exact h
  ·exact h
 ·exact h
end Go.Proofs.YtaebeemnipafbaaGreatDoor

set_option maxRecDepth 20000
set_option linter.unusedSimpArgs false
set_option linter.unusedVariables false
namespace Go.Proofs.YtaebeemnipafbaaGreatDoor
end Go.Proofs.YtaebeemnipafbaaGreatDoor

set_option maxRecDepth 20000
set_option linter.unusedSimpArgs false
set_option linter.unusedVariables false
namespace Go.Proofs.YtaebeemnipafbaaGreatDoor
open Go.RowKit
theorem len_byte (n : Nat) (h : n < 256) : IntKind.u8.wrap (n : Int) = ((UInt8.ofNat n).toNat : Int) := by
 rw [UInt8.toNat_ofNat']
 show (n : Int) % 256 = _
 omega
attribute [local simp] ntArr_size
theorem ntKey_sl {W : World} {g t : Nat} {s : List UInt8} {k : Dig} {n : Int} {fr : Nat × Nat} (h : W.heap[g]? = some (.cells (ntArr s k n) t fr)) : SlR W (some ⟨g, 1, none⟩) 32 32 1 (bytesL k.l) :=
 ⟨by rw [length_bytesL, k.h], Nat.le_refl _, by decide, fun _ => ⟨g, 1, rfl, by have := ntArr_key h; rwa [Dig.toList] at this⟩⟩
set_option maxHeartbeats 4000000 in
set_option maxRecDepth 100000 in
theorem nwrite_any (n : NoteN) (w : World) (h : noteOk n = true) :
  Calls Tryz.prog 81 #[.agg (ntArr n.name n.key n.turn)] w fun e w' => ∃ A c, e = .returned (.tuple #[.slice A (noteB n).length c, .nilIface]) ∧ St w w' [.row A (noteB n).length c 5 1 (bytesL (noteB n))] := by
 have hst := St.refl w
 have h' := h
 unfold noteOk at h'
 rw [Bool.and_eq_true] at h'
 obtain ⟨h1, h3⟩ := h'
 have h2 := of_decide_eq_true h3
 clear h3
 have hl := isNm_len h1
 have HN := Lib.hid (fun w => by have := named_any n.name w; rw [h1] at this; exact this)
 obtain ⟨t, ht⟩ := Int.eq_ofNat_of_zero_le h2.1
 have hB := length_noteB n
 have HB := Lib.hid (show noteB n = [UInt8.ofNat n.name.length] ++ (n.name ++ (n.key.l ++ bigE 4 t)) by rw [noteB, ht]; rfl)
 have HP := Lib.hid (fun w : World => oput_any t 4 w (by decide) (by decide) (by omega) (fun _ => by rw [Nat.shiftRight_eq_div_pow]; omega))
 generalize noteB n = bs at *
 obtain ⟨s, k, m⟩ := n
 simp only at *
 have HL := Lib.hid (len_byte s.length (by omega))
 have hz := Lib.hid (bsOf_size s)
 have HBl := Lib.hid hB
 clear hB
 subst ht
 clear h h1 h2
 go_enter Tryz.func81, Tryz.ntmps81
 go_upto_region 1 with (go_big_may; (refine L_boxA (d := some 1) rfl rfl rfl (ev_tmp rfl) ?_; (try clear hnew); intro g1 W1 hnew; replace hst := hst.trans hnew; simp only [List.cons_append, List.nil_append] at hst))
 go_upto_region 3 with (go_big_may; first | (go_at_call 34; (try clear hnew); refine (HN.out _).mono ?_; rintro e Wk1 ⟨rfl, hnew⟩; replace hst := hst.keep hnew) | (refine L_load1 (d := some 7) rfl rfl rfl (by rfl) Tryz.underlying9 rfl (by (exact cell_of (hst.get 0 rfl) ntArr_0)) ?_))
 go_upto_region 4 with (go_big_may; first | (go_at_call 60; refine (HP.out _).mono ?_; rintro e Wp ⟨Op, rfl, hnew⟩; replace hst := hst.trans hnew; simp only [List.cons_append, List.nil_append] at hst; clear hnew) | (refine L_load1 (d := some 13) rfl rfl rfl (by rfl) Tryz.underlying3 rfl (by (exact cell_of (hst.get 0 rfl) ntArr_33)) ?_))
 go_upto_region 6 with (go_big_may; fail)
 have HU := Lib.hid (show [Value.int .u8 (((bsOf s).size : Int) % 256)] = bytesL [UInt8.ofNat s.length] from by
  rw [hz.out]
  exact congrArg (fun x => [Value.int .u8 x]) HL.out)
 refine wp_region_pm (.one 10 3 (.one 0 0 (.one 1 0 (.one 2 0 (.one 3 3 (.one 5 0 (.one 6 0 (.one 8 0 (.one 9 0 (.two 4 2 (.one 7 2 (.one 11 2 (.one 12 2 (.one 13 2 (.one 14 2 .nil))))) 7 2 (.one 4 2 (.one 11 2 (.one 12 2 (.one 13 2 (.one 14 2 .nil))))))))))))))) (by kernel_rfl) (by kernel_rfl) ?_
 replace hst := hst.drew
 refine pm_p rfl rfl ?_; go_wp2_with fail
 refine pm_qf rfl rfl (by kernel_rfl) ?_; go_wp2_with fail
 refine pm_q rfl rfl ?_; go_wp2_with ((refine L_load1 (d := some 21) rfl rfl rfl (by rfl) Tryz.underlying9 rfl (by (exact cell_of (hst.get 1 rfl) ntArr_0)) ?_))
 refine pm_q rfl rfl ?_; go_wp2_with (fail)
 refine pm_pv rfl (pureV_convert rfl (by rfl) Tryz.underlying3 Tryz.underlying5) ?_; go_wp2_with fail
 refine pm_qf rfl rfl (by kernel_rfl) ?_; go_wp2_with fail
 refine pm_q rfl rfl ?_; go_wp2_with ((refine L_load1 (d := some 26) rfl rfl rfl (by rfl) Tryz.underlying9 rfl (by (exact cell_of (hst.get 1 rfl) ntArr_0)) ?_))
 refine pm_qf rfl rfl (by kernel_rfl) ?_; go_wp2_with fail
 refine pm_q rfl rfl ?_; go_wp2_with ((refine L_sliceMid (d := some 29) rfl rfl rfl (by rfl) Tryz.underlying32 el_uint8 (by (exact ntArr_key (hst.get 1 rfl))) (Dig.size _) (by decide) ?_; intro hs29))
 refine pm_two (ki := 2) (kj := 2) rfl rfl ?_ ?_
 ·go_wp2_with ((refine L_buildS (d := some 24) rfl rfl rfl [_] (bs_1 (ev_tmp rfl)) rfl Tryz.underlying22 el_uint8 rfl (by (simp [Value.cells]; done)) (by decide) (by decide) ?_; (try clear hnew); intro g24 W24 hnew; replace hst := hst.trans hnew; simp only [List.cons_append, List.nil_append] at hst; simp only [List.flatMap_cons, List.flatMap_nil, List.append_nil, Value.cells, List.toList_toArray] at hst)); refine ⟨fun _ => (by (exact hnew.below)), ?_⟩
  refine pm_g rfl ?_; go_wp2_with ((refine L_convSB (d := some 27) rfl rfl rfl (ev_tmp rfl) Tryz.underlying22 Tryz.underlying9 Tryz.underlying5 (by (omega)) ?_; (try clear hnew); intro g27 cap27 ob27 W27 hnew hsb27; replace hst := hst.trans hnew; simp only [List.cons_append, List.nil_append] at hst)); refine ⟨by (exact hnew.below), ?_⟩
  refine pm_g rfl ?_; go_wp2_with ((refine L_buildS (d := some 31) rfl rfl rfl [_, _, _, _] (bs_4 (ev_tmp rfl) (ev_tmp rfl) (ev_tmp rfl) (ev_tmp rfl)) rfl Tryz.underlying162 el_S_uint8 rfl (by (simp [Value.cells]; done)) (by decide) (by decide) ?_; (try clear hnew); intro g31 W31 hnew; replace hst := hst.trans hnew; simp only [List.cons_append, List.nil_append] at hst; simp only [List.flatMap_cons, List.flatMap_nil, List.append_nil, Value.cells, List.toList_toArray] at hst)); refine ⟨by (exact hnew.below), ?_⟩
  refine pm_g rfl ?_; go_wp2_with ((go_at_call 62; (try clear hnew); ((refine (concat4_any [UInt8.ofNat s.length] s k.l (bigE 4 t) _ _ _ _ _ _ _ _ _ _ _ _ _ _ _ (hst.sl 0 rfl) (by rw [← HU.out]; exact hst.sl 2 rfl) (hsb27 _ (hst.at_ 1 rfl)) (ntKey_sl (hst.get 4 rfl)) (hst.sl 3 rfl) (by omega)).mono ?_)); rintro e Wc ⟨Oc, oc, rfl, hnew⟩; replace hst := hst.trans hnew; simp only [List.cons_append, List.nil_append] at hst)); refine ⟨by (exact hnew.below), ?_⟩
  refine pm_g rfl ?_; go_wp2_with fail; refine ⟨by (exact Below.refl _ _), ?_⟩
  refine pm_g rfl ?_; go_wp2_with fail; refine ⟨by (exact Below.refl _ _), ?_⟩
  refine pm_nil ?_
  go_wp2_with fail
  go_ret2
  rw [HBl.out, show s.length + 37 = 1 + s.length + 32 + 4 by omega, HB.out]
  exact ⟨Oc, oc, rfl, hst.pick [0] (by decide)⟩
 ·go_wp2_with ((refine L_convSB (d := some 27) rfl rfl rfl (ev_tmp rfl) Tryz.underlying22 Tryz.underlying9 Tryz.underlying5 (by (omega)) ?_; (try clear hnew); intro g27 cap27 ob27 W27 hnew hsb27; replace hst := hst.trans hnew; simp only [List.cons_append, List.nil_append] at hst)); refine ⟨fun _ => (by (exact hnew.below)), ?_⟩
  refine pm_g rfl ?_; go_wp2_with ((refine L_buildS (d := some 24) rfl rfl rfl [_] (bs_1 (ev_tmp rfl)) rfl Tryz.underlying22 el_uint8 rfl (by (simp [Value.cells]; done)) (by decide) (by decide) ?_; (try clear hnew); intro g24 W24 hnew; replace hst := hst.trans hnew; simp only [List.cons_append, List.nil_append] at hst; simp only [List.flatMap_cons, List.flatMap_nil, List.append_nil, Value.cells, List.toList_toArray] at hst)); refine ⟨by (exact hnew.below), ?_⟩
  refine pm_g rfl ?_; go_wp2_with ((refine L_buildS (d := some 31) rfl rfl rfl [_, _, _, _] (bs_4 (ev_tmp rfl) (ev_tmp rfl) (ev_tmp rfl) (ev_tmp rfl)) rfl Tryz.underlying162 el_S_uint8 rfl (by (simp [Value.cells]; done)) (by decide) (by decide) ?_; (try clear hnew); intro g31 W31 hnew; replace hst := hst.trans hnew; simp only [List.cons_append, List.nil_append] at hst; simp only [List.flatMap_cons, List.flatMap_nil, List.append_nil, Value.cells, List.toList_toArray] at hst)); refine ⟨by (exact hnew.below), ?_⟩
  refine pm_g rfl ?_; go_wp2_with ((go_at_call 62; (try clear hnew); ((refine (concat4_any [UInt8.ofNat s.length] s k.l (bigE 4 t) _ _ _ _ _ _ _ _ _ _ _ _ _ _ _ (hst.sl 0 rfl) (by rw [← HU.out]; exact hst.sl 1 rfl) (hsb27 _ (hst.at_ 2 rfl)) (ntKey_sl (hst.get 4 rfl)) (hst.sl 3 rfl) (by omega)).mono ?_)); rintro e Wc ⟨Oc, oc, rfl, hnew⟩; replace hst := hst.trans hnew; simp only [List.cons_append, List.nil_append] at hst)); refine ⟨by (exact hnew.below), ?_⟩
  refine pm_g rfl ?_; go_wp2_with fail; refine ⟨by (exact Below.refl _ _), ?_⟩
  refine pm_g rfl ?_; go_wp2_with fail; refine ⟨by (exact Below.refl _ _), ?_⟩
  refine pm_nil ?_
  go_wp2_with fail
  go_ret2
  rw [HBl.out, show s.length + 37 = 1 + s.length + 32 + 4 by omega, HB.out]
  exact ⟨Oc, oc, rfl, hst.pick [0] (by decide)⟩
set_option maxHeartbeats 4000000 in
set_option maxRecDepth 100000 in
theorem nwrite_no (n : NoteN) (w : World) (h : noteOk n = false) (hn1 : -9223372036854775808 ≤ n.turn) (hn2 : n.turn ≤ 9223372036854775807) :
  Calls Tryz.prog 81 #[.agg (ntArr n.name n.key n.turn)] w fun e w' => ∃ r, r ≠ 0 ∧ e = .returned (.tuple #[.slice none 0 0, errV r]) ∧ St w w' [] := by
 have hst := St.refl w
 obtain ⟨s, k, m⟩ := n
 simp only [noteOk] at h hn1 hn2
 cases hN : isNm s with
 | false =>
  have HN := Lib.hid (fun w => by have := named_any s w; rw [hN] at this; exact this)
  clear h hN
  go_enter Tryz.func81, Tryz.ntmps81
  go_upto_region 1 with (go_big_may; (refine L_boxA (d := some 1) rfl rfl rfl (ev_tmp rfl) ?_; (try clear hnew); intro g1 W1 hnew; replace hst := hst.trans hnew; simp only [List.cons_append, List.nil_append] at hst))
  go_upto_region 2 with (go_big_may; first | (go_at_call 34; (try clear hnew); refine (HN.out _).mono ?_; rintro e Wk2 ⟨rfl, hnew⟩; replace hst := hst.keep hnew) | (refine L_load1 (d := some 7) rfl rfl rfl (by rfl) Tryz.underlying9 rfl (by (exact cell_of (hst.get 0 rfl) ntArr_0)) ?_))
  go_wp2_with (fail)
  go_ret2
  exact ⟨1, by decide, rfl, hst.forget⟩
 | true =>
  rw [hN, Bool.true_and] at h
  have h1 := of_decide_eq_false h
  have HN := Lib.hid (fun w => by have := named_any s w; rw [hN] at this; exact this)
  have HP := Lib.hid (fun w => oput_no m 4 w hn1 hn2 (by decide) (by decide) (by
   unfold putNo
   by_cases h0 : m < 0
   ·exact .inr (.inr (.inl h0))
   ·refine .inr (.inr (.inr ⟨by decide, ?_⟩))
    show 0 < m / 4294967296
    omega))
  clear h hN h1 hn1 hn2
  go_enter Tryz.func81, Tryz.ntmps81
  go_upto_region 1 with (go_big_may; (refine L_boxA (d := some 1) rfl rfl rfl (ev_tmp rfl) ?_; (try clear hnew); intro g1 W1 hnew; replace hst := hst.trans hnew; simp only [List.cons_append, List.nil_append] at hst))
  go_upto_region 3 with (go_big_may; first | (go_at_call 34; (try clear hnew); refine (HN.out _).mono ?_; rintro e Wk3 ⟨rfl, hnew⟩; replace hst := hst.keep hnew) | (refine L_load1 (d := some 7) rfl rfl rfl (by rfl) Tryz.underlying9 rfl (by (exact cell_of (hst.get 0 rfl) ntArr_0)) ?_))
  go_upto_region 4 with (go_big_may; first | (go_at_call 60; refine (HP.out _).mono ?_; unfold errV; rintro e Wp ⟨rfl, hnew⟩; replace hst := hst.keep hnew; clear hnew) | (refine L_load1 (d := some 13) rfl rfl rfl (by rfl) Tryz.underlying3 rfl (by (exact cell_of (hst.get 0 rfl) ntArr_33)) ?_))
  go_upto_region 5 with (go_big_may; fail)
  go_wp2_with (fail)
  go_ret2
  exact ⟨2, by decide, rfl, hst.forget⟩
set_option maxHeartbeats 2000000 in
set_option maxRecDepth 100000 in
theorem leafOf_any (n : NoteN) (w : World) (hT : Tb w) (h : noteOk n = true) :
  Calls Tryz.prog 36 #[.agg (ntArr n.name n.key n.turn)] w fun e w' => e = .returned (.tuple #[(ntLeaf n).v, .nilIface]) ∧ St w w' [] := by
 have hst := St.refl w
 have HT := Lib.hid hT
 have HW := Lib.hid (fun w => nwrite_any n w h)
 have hl : (noteB n).length ≤ 67 := by
  have h1 := h
  unfold noteOk at h1
  rw [Bool.and_eq_true] at h1
  have := isNm_len h1.1
  rw [length_noteB]
  omega
 have HD := Lib.hid (show ntLeaf n = leafBN (noteB n) from rfl)
 obtain ⟨s, k, m⟩ := n
 generalize ntLeaf ⟨s, k, m⟩ = df at *
 generalize noteB ⟨s, k, m⟩ = bs at *
 simp only at HW
 clear hT h
 go_enter Tryz.func36, Tryz.ntmps36
 go_upto_region 1 with (go_big_may; first | (refine L_boxA (d := some 1) rfl rfl rfl (ev_tmp rfl) ?_; (try clear hnew); intro g1 W1 hnew; replace hst := hst.trans hnew; simp only [List.cons_append, List.nil_append] at hst) | (refine L_allocA (d := some 2) rfl rfl rfl el_api_Digest ?_; (try clear hnew); intro g2 W2 hnew; replace hst := hst.trans hnew; simp only [List.cons_append, List.nil_append] at hst))
 go_upto_region 2 with (go_big_may; first | (go_at_call 81; (try clear hnew); refine (HW.out _).mono ?_; rintro e Wp ⟨Ow, cw, rfl, hnew⟩; replace hst := hst.trans hnew; simp only [List.cons_append, List.nil_append] at hst) | ((refine L_loadA (d := some 7) rfl rfl rfl (by rfl) Tryz.underlying34 rfl el_api_Note (by (exact hst.get 1 rfl)) (by (exact ntArr_size _ _ _)) ?_)))
 go_upto_region 4 with (go_big_may; fail)
 go_wp2_with (first | (go_at_call 82; (try clear hnew); refine (tleaf_any bs _ _ _ _ (HT.out.of hst) (hst.sl 0 rfl) (by omega)).mono ?_; rintro e Wk4 ⟨rfl, hnew⟩; replace hst := hst.keep hnew) | (refine wpl_at (.store 32 (.tmp 2) (.tmp 16)) rfl ?_; (refine L_storeA rfl rfl hst rfl (by rfl) (ev_tmp rfl) (by (exact Dig.one _)) el_api_Digest (by (rfl)) 1 rfl (by (rfl)) ?_; clear hst; intro WS2 hst; simp only [List.set_cons_zero, List.set_cons_succ] at hst)))
 refine bp_cell_tmp rfl rfl rfl rfl (hst.get 1 rfl) Tryz.underlying32 rfl el_api_Digest (by (rfl)) ?_
 rw [HD.out]
 exact ⟨rfl, hst.forget⟩
set_option maxHeartbeats 2000000 in
set_option maxRecDepth 100000 in
theorem leafOf_no (n : NoteN) (w : World) (h : noteOk n = false) (hn1 : -9223372036854775808 ≤ n.turn) (hn2 : n.turn ≤ 9223372036854775807) :
  Calls Tryz.prog 36 #[.agg (ntArr n.name n.key n.turn)] w fun e w' => ∃ r, r ≠ 0 ∧ e = .returned (.tuple #[zeroD.v, errV r]) ∧ St w w' [] := by
 have hst := St.refl w
 have HW := Lib.hid (fun w => nwrite_no n w h hn1 hn2)
 obtain ⟨s, k, m⟩ := n
 simp only at HW
 clear h hn1 hn2
 go_enter Tryz.func36, Tryz.ntmps36
 go_upto_region 1 with (go_big_may; first | (refine L_boxA (d := some 1) rfl rfl rfl (ev_tmp rfl) ?_; (try clear hnew); intro g1 W1 hnew; replace hst := hst.trans hnew; simp only [List.cons_append, List.nil_append] at hst) | (refine L_allocA (d := some 2) rfl rfl rfl el_api_Digest ?_; (try clear hnew); intro g2 W2 hnew; replace hst := hst.trans hnew; simp only [List.cons_append, List.nil_append] at hst))
 go_upto_region 2 with (go_big_may; first | (go_at_call 81; (try clear hnew); refine (HW.out _).mono ?_; unfold errV; rintro e Wp ⟨r, hr, rfl, hnew⟩; replace hst := hst.keep hnew) | ((refine L_loadA (d := some 7) rfl rfl rfl (by rfl) Tryz.underlying34 rfl el_api_Note (by (exact hst.get 1 rfl)) (by (exact ntArr_size _ _ _)) ?_)))
 go_upto_region 3 with (go_big_may; fail)
 go_wp2_with (first | (refine L_build0 (d := some 13) rfl rfl rfl Tryz.underlying32 el_uint8 el_api_Digest ?_) | (refine wpl_at (.store 32 (.tmp 2) (.tmp 13)) rfl ?_; (refine L_storeA rfl rfl hst rfl (by rfl) (ev_tmp rfl) (by (exact Dig.one _)) el_api_Digest (by (rfl)) 0 rfl (by (rfl)) ?_; clear hst; intro WS2 hst; simp only [List.set_cons_zero, List.set_cons_succ] at hst)))
 refine bp_cell_tmp rfl rfl rfl rfl (hst.get 0 rfl) Tryz.underlying32 rfl el_api_Digest (by (rfl)) ?_
 exact ⟨r, hr, rfl, hst.forget⟩
end Go.Proofs.YtaebeemnipafbaaGreatDoor

set_option maxRecDepth 20000
set_option linter.unusedSimpArgs false
set_option linter.unusedVariables false
namespace Go.Proofs.YtaebeemnipafbaaGreatDoor
open Go.RowKit
end Go.Proofs.YtaebeemnipafbaaGreatDoor

set_option maxRecDepth 20000
set_option linter.unusedSimpArgs false
set_option linter.unusedVariables false
namespace Go.Proofs.YtaebeemnipafbaaGreatDoor
open Go.RowKit
attribute [local simp] prArr_size
section
variable {P : Program} {ops : Array Oper} {rest : List Oper} {o : Oper} {a : Act} {W : World} {Q : Exit → Act → World → Prop} {d : Option Tmp}
end
end Go.Proofs.YtaebeemnipafbaaGreatDoor

set_option maxRecDepth 20000
set_option linter.unusedSimpArgs false
set_option linter.unusedVariables false
namespace Go.Proofs.YtaebeemnipafbaaGreatDoor
open Go.RowKit
attribute [local simp] prArr_size
def AddEnd (key : List UInt8) (ns : List NoteN) (s : List UInt8) (k : Dig) (p : LgP) (w0 : World) (L : List Res) (e : Ending) (w' : World) : Prop :=
 (addE ns s = 0 ∧ e = .returned (.tuple #[.int .i64 (ns.length : Int), .nilIface]) ∧ ∃ p' : LgP, p'.g = p.g ∧ p'.m = p.m ∧ MapsOf (ns ++ [newN ns s k]) p'.nm p'.am ∧ St w0 w' (lgL p' key (ns ++ [newN ns s k]) ++ L)) ∨
 (addE ns s ≠ 0 ∧ e = .returned (.tuple #[.int .i64 0, errV (addE ns s)]) ∧ St w0 w' (lgL p key ns ++ L))
set_option maxHeartbeats 2000000 in
set_option maxRecDepth 100000 in
theorem add_unnamed (key : List UInt8) (ns : List NoteN) (s : List UInt8) (k : Dig) (p : LgP) (w0 w : World) (L : List Res) (hst : St w0 w (lgL p key ns ++ L)) (hs : isNm s = false) :
  Calls Tryz.prog 10 #[.pointer (some ⟨p.g, 0, none⟩), .string (bsOf s), k.v] w (AddEnd key ns s k p w0 L) := by
 have HN := Lib.hid (fun w => by have := named_any s w; rw [hs] at this; exact this)
 have HE := Lib.hid (show addE ns s = 1 by unfold addE; rw [hs]; rfl)
 generalize hres : lgL p key ns ++ L = R at *
 have HR := Lib.hid hres
 clear hs hres
 go_enter Tryz.func10, Tryz.ntmps10
 go_upto_region 1 with (go_big_may; (refine L_boxA (d := some 5) rfl rfl rfl (ev_tmp rfl) ?_; (try clear hnew); intro g5 W5 hnew; replace hst := hst.trans hnew; simp only [List.cons_append, List.nil_append] at hst))
 go_upto_region 2 with (go_big_may; (go_at_call 34; (try clear hnew); refine (HN.out _).mono ?_; rintro e Wk1 ⟨rfl, hnew⟩; replace hst := hst.keep hnew))
 go_wp2_with (fail)
 go_ret2
 refine .inr ⟨by rw [HE.out]; decide, by rw [HE.out]; rfl, ?_⟩
 rw [HR.out]
 exact hst.tail
set_option maxHeartbeats 4000000 in
set_option maxRecDepth 100000 in
theorem add_full1 (key : List UInt8) (ns : List NoteN) (s : List UInt8) (k : Dig) (p : LgP) (w0 w : World) (L : List Res) (hst : St w0 w (lgL p key ns ++ L)) (hm : MapsOf ns p.nm p.am) (hs : isNm s = true) (hf : 256 ≤ ns.length) :
  Calls Tryz.prog 10 #[.pointer (some ⟨p.g, 0, none⟩), .string (bsOf s), k.v] w (AddEnd key ns s k p w0 L) := by
 have HN := Lib.hid (fun w => by have := named_any s w; rw [hs] at this; exact this)
 have HE := Lib.hid (show addE ns s = 4 by unfold addE; rw [if_pos hs, if_pos (.inl hf)])
 have HO := Lib.hid hm.ksO
 have HD := Lib.hid hm.nd
 have HS := Lib.hid (sV_ok hs)
 have hf2 : (256 : Int) ≤ (ns.length : Int) := by omega
 simp only [lgL, List.cons_append, List.nil_append] at hst
 obtain ⟨g, m, c, lc, Mn, Ma, A, O, nm, am⟩ := p
 simp only at *
 cases hr : lookA s nm with
 | none =>
  have HL := Lib.hid hr
  clear hs hf hm hr
  go_enter Tryz.func10, Tryz.ntmps10
  go_upto_region 1 with (go_big_may; (refine L_boxA (d := some 5) rfl rfl rfl (ev_tmp rfl) ?_; (try clear hnew); intro g5 W5 hnew; replace hst := hst.trans hnew; simp only [List.cons_append, List.nil_append] at hst))
  go_upto_region 3 with (go_big_may; (go_at_call 34; (try clear hnew); refine (HN.out _).mono ?_; rintro e Wk2 ⟨rfl, hnew⟩; replace hst := hst.keep hnew))
  go_upto_region 4 with (go_big_may; first | (refine L_look2n (fk := sV) (fv := lsV) (y := s) (l := nm) (d := some 26) rfl rfl rfl keyed_str Tryz.underlying77 el_log_last (ev_tmp rfl) (ev_tmp rfl) sV_inj HO.out HD.out HS.out (hst.obj 4 rfl) HL.out ?_) | (refine L_load1 (d := some 24) rfl rfl rfl (by rfl) Tryz.underlying77 rfl (by (exact cell_of (hst.get 1 rfl) lgArr_2)) ?_) | (refine L_allocA (d := some 8) rfl rfl rfl el_log_last ?_; (try clear hnew); intro g8 W8 hnew; replace hst := hst.trans hnew; simp only [List.cons_append, List.nil_append] at hst) | (refine wpl_at (.store 85 (.tmp 8) (.tmp 27)) rfl ?_; (refine L_storeA rfl rfl hst rfl (by rfl) (ev_tmp rfl) (by (exact lsArr_all _ _ _ _ _)) el_log_last (by (rfl)) 0 rfl (by (rfl)) ?_; clear hst; intro WS10 hst; simp only [List.set_cons_zero, List.set_cons_succ] at hst)))
  go_upto_region 5 with (first | (with_reducible refine L_pass (t := 36) rfl (by kernel_rfl) ?_) | (with_reducible refine L_pass (t := 37) rfl (by kernel_rfl) ?_) | (with_reducible refine L_pass (t := 38) rfl (by kernel_rfl) ?_) | (with_reducible refine L_pass (t := 39) rfl (by kernel_rfl) ?_) | (with_reducible refine L_pass (t := 40) rfl (by kernel_rfl) ?_) | (with_reducible refine L_pass (t := 41) rfl (by kernel_rfl) ?_) | (with_reducible refine L_pass (t := 42) rfl (by kernel_rfl) ?_) | (with_reducible refine L_pass (t := 43) rfl (by kernel_rfl) ?_) | (with_reducible refine L_pass (t := 44) rfl (by kernel_rfl) ?_) | (with_reducible refine L_pass (t := 45) rfl (by kernel_rfl) ?_) | (go_big_may; (refine L_load1 (d := some 32) rfl rfl rfl (by rfl) Tryz.underlying44 rfl (by (exact cell_of (hst.get 2 rfl) lgArr_1)) ?_)))
  go_wp2_with (fail)
  go_ret2
  refine .inr ⟨by rw [HE.out]; decide, by rw [HE.out]; rfl, ?_⟩
  simp only [lgL, List.cons_append, List.nil_append]
  exact hst.tail.tail
 | some x =>
  have HL := Lib.hid hr
  obtain ⟨⟨a1, a2, a3⟩, a4, a5⟩ := x
  clear hs hf hm hr
  go_enter Tryz.func10, Tryz.ntmps10
  go_upto_region 1 with (go_big_may; (refine L_boxA (d := some 5) rfl rfl rfl (ev_tmp rfl) ?_; (try clear hnew); intro g5 W5 hnew; replace hst := hst.trans hnew; simp only [List.cons_append, List.nil_append] at hst))
  go_upto_region 3 with (go_big_may; (go_at_call 34; (try clear hnew); refine (HN.out _).mono ?_; rintro e Wk3 ⟨rfl, hnew⟩; replace hst := hst.keep hnew))
  go_upto_region 4 with (go_big_may; first | (refine L_look2s (fk := sV) (fv := lsV) (y := s) (l := nm) (d := some 26) rfl rfl rfl keyed_str Tryz.underlying77 el_log_last (ev_tmp rfl) (ev_tmp rfl) sV_inj HO.out HD.out HS.out (hst.obj 4 rfl) HL.out ?_) | (refine L_load1 (d := some 24) rfl rfl rfl (by rfl) Tryz.underlying77 rfl (by (exact cell_of (hst.get 1 rfl) lgArr_2)) ?_) | (refine L_allocA (d := some 8) rfl rfl rfl el_log_last ?_; (try clear hnew); intro g8 W8 hnew; replace hst := hst.trans hnew; simp only [List.cons_append, List.nil_append] at hst) | (refine wpl_at (.store 85 (.tmp 8) (.tmp 27)) rfl ?_; (refine L_storeA rfl rfl hst rfl (by rfl) (ev_tmp rfl) (by (exact lsArr_all _ _ _ _ _)) el_log_last (by (exact lsArr_size _ _ _ _ _)) 0 rfl (by (rfl)) ?_; clear hst; intro WS10 hst; simp only [List.set_cons_zero, List.set_cons_succ] at hst)))
  go_upto_region 5 with (first | (with_reducible refine L_pass (t := 36) rfl (by kernel_rfl) ?_) | (with_reducible refine L_pass (t := 37) rfl (by kernel_rfl) ?_) | (with_reducible refine L_pass (t := 38) rfl (by kernel_rfl) ?_) | (with_reducible refine L_pass (t := 39) rfl (by kernel_rfl) ?_) | (with_reducible refine L_pass (t := 40) rfl (by kernel_rfl) ?_) | (with_reducible refine L_pass (t := 41) rfl (by kernel_rfl) ?_) | (with_reducible refine L_pass (t := 42) rfl (by kernel_rfl) ?_) | (with_reducible refine L_pass (t := 43) rfl (by kernel_rfl) ?_) | (with_reducible refine L_pass (t := 44) rfl (by kernel_rfl) ?_) | (with_reducible refine L_pass (t := 45) rfl (by kernel_rfl) ?_) | (go_big_may; (refine L_load1 (d := some 32) rfl rfl rfl (by rfl) Tryz.underlying44 rfl (by (exact cell_of (hst.get 2 rfl) lgArr_1)) ?_)))
  go_wp2_with (fail)
  go_ret2
  refine .inr ⟨by rw [HE.out]; decide, by rw [HE.out]; rfl, ?_⟩
  simp only [lgL, List.cons_append, List.nil_append]
  exact hst.tail.tail
end Go.Proofs.YtaebeemnipafbaaGreatDoor

set_option linter.unusedSimpArgs false
set_option linter.unusedVariables false
namespace Go.Proofs.YtaebeemnipafbaaGreatDoor
open Go.RowKit
set_option maxHeartbeats 4000000 in
set_option maxRecDepth 100000 in
theorem add_full2 (key : List UInt8) (ns : List NoteN) (s : List UInt8) (k : Dig) (p : LgP) (w0 w : World) (L : List Res) (hst : St w0 w (lgL p key ns ++ L)) (hm : MapsOf ns p.nm p.am) (hs : isNm s = true) (hf : ¬ 256 ≤ ns.length) (hn : lastI ns s = none) (hc : 64 ≤ namesC ns) :
  Calls Tryz.prog 10 #[.pointer (some ⟨p.g, 0, none⟩), .string (bsOf s), k.v] w (AddEnd key ns s k p w0 L) := by
 have HN := Lib.hid (fun w => by have := named_any s w; rw [hs] at this; exact this)
 have HE := Lib.hid (show addE ns s = 4 by unfold addE; rw [if_pos hs, if_pos (.inr ⟨hn, hc⟩)])
 have HO := Lib.hid hm.ksO
 have HD := Lib.hid hm.nd
 have HS := Lib.hid (sV_ok hs)
 have hf2 : ¬ (256 : Int) ≤ (ns.length : Int) := by omega
 have hr : lookA s p.nm = none := by rw [hm.look, atName, hn]; rfl
 have hcc : (64 : Int) ≤ (p.nm.length : Int) := by rw [hm.len]; omega
 simp only [lgL, List.cons_append, List.nil_append] at hst
 obtain ⟨g, m, c, lc, Mn, Ma, A, O, nm, am⟩ := p
 simp only at *
 have HL := Lib.hid hr
 clear hs hf hm hr hn hc
 go_enter Tryz.func10, Tryz.ntmps10
 go_upto_region 1 with (go_big_may; (refine L_boxA (d := some 5) rfl rfl rfl (ev_tmp rfl) ?_; (try clear hnew); intro g5 W5 hnew; replace hst := hst.trans hnew; simp only [List.cons_append, List.nil_append] at hst))
 go_upto_region 3 with (go_big_may; (go_at_call 34; (try clear hnew); refine (HN.out _).mono ?_; rintro e Wk1 ⟨rfl, hnew⟩; replace hst := hst.keep hnew))
 go_upto_region 4 with (go_big_may; first | (refine L_look2n (fk := sV) (fv := lsV) (y := s) (l := nm) (d := some 26) rfl rfl rfl keyed_str Tryz.underlying77 el_log_last (ev_tmp rfl) (ev_tmp rfl) sV_inj HO.out HD.out HS.out (hst.obj 4 rfl) HL.out ?_) | (refine L_load1 (d := some 24) rfl rfl rfl (by rfl) Tryz.underlying77 rfl (by (exact cell_of (hst.get 1 rfl) lgArr_2)) ?_) | (refine L_allocA (d := some 8) rfl rfl rfl el_log_last ?_; (try clear hnew); intro g8 W8 hnew; replace hst := hst.trans hnew; simp only [List.cons_append, List.nil_append] at hst) | (refine wpl_at (.store 85 (.tmp 8) (.tmp 27)) rfl ?_; (refine L_storeA rfl rfl hst rfl (by rfl) (ev_tmp rfl) (by (exact lsArr_all _ _ _ _ _)) el_log_last (by (rfl)) 0 rfl (by (rfl)) ?_; clear hst; intro WS10 hst; simp only [List.set_cons_zero, List.set_cons_succ] at hst)))
 go_upto_region 5 with (go_big_may; first | (refine L_lenM (fk := sV) (fv := lsV) (l := nm) (d := some 43) rfl rfl rfl Tryz.underlying77 (ev_tmp rfl) (hst.obj 5 rfl) ?_) | (refine L_load1 (d := some 32) rfl rfl rfl (by rfl) Tryz.underlying44 rfl (by (exact cell_of (hst.get 2 rfl) lgArr_1)) ?_) | (refine L_load1 (d := some 42) rfl rfl rfl (by rfl) Tryz.underlying77 rfl (by (exact cell_of (hst.get 2 rfl) lgArr_2)) ?_))
 go_wp2_with (fail)
 go_ret2
 refine .inr ⟨by rw [HE.out]; decide, by rw [HE.out]; rfl, ?_⟩
 simp only [lgL, List.cons_append, List.nil_append]
 exact hst.tail.tail
set_option maxHeartbeats 8000000 in
set_option maxRecDepth 100000 in
theorem add_twice (key : List UInt8) (ns : List NoteN) (s : List UInt8) (k : Dig) (p : LgP) (w0 w : World) (L : List Res) (hT : Tb w0) (hst : St w0 w (lgL p key ns ++ L)) (hm : MapsOf ns p.nm p.am) (hs : isNm s = true) (hf : ¬ 256 ≤ ns.length) (hc : ¬ (lastI ns s = none ∧ 64 ≤ namesC ns)) (ht : takenN ns s = true) :
  Calls Tryz.prog 10 #[.pointer (some ⟨p.g, 0, none⟩), .string (bsOf s), k.v] w (AddEnd key ns s k p w0 L) := by
 have HT := Lib.hid hT
 have HN := Lib.hid (fun w => by have := named_any s w; rw [hs] at this; exact this)
 have HE := Lib.hid (show addE ns s = 7 by unfold addE; rw [if_pos hs, if_neg (not_or.2 ⟨hf, hc⟩), if_pos ht])
 have HI := Lib.hid (fun (w' : World) (h : Tb w') => index_any s w' h (by have := isNm_len hs; omega))
 have HO := Lib.hid hm.ksO
 have HD := Lib.hid hm.nd
 have HOA := Lib.hid hm.ksOA
 have HDA := Lib.hid hm.ndA
 have HS := Lib.hid (sV_ok hs)
 have HSA := Lib.hid (kInt_ok (n := idxN s) (by have := idxN_lt s; omega))
 obtain ⟨t, ht1, ht2⟩ := (hm.taken s).1 ht
 have HL2 := Lib.hid ht1
 have HNE := Lib.hid (show (!decide (t = s)) = true by rw [decide_eq_false ht2]; rfl)
 have hf2 : ¬ (256 : Int) ≤ (ns.length : Int) := by omega
 have hlen := hm.len
 have hlk := hm.look s
 simp only [lgL, List.cons_append, List.nil_append] at hst
 obtain ⟨g, m, c, lc, Mn, Ma, A, O, nm, am⟩ := p
 simp only at *
 generalize idxN s = ix at *
 cases hr : lookA s nm with
 | none =>
  have hcc : ¬ (64 : Int) ≤ (nm.length : Int) := by
   have h1 : lastI ns s = none := by
    have h2 := atName_isSome ns s
    rw [← hlk, hr] at h2
    cases h3 : lastI ns s with
    | none => rfl
    | some j => rw [h3] at h2; cases h2
   have h4 : ¬ 64 ≤ namesC ns := fun h => hc ⟨h1, h⟩
   rw [hlen]
   omega
  have HL := Lib.hid hr
  clear hT hs hf hm hr hc ht ht1 ht2 hlk hlen
  go_enter Tryz.func10, Tryz.ntmps10
  go_upto_region 1 with (go_big_may; (refine L_boxA (d := some 5) rfl rfl rfl (ev_tmp rfl) ?_; (try clear hnew); intro g5 W5 hnew; replace hst := hst.trans hnew; simp only [List.cons_append, List.nil_append] at hst))
  go_upto_region 3 with (go_big_may; (go_at_call 34; (try clear hnew); refine (HN.out _).mono ?_; rintro e Wk2 ⟨rfl, hnew⟩; replace hst := hst.keep hnew))
  go_upto_region 4 with (go_big_may; first | (refine L_look2n (fk := sV) (fv := lsV) (y := s) (l := nm) (d := some 26) rfl rfl rfl keyed_str Tryz.underlying77 el_log_last (ev_tmp rfl) (ev_tmp rfl) sV_inj HO.out HD.out HS.out (hst.obj 4 rfl) HL.out ?_) | (refine L_load1 (d := some 24) rfl rfl rfl (by rfl) Tryz.underlying77 rfl (by (exact cell_of (hst.get 1 rfl) lgArr_2)) ?_) | (refine L_allocA (d := some 8) rfl rfl rfl el_log_last ?_; (try clear hnew); intro g8 W8 hnew; replace hst := hst.trans hnew; simp only [List.cons_append, List.nil_append] at hst) | (refine wpl_at (.store 85 (.tmp 8) (.tmp 27)) rfl ?_; (refine L_storeA rfl rfl hst rfl (by rfl) (ev_tmp rfl) (by (exact lsArr_all _ _ _ _ _)) el_log_last (by (rfl)) 0 rfl (by (rfl)) ?_; clear hst; intro WS10 hst; simp only [List.set_cons_zero, List.set_cons_succ] at hst)))
  go_upto_region 6 with (go_big_may; first | (refine L_lenM (fk := sV) (fv := lsV) (l := nm) (d := some 43) rfl rfl rfl Tryz.underlying77 (ev_tmp rfl) (hst.obj 5 rfl) ?_) | (refine L_load1 (d := some 32) rfl rfl rfl (by rfl) Tryz.underlying44 rfl (by (exact cell_of (hst.get 2 rfl) lgArr_1)) ?_) | (refine L_load1 (d := some 42) rfl rfl rfl (by rfl) Tryz.underlying77 rfl (by (exact cell_of (hst.get 2 rfl) lgArr_2)) ?_))
  go_upto_region 7 with (go_big_may; (go_at_call 35; (try clear hnew); refine (HI.out _ (HT.out.of hst)).mono ?_; rintro e Wk3 ⟨rfl, hnew⟩; replace hst := hst.keep hnew))
  go_upto_region 8 with (go_big_may; first | (refine L_look2s (fk := kInt) (fv := sV) (y := ix) (l := am) (d := some 56) rfl rfl rfl keyed_int Tryz.underlying78 el_string (ev_tmp rfl) (ev_tmp rfl) kInt_inj HOA.out HDA.out HSA.out (hst.obj 6 rfl) HL2.out ?_) | (refine L_load1 (d := some 54) rfl rfl rfl (by rfl) Tryz.underlying78 rfl (by (exact cell_of (hst.get 2 rfl) lgArr_3)) ?_))
  go_upto_region 9 with (go_big_may; (refine L_neStr (d := some 63) rfl rfl rfl eqG_str Tryz.underlying9 (ev_tmp rfl) (ev_tmp rfl) ?_; (try rw [HNE.out])))
  go_wp2_with (fail)
  go_ret2
  refine .inr ⟨by rw [HE.out]; decide, by rw [HE.out]; rfl, ?_⟩
  simp only [lgL, List.cons_append, List.nil_append]
  exact hst.tail.tail
 | some x =>
  have HL := Lib.hid hr
  obtain ⟨⟨a1, a2, a3⟩, a4, a5⟩ := x
  clear hT hs hf hm hr hc ht ht1 ht2 hlk hlen
  go_enter Tryz.func10, Tryz.ntmps10
  go_upto_region 1 with (go_big_may; (refine L_boxA (d := some 5) rfl rfl rfl (ev_tmp rfl) ?_; (try clear hnew); intro g5 W5 hnew; replace hst := hst.trans hnew; simp only [List.cons_append, List.nil_append] at hst))
  go_upto_region 3 with (go_big_may; (go_at_call 34; (try clear hnew); refine (HN.out _).mono ?_; rintro e Wk4 ⟨rfl, hnew⟩; replace hst := hst.keep hnew))
  go_upto_region 4 with (go_big_may; first | (refine L_look2s (fk := sV) (fv := lsV) (y := s) (l := nm) (d := some 26) rfl rfl rfl keyed_str Tryz.underlying77 el_log_last (ev_tmp rfl) (ev_tmp rfl) sV_inj HO.out HD.out HS.out (hst.obj 4 rfl) HL.out ?_) | (refine L_load1 (d := some 24) rfl rfl rfl (by rfl) Tryz.underlying77 rfl (by (exact cell_of (hst.get 1 rfl) lgArr_2)) ?_) | (refine L_allocA (d := some 8) rfl rfl rfl el_log_last ?_; (try clear hnew); intro g8 W8 hnew; replace hst := hst.trans hnew; simp only [List.cons_append, List.nil_append] at hst) | (refine wpl_at (.store 85 (.tmp 8) (.tmp 27)) rfl ?_; (refine L_storeA rfl rfl hst rfl (by rfl) (ev_tmp rfl) (by (exact lsArr_all _ _ _ _ _)) el_log_last (by (exact lsArr_size _ _ _ _ _)) 0 rfl (by (rfl)) ?_; clear hst; intro WS10 hst; simp only [List.set_cons_zero, List.set_cons_succ] at hst)))
  go_upto_region 6 with (first | (with_reducible refine L_pass (t := 39) rfl (by kernel_rfl) ?_) | (with_reducible refine L_pass (t := 40) rfl (by kernel_rfl) ?_) | (with_reducible refine L_pass (t := 41) rfl (by kernel_rfl) ?_) | (with_reducible refine L_pass (t := 42) rfl (by kernel_rfl) ?_) | (with_reducible refine L_pass (t := 43) rfl (by kernel_rfl) ?_) | (with_reducible refine L_pass (t := 44) rfl (by kernel_rfl) ?_) | (go_big_may; (refine L_load1 (d := some 32) rfl rfl rfl (by rfl) Tryz.underlying44 rfl (by (exact cell_of (hst.get 2 rfl) lgArr_1)) ?_)))
  go_upto_region 7 with (go_big_may; (go_at_call 35; (try clear hnew); refine (HI.out _ (HT.out.of hst)).mono ?_; rintro e Wk5 ⟨rfl, hnew⟩; replace hst := hst.keep hnew))
  go_upto_region 8 with (go_big_may; first | (refine L_look2s (fk := kInt) (fv := sV) (y := ix) (l := am) (d := some 56) rfl rfl rfl keyed_int Tryz.underlying78 el_string (ev_tmp rfl) (ev_tmp rfl) kInt_inj HOA.out HDA.out HSA.out (hst.obj 6 rfl) HL2.out ?_) | (refine L_load1 (d := some 54) rfl rfl rfl (by rfl) Tryz.underlying78 rfl (by (exact cell_of (hst.get 2 rfl) lgArr_3)) ?_))
  go_upto_region 9 with (go_big_may; (refine L_neStr (d := some 63) rfl rfl rfl eqG_str Tryz.underlying9 (ev_tmp rfl) (ev_tmp rfl) ?_; (try rw [HNE.out])))
  go_wp2_with (fail)
  go_ret2
  refine .inr ⟨by rw [HE.out]; decide, by rw [HE.out]; rfl, ?_⟩
  simp only [lgL, List.cons_append, List.nil_append]
  exact hst.tail.tail
end Go.Proofs.YtaebeemnipafbaaGreatDoor

set_option maxRecDepth 20000
set_option linter.unusedSimpArgs false
set_option linter.unusedVariables false
namespace Go.Proofs.YtaebeemnipafbaaGreatDoor
open Go.RowKit
theorem lvN_snoc (ns : List NoteN) (n : NoteN) : digsL (lvN ns) ++ (ntLeaf n).arr.toList = digsL (lvN (ns ++ [n])) := by simp [lvN, digsL, Dig.toList]
theorem snoc_len (ns : List NoteN) (n : NoteN) : ((ns ++ [n]).length) = ns.length + 1 := by simp
set_option maxHeartbeats 16000000 in
set_option maxRecDepth 100000 in
theorem add_ok_nn (key : List UInt8) (ns : List NoteN) (s : List UInt8) (k : Dig) (p : LgP) (w0 w : World) (L : List Res) (hT : Tb w0) (hst : St w0 w (lgL p key ns ++ L)) (hm : MapsOf ns p.nm p.am) (hl : Logged ns) (he : addE ns s = 0) (hx : atName ns s = none) (hi : lookA (idxN s) p.am = none) :
  Calls Tryz.prog 10 #[.pointer (some ⟨p.g, 0, none⟩), .string (bsOf s), k.v] w (AddEnd key ns s k p w0 L) := by
 have HT := Lib.hid hT
 obtain ⟨hs, hlen, hnc, hid⟩ := addE_zero he
 have HN := Lib.hid (fun w => by have := named_any s w; rw [hs] at this; exact this)
 have HE := Lib.hid he
 have HI := Lib.hid (fun (w' : World) (h : Tb w') => index_any s w' h (by have := isNm_len hs; omega))
 have HO := Lib.hid hm.ksO
 have HD := Lib.hid hm.nd
 have HOA := Lib.hid hm.ksOA
 have HDA := Lib.hid hm.ndA
 have HS := Lib.hid (sV_ok hs)
 have HSA := Lib.hid (kInt_ok (n := idxN s) (by have := idxN_lt s; omega))
 have hf2 : ¬ (256 : Int) ≤ (ns.length : Int) := by omega
 have HM := Lib.hid (hm.add he k)
 have htl := hl.turn_le s
 have HLF := Lib.hid (fun (w' : World) (h : Tb w') => leafOf_any (newN ns s k) w' h (hl.new_ok hs k))
 have HLV := Lib.hid (lvN_snoc ns (newN ns s k))
 have hx1 : lastI ns s = none := by
  have h2 := atName_isSome ns s
  rw [hx] at h2
  cases h3 : lastI ns s with
  | none => rfl
  | some j => rw [h3] at h2; cases h2
 have htu : turnN ns s = 0 := by unfold turnN lastN?; rw [hx1]; rfl
 have HL := Lib.hid (show lookA s p.nm = none by rw [hm.look]; exact hx)
 have hcc : ¬ (64 : Int) ≤ (p.nm.length : Int) := by have := hnc hx1; rw [hm.len]; omega
 have HL2 := Lib.hid hi
 have HEQ := Lib.hid (show (!decide (s = s)) = false by simp)
 simp only [lgL, List.cons_append, List.nil_append] at hst
 obtain ⟨g, m, c, lc, Mn, Ma, A, O, nm, am⟩ := p
 simp only at *
 obtain ⟨n', hn'⟩ : ∃ n', n' = newN ns s k := ⟨_, rfl⟩
 obtain ⟨df, hdf⟩ : ∃ df, df = ntLeaf (newN ns s k) := ⟨_, rfl⟩
 have HDF := Lib.hid hdf
 have HNN := Lib.hid hn'
 rw [← hn'] at HM hdf HLF HLV
 rw [← hdf] at HLF HLV HM
 have hn2 : (n'.name = s ∧ n'.key = k ∧ n'.turn = turnN ns s) := by rw [hn']; exact ⟨rfl, rfl, rfl⟩
 obtain ⟨q1, q2, q3⟩ := hn2
 rw [q1, q2, q3] at HLF
 obtain ⟨tt, htt⟩ : ∃ tt, tt = turnN ns s := ⟨_, rfl⟩
 rw [← htt] at HLF htl htu q3
 have hn3 : n' = ⟨s, k, tt⟩ := NoteN.ext' q1 q2 q3
 generalize idxN s = ix at *
 subst htu
 have hl256 : ns.length ≤ 256 := by omega
 clear hT hs hm hl he hx hi htl hdf hn' hid hnc hlen q1 q2 q3 hx1 htt
 subst hn3
 go_enter Tryz.func10, Tryz.ntmps10
 go_upto_region 1 with (go_big_may; (refine L_boxA (d := some 5) rfl rfl rfl (ev_tmp rfl) ?_; (try clear hnew); intro g5 W5 hnew; replace hst := hst.trans hnew; simp only [List.cons_append, List.nil_append] at hst))
 go_upto_region 3 with (go_big_may; (go_at_call 34; (try clear hnew); refine (HN.out _).mono ?_; rintro e Wk1 ⟨rfl, hnew⟩; replace hst := hst.keep hnew))
 go_upto_region 4 with (go_big_may; first | (refine L_look2n (fk := sV) (fv := lsV) (y := s) (l := nm) (d := some 26) rfl rfl rfl keyed_str Tryz.underlying77 el_log_last (ev_tmp rfl) (ev_tmp rfl) sV_inj HO.out HD.out HS.out (hst.obj 4 rfl) HL.out ?_) | (refine L_load1 (d := some 24) rfl rfl rfl (by rfl) Tryz.underlying77 rfl (by (exact cell_of (hst.get 1 rfl) lgArr_2)) ?_) | (refine L_allocA (d := some 8) rfl rfl rfl el_log_last ?_; (try clear hnew); intro g8 W8 hnew; replace hst := hst.trans hnew; simp only [List.cons_append, List.nil_append] at hst) | (refine wpl_at (.store 85 (.tmp 8) (.tmp 27)) rfl ?_; (refine L_storeA rfl rfl hst rfl (by rfl) (ev_tmp rfl) (by (exact lsArr_all _ _ _ _ _)) el_log_last (by (rfl)) 0 rfl (by (rfl)) ?_; clear hst; intro WS10 hst; simp only [List.set_cons_zero, List.set_cons_succ] at hst)))
 go_upto_region 6 with (go_big_may; first | (refine L_lenM (fk := sV) (fv := lsV) (l := nm) (d := some 43) rfl rfl rfl Tryz.underlying77 (ev_tmp rfl) (hst.obj 5 rfl) ?_) | (refine L_load1 (d := some 32) rfl rfl rfl (by rfl) Tryz.underlying44 rfl (by (exact cell_of (hst.get 2 rfl) lgArr_1)) ?_) | (refine L_load1 (d := some 42) rfl rfl rfl (by rfl) Tryz.underlying77 rfl (by (exact cell_of (hst.get 2 rfl) lgArr_2)) ?_))
 go_upto_region 7 with (go_big_may; (go_at_call 35; (try clear hnew); refine (HI.out _ (HT.out.of hst)).mono ?_; rintro e Wk2 ⟨rfl, hnew⟩; replace hst := hst.keep hnew))
 go_upto_region 8 with (go_big_may; first | (refine L_look2n (fk := kInt) (fv := sV) (y := ix) (l := am) (d := some 56) rfl rfl rfl keyed_int Tryz.underlying78 el_string (ev_tmp rfl) (ev_tmp rfl) kInt_inj HOA.out HDA.out HSA.out (hst.obj 6 rfl) HL2.out ?_) | (refine L_load1 (d := some 54) rfl rfl rfl (by rfl) Tryz.underlying78 rfl (by (exact cell_of (hst.get 2 rfl) lgArr_3)) ?_))
 go_upto_region 10 with (first | (with_reducible refine L_pass (t := 61) rfl (by kernel_rfl) ?_) | (with_reducible refine L_pass (t := 62) rfl (by kernel_rfl) ?_) | (with_reducible refine L_pass (t := 63) rfl (by kernel_rfl) ?_))
 go_upto_region 11 with (go_big_may; first | (refine L_buildN (d := some 68) rfl rfl rfl (ev_tmp rfl) (ev_tmp rfl) ?_) | ((refine L_loadA (d := some 67) rfl rfl rfl (by rfl) Tryz.underlying32 rfl el_api_Digest (by (exact hst.get 1 rfl)) (by (exact Dig.size _)) ?_)) | (refine L_allocA (d := some 13) rfl rfl rfl el_api_Note ?_; (try clear hnew); intro g13 W13 hnew; replace hst := hst.trans hnew; simp only [List.cons_append, List.nil_append] at hst) | (refine wpl_at (.store 34 (.tmp 13) (.tmp 68)) rfl ?_; (refine L_storeA rfl rfl hst rfl (by rfl) (ev_tmp rfl) (by (exact ntArr_all _ _ _)) el_api_Note (by (exact ntArr_size _ _ _)) 0 rfl (by (rfl)) ?_; clear hst; intro WS4 hst; simp only [List.set_cons_zero, List.set_cons_succ] at hst)))
 go_upto_region 13 with (go_big_may; fail)
 go_upto_region 14 with (go_big_may; first | (go_at_call 36; (try clear hnew); refine (HLF.out _ (HT.out.of hst)).mono ?_; rintro e Wk3 ⟨rfl, hnew⟩; replace hst := hst.keep hnew) | ((refine L_loadA (d := some 76) rfl rfl rfl (by rfl) Tryz.underlying34 rfl el_api_Note (by (exact hst.get 0 rfl)) (by (exact ntArr_size _ _ _)) ?_)) | (refine L_allocA (d := some 14) rfl rfl rfl el_api_Digest ?_; (try clear hnew); intro g14 W14 hnew; replace hst := hst.trans hnew; simp only [List.cons_append, List.nil_append] at hst) | (refine wpl_at (.store 32 (.tmp 14) (.tmp 78)) rfl ?_; (refine L_storeA rfl rfl hst rfl (by rfl) (ev_tmp rfl) (by (exact Dig.one _)) el_api_Digest (by (exact Dig.size _)) 0 rfl (by (rfl)) ?_; clear hst; intro WS6 hst; simp only [List.set_cons_zero, List.set_cons_succ] at hst)))
 go_upto_region 16 with (go_big_may; fail)
 clear hnew
 refine wp_region_idx [(0, 0), (1, 0), (2, 0), (3, 0), (4, 0), (5, 0), (6, 0), (7, 0), (8, 0), (9, 0), (10, 0), (11, 2), (12, 2), (13, 1)] (by kernel_rfl) (by kernel_rfl) ?_
 replace hst := hst.drew
 refine idx_q rfl rfl ?_; go_wp2_with fail
 refine idx_q rfl rfl ?_; go_wp2_with fail
 refine idx_qf rfl rfl (by kernel_rfl) ?_; go_wp2_with fail
 refine idx_q rfl rfl ?_; go_wp2_with ((refine L_load1 (d := some 86) rfl rfl rfl (by rfl) Tryz.underlying77 rfl (by (exact cell_of (hst.get 4 rfl) lgArr_2)) ?_))
 refine idx_q rfl rfl ?_; go_wp2_with fail
 refine idx_q rfl rfl ?_; go_wp2_with (((refine L_loadA (d := some 88) rfl rfl rfl (by rfl) Tryz.underlying34 rfl el_api_Note (by (exact hst.get 1 rfl)) (by (exact ntArr_size _ _ _)) ?_)))
 refine idx_q rfl rfl ?_; go_wp2_with fail
 refine idx_q rfl rfl ?_; go_wp2_with fail
 refine idx_qf rfl rfl (by kernel_rfl) ?_; go_wp2_with fail
 refine idx_q rfl rfl ?_; go_wp2_with ((refine L_load1 (d := some 92) rfl rfl rfl (by rfl) Tryz.underlying44 rfl (by (exact cell_of (hst.get 4 rfl) lgArr_1)) ?_))
 refine idx_q rfl rfl ?_; go_wp2_with (fail)
 refine idx_g rfl ?_; go_wp2_with (((refine L_loadA (d := some 94) rfl rfl rfl (by rfl) Tryz.underlying32 rfl el_api_Digest (by (exact hst.get 0 rfl)) (by (exact Dig.size _)) ?_))); refine ⟨by (exact Below.refl _ _), ?_⟩
 refine idx_g rfl ?_; go_wp2_with ((refine L_buildL (d := some 95) rfl rfl rfl (ev_tmp rfl) (ev_tmp rfl) (ev_tmp rfl) ?_)); refine ⟨by (exact Below.refl _ _), ?_⟩
 refine idx_e rfl ?_; go_wp2_with ((refine L_mapUpd (fk := sV) (fv := lsV) (l := nm) (u := s) (v := (⟨s, k, 0⟩, ns.length, df)) rfl rfl hst rfl keyed_str Tryz.underlying77 (ev_tmp rfl) (ev_tmp rfl) (ev_tmp rfl) sV_inj HO.out HD.out HS.out 7 rfl ?_; clear hst; intro WM hst; simp only [List.set_cons_zero, List.set_cons_succ] at hst))
 refine idx_nil ?_
 go_upto_region 18 with (go_big_may; first | (refine L_mapUpd (fk := kInt) (fv := sV) (l := am) (u := ix) (v := s) rfl rfl hst rfl keyed_int Tryz.underlying78 (ev_tmp rfl) (ev_tmp rfl) (ev_tmp rfl) kInt_inj HOA.out HDA.out HSA.out 8 rfl ?_; clear hst; intro WN hst; simp only [List.set_cons_zero, List.set_cons_succ] at hst) | (refine L_load1 (d := some 99) rfl rfl rfl (by rfl) Tryz.underlying78 rfl (by (exact cell_of (hst.get 4 rfl) lgArr_3)) ?_))
 refine wp_region_pm (.one 0 3 (.one 1 3 (.one 2 0 (.one 3 0 (.one 4 0 (.one 5 2 (.one 6 2 (.one 7 1 (.one 8 2 (.one 9 2 (.one 10 1 .nil))))))))))) (by kernel_rfl) (by kernel_rfl) ?_
 replace hst := hst.drew
 refine pm_p rfl rfl ?_; go_wp2_with fail
 refine pm_p rfl rfl ?_; go_wp2_with fail
 refine pm_q rfl rfl ?_; go_wp2_with fail
 refine pm_qf rfl rfl (by kernel_rfl) ?_; go_wp2_with fail
 refine pm_q rfl rfl ?_; go_wp2_with ((refine L_load1 (d := some 106) rfl rfl rfl (by rfl) Tryz.underlying44 rfl (by (exact cell_of (hst.get 4 rfl) lgArr_1)) ?_))
 refine pm_g rfl ?_; go_wp2_with (((refine L_loadA (d := some 107) rfl rfl rfl (by rfl) Tryz.underlying32 rfl el_api_Digest (by (exact hst.get 0 rfl)) (by (exact Dig.size _)) ?_))); refine ⟨by (exact Below.refl _ _), ?_⟩
 refine pm_g rfl ?_; go_wp2_with ((refine L_buildS (d := some 108) rfl rfl rfl [_] (bs_1 (ev_tmp rfl)) rfl Tryz.underlying44 el_api_Digest rfl (by (simp [Value.cells, Dig.size]; done)) (by decide) (by decide) ?_; (try clear hnew); intro g108 W108 hnew; replace hst := hst.trans hnew; simp only [List.cons_append, List.nil_append] at hst; simp only [List.flatMap_cons, List.flatMap_nil, List.append_nil, Value.cells, List.toList_toArray] at hst)); refine ⟨by (exact hnew.below), ?_⟩
 refine pm_e rfl ?_; go_wp2_with ((refine L_appendO (d := some 109) rfl rfl hst rfl (by rfl) (by rfl) Tryz.underlying44 el_api_Digest rfl (by decide) (by decide) 7 rfl (by (rfl)) (by (exact hst.sl 0 rfl)) (by (exact oneCell_bytes)) (by omega) ?_; clear hst; intro A109 c109 W109 hst; simp only [List.set_cons_zero, List.set_cons_succ, List.nil_append, Nat.zero_add] at hst))
 refine pm_g rfl ?_; go_wp2_with fail; refine ⟨by (exact Below.refl _ _), ?_⟩
 refine pm_g rfl ?_; go_wp2_with fail; refine ⟨by (exact Below.refl _ _), ?_⟩
 refine pm_e rfl ?_; go_wp2_with ((refine wpl_at (.store 44 (.tmp 111) (.tmp 109)) rfl ?_; (refine L_store1 rfl rfl hst rfl (by rfl) (ev_tmp rfl) rfl el_S_api_Digest 5 rfl (by (exact of_decide_eq_true rfl)) ?_; clear hst; intro WS10 hst; simp only [List.set_cons_zero, List.set_cons_succ, lgArr_s1 _ _ _, HLV.out] at hst)))
 refine pm_nil ?_
 go_wp2_with ((refine L_load1 (d := some 115) rfl rfl rfl (by rfl) Tryz.underlying44 rfl (by (exact cell_of (hst.get 5 rfl) lgArr_1)) ?_))
 go_ret2
 refine .inl ⟨HE.out, ?_, ⟨g, m, c, c109, Mn, Ma, A, A109, updA s (⟨s, k, 0⟩, ns.length, df) nm, updA ix s am⟩, rfl, rfl, ?_, ?_⟩
 ·(rfl)
 ·rw [← HNN.out]
  exact HM.out
 ·simp only [lgL, List.cons_append, List.nil_append]
  rw [← HNN.out, snoc_len]
  exact hst.tail.tail.tail.tail.tail
end Go.Proofs.YtaebeemnipafbaaGreatDoor

set_option linter.unusedSimpArgs false
set_option linter.unusedVariables false
namespace Go.Proofs.YtaebeemnipafbaaGreatDoor
open Go.RowKit
attribute [local simp] ntArr_size
set_option maxHeartbeats 16000000 in
set_option maxRecDepth 100000 in
theorem add_ok_hi (key : List UInt8) (ns : List NoteN) (s : List UInt8) (k : Dig) (p : LgP) (w0 w : World) (L : List Res) (hT : Tb w0) (hst : St w0 w (lgL p key ns ++ L)) (hm : MapsOf ns p.nm p.am) (hl : Logged ns) (he : addE ns s = 0) (x : NoteN × Nat × Dig) (hx : atName ns s = some x) (hi : lookA (idxN s) p.am = some s) :
  Calls Tryz.prog 10 #[.pointer (some ⟨p.g, 0, none⟩), .string (bsOf s), k.v] w (AddEnd key ns s k p w0 L) := by
 have HT := Lib.hid hT
 obtain ⟨hs, hlen, hnc, hid⟩ := addE_zero he
 have HN := Lib.hid (fun w => by have := named_any s w; rw [hs] at this; exact this)
 have HE := Lib.hid he
 have HI := Lib.hid (fun (w' : World) (h : Tb w') => index_any s w' h (by have := isNm_len hs; omega))
 have HO := Lib.hid hm.ksO
 have HD := Lib.hid hm.nd
 have HOA := Lib.hid hm.ksOA
 have HDA := Lib.hid hm.ndA
 have HS := Lib.hid (sV_ok hs)
 have HSA := Lib.hid (kInt_ok (n := idxN s) (by have := idxN_lt s; omega))
 have hf2 : ¬ (256 : Int) ≤ (ns.length : Int) := by omega
 have HM := Lib.hid (hm.add he k)
 have htl := hl.turn_le s
 have HLF := Lib.hid (fun (w' : World) (h : Tb w') => leafOf_any (newN ns s k) w' h (hl.new_ok hs k))
 have HLV := Lib.hid (lvN_snoc ns (newN ns s k))
 have hx4 := (atName_some hx).2.2.2
 have htu : turnN ns s = x.1.turn + 1 := by unfold turnN; rw [hx4]
 have HL := Lib.hid (show lookA s p.nm = some x by rw [hm.look]; exact hx)
 have HL2 := Lib.hid hi
 have HEQ := Lib.hid (show (!decide (s = s)) = false by simp)
 simp only [lgL, List.cons_append, List.nil_append] at hst
 obtain ⟨g, m, c, lc, Mn, Ma, A, O, nm, am⟩ := p
 obtain ⟨⟨a1, a2, a3⟩, a4, a5⟩ := x
 simp only at *
 obtain ⟨n', hn'⟩ : ∃ n', n' = newN ns s k := ⟨_, rfl⟩
 obtain ⟨df, hdf⟩ : ∃ df, df = ntLeaf (newN ns s k) := ⟨_, rfl⟩
 have HDF := Lib.hid hdf
 have HNN := Lib.hid hn'
 rw [← hn'] at HM hdf HLF HLV
 rw [← hdf] at HLF HLV HM
 have hn2 : (n'.name = s ∧ n'.key = k ∧ n'.turn = turnN ns s) := by rw [hn']; exact ⟨rfl, rfl, rfl⟩
 obtain ⟨q1, q2, q3⟩ := hn2
 rw [q1, q2, q3] at HLF
 obtain ⟨tt, htt⟩ : ∃ tt, tt = turnN ns s := ⟨_, rfl⟩
 rw [← htt] at HLF htl htu q3
 have hn3 : n' = ⟨s, k, tt⟩ := NoteN.ext' q1 q2 q3
 generalize idxN s = ix at *
 have HTT := Lib.hid htu
 have ha3 : 0 ≤ a3 + 1 ∧ a3 + 1 ≤ 256 := by omega
 obtain ⟨ha31, ha32⟩ := ha3
 have hl256 : ns.length ≤ 256 := by omega
 clear hT hs hm hl he hx hi htl hdf hn' hid hnc hlen q1 q2 q3 htu hx4 htt
 subst hn3
 go_enter Tryz.func10, Tryz.ntmps10
 go_upto_region 1 with (go_big_may; (refine L_boxA (d := some 5) rfl rfl rfl (ev_tmp rfl) ?_; (try clear hnew); intro g5 W5 hnew; replace hst := hst.trans hnew; simp only [List.cons_append, List.nil_append] at hst))
 go_upto_region 3 with (go_big_may; (go_at_call 34; (try clear hnew); refine (HN.out _).mono ?_; rintro e Wk1 ⟨rfl, hnew⟩; replace hst := hst.keep hnew))
 go_upto_region 4 with (go_big_may; first | (refine L_look2s (fk := sV) (fv := lsV) (y := s) (l := nm) (d := some 26) rfl rfl rfl keyed_str Tryz.underlying77 el_log_last (ev_tmp rfl) (ev_tmp rfl) sV_inj HO.out HD.out HS.out (hst.obj 4 rfl) HL.out ?_) | (refine L_load1 (d := some 24) rfl rfl rfl (by rfl) Tryz.underlying77 rfl (by (exact cell_of (hst.get 1 rfl) lgArr_2)) ?_) | (refine L_allocA (d := some 8) rfl rfl rfl el_log_last ?_; (try clear hnew); intro g8 W8 hnew; replace hst := hst.trans hnew; simp only [List.cons_append, List.nil_append] at hst) | (refine wpl_at (.store 85 (.tmp 8) (.tmp 27)) rfl ?_; (refine L_storeA rfl rfl hst rfl (by rfl) (ev_tmp rfl) (by (exact lsArr_all _ _ _ _ _)) el_log_last (by (exact lsArr_size _ _ _ _ _)) 0 rfl (by (rfl)) ?_; clear hst; intro WS10 hst; simp only [List.set_cons_zero, List.set_cons_succ] at hst)))
 go_upto_region 6 with (first | (with_reducible refine L_pass (t := 39) rfl (by kernel_rfl) ?_) | (with_reducible refine L_pass (t := 40) rfl (by kernel_rfl) ?_) | (with_reducible refine L_pass (t := 41) rfl (by kernel_rfl) ?_) | (with_reducible refine L_pass (t := 42) rfl (by kernel_rfl) ?_) | (with_reducible refine L_pass (t := 43) rfl (by kernel_rfl) ?_) | (with_reducible refine L_pass (t := 44) rfl (by kernel_rfl) ?_) | (go_big_may; (refine L_load1 (d := some 32) rfl rfl rfl (by rfl) Tryz.underlying44 rfl (by (exact cell_of (hst.get 2 rfl) lgArr_1)) ?_)))
 go_upto_region 7 with (go_big_may; (go_at_call 35; (try clear hnew); refine (HI.out _ (HT.out.of hst)).mono ?_; rintro e Wk2 ⟨rfl, hnew⟩; replace hst := hst.keep hnew))
 go_upto_region 8 with (go_big_may; first | (refine L_look2s (fk := kInt) (fv := sV) (y := ix) (l := am) (d := some 56) rfl rfl rfl keyed_int Tryz.underlying78 el_string (ev_tmp rfl) (ev_tmp rfl) kInt_inj HOA.out HDA.out HSA.out (hst.obj 6 rfl) HL2.out ?_) | (refine L_load1 (d := some 54) rfl rfl rfl (by rfl) Tryz.underlying78 rfl (by (exact cell_of (hst.get 2 rfl) lgArr_3)) ?_))
 go_upto_region 10 with (go_big_may; (refine L_neStr (d := some 63) rfl rfl rfl eqG_str Tryz.underlying9 (ev_tmp rfl) (ev_tmp rfl) ?_; (try rw [HEQ.out])))
 go_upto_region 11 with (go_big_may; first | (refine L_buildN (d := some 68) rfl rfl rfl (ev_tmp rfl) (ev_tmp rfl) ?_) | ((refine L_loadA (d := some 67) rfl rfl rfl (by rfl) Tryz.underlying32 rfl el_api_Digest (by (exact hst.get 1 rfl)) (by (exact Dig.size _)) ?_)) | (refine L_allocA (d := some 13) rfl rfl rfl el_api_Note ?_; (try clear hnew); intro g13 W13 hnew; replace hst := hst.trans hnew; simp only [List.cons_append, List.nil_append] at hst) | (refine wpl_at (.store 34 (.tmp 13) (.tmp 68)) rfl ?_; (refine L_storeA rfl rfl hst rfl (by rfl) (ev_tmp rfl) (by (exact ntArr_all _ _ _)) el_api_Note (by (exact ntArr_size _ _ _)) 0 rfl (by (rfl)) ?_; clear hst; intro WS4 hst; simp only [List.set_cons_zero, List.set_cons_succ] at hst)))
 go_upto_region 12 with (go_big_may; fail)
 (try clear hnew)
 go_upto_region 13 with (go_big_may; first | (refine L_load1 (d := some 72) rfl rfl rfl (by rfl) Tryz.underlying3 rfl (by (exact cell_of (hst.get 1 rfl) lsArr_33)) ?_) | (refine wpl_at (.store 3 (.tmp 74) (.tmp 73)) rfl ?_; (refine L_store1 rfl rfl hst rfl (by rfl) (ev_tmp rfl) rfl el_int 0 rfl (by (simp; done)) ?_; clear hst; intro WS5 hst; simp only [List.set_cons_zero, List.set_cons_succ, ntArr_turn _ _ _ _] at hst)))
 rw [← HTT.out] at hst
 go_upto_region 14 with (go_big_may; first | (go_at_call 36; (try clear hnew); refine (HLF.out _ (HT.out.of hst)).mono ?_; rintro e Wk3 ⟨rfl, hnew⟩; replace hst := hst.keep hnew) | ((refine L_loadA (d := some 76) rfl rfl rfl (by rfl) Tryz.underlying34 rfl el_api_Note (by (exact hst.get 0 rfl)) (by (exact ntArr_size _ _ _)) ?_)) | (refine L_allocA (d := some 14) rfl rfl rfl el_api_Digest ?_; (try clear hnew); intro g14 W14 hnew; replace hst := hst.trans hnew; simp only [List.cons_append, List.nil_append] at hst) | (refine wpl_at (.store 32 (.tmp 14) (.tmp 78)) rfl ?_; (refine L_storeA rfl rfl hst rfl (by rfl) (ev_tmp rfl) (by (exact Dig.one _)) el_api_Digest (by (exact Dig.size _)) 0 rfl (by (rfl)) ?_; clear hst; intro WS6 hst; simp only [List.set_cons_zero, List.set_cons_succ] at hst)))
 go_upto_region 16 with (go_big_may; fail)
 clear hnew
 refine wp_region_idx [(0, 0), (1, 0), (2, 0), (3, 0), (4, 0), (5, 0), (6, 0), (7, 0), (8, 0), (9, 0), (10, 0), (11, 2), (12, 2), (13, 1)] (by kernel_rfl) (by kernel_rfl) ?_
 replace hst := hst.drew
 refine idx_q rfl rfl ?_; go_wp2_with fail
 refine idx_q rfl rfl ?_; go_wp2_with fail
 refine idx_qf rfl rfl (by kernel_rfl) ?_; go_wp2_with fail
 refine idx_q rfl rfl ?_; go_wp2_with ((refine L_load1 (d := some 86) rfl rfl rfl (by rfl) Tryz.underlying77 rfl (by (exact cell_of (hst.get 4 rfl) lgArr_2)) ?_))
 refine idx_q rfl rfl ?_; go_wp2_with fail
 refine idx_q rfl rfl ?_; go_wp2_with (((refine L_loadA (d := some 88) rfl rfl rfl (by rfl) Tryz.underlying34 rfl el_api_Note (by (exact hst.get 1 rfl)) (by (exact ntArr_size _ _ _)) ?_)))
 refine idx_q rfl rfl ?_; go_wp2_with fail
 refine idx_q rfl rfl ?_; go_wp2_with fail
 refine idx_qf rfl rfl (by kernel_rfl) ?_; go_wp2_with fail
 refine idx_q rfl rfl ?_; go_wp2_with ((refine L_load1 (d := some 92) rfl rfl rfl (by rfl) Tryz.underlying44 rfl (by (exact cell_of (hst.get 4 rfl) lgArr_1)) ?_))
 refine idx_q rfl rfl ?_; go_wp2_with (fail)
 refine idx_g rfl ?_; go_wp2_with (((refine L_loadA (d := some 94) rfl rfl rfl (by rfl) Tryz.underlying32 rfl el_api_Digest (by (exact hst.get 0 rfl)) (by (exact Dig.size _)) ?_))); refine ⟨by (exact Below.refl _ _), ?_⟩
 refine idx_g rfl ?_; go_wp2_with ((refine L_buildL (d := some 95) rfl rfl rfl (ev_tmp rfl) (ev_tmp rfl) (ev_tmp rfl) ?_)); refine ⟨by (exact Below.refl _ _), ?_⟩
 refine idx_e rfl ?_; go_wp2_with ((refine L_mapUpd (fk := sV) (fv := lsV) (l := nm) (u := s) (v := (⟨s, k, tt⟩, ns.length, df)) rfl rfl hst rfl keyed_str Tryz.underlying77 (ev_tmp rfl) (ev_tmp rfl) (ev_tmp rfl) sV_inj HO.out HD.out HS.out 7 rfl ?_; clear hst; intro WM hst; simp only [List.set_cons_zero, List.set_cons_succ] at hst))
 refine idx_nil ?_
 go_upto_region 18 with (go_big_may; first | (refine L_mapUpd (fk := kInt) (fv := sV) (l := am) (u := ix) (v := s) rfl rfl hst rfl keyed_int Tryz.underlying78 (ev_tmp rfl) (ev_tmp rfl) (ev_tmp rfl) kInt_inj HOA.out HDA.out HSA.out 8 rfl ?_; clear hst; intro WN hst; simp only [List.set_cons_zero, List.set_cons_succ] at hst) | (refine L_load1 (d := some 99) rfl rfl rfl (by rfl) Tryz.underlying78 rfl (by (exact cell_of (hst.get 4 rfl) lgArr_3)) ?_))
 refine wp_region_pm (.one 0 3 (.one 1 3 (.one 2 0 (.one 3 0 (.one 4 0 (.one 5 2 (.one 6 2 (.one 7 1 (.one 8 2 (.one 9 2 (.one 10 1 .nil))))))))))) (by kernel_rfl) (by kernel_rfl) ?_
 replace hst := hst.drew
 refine pm_p rfl rfl ?_; go_wp2_with fail
 refine pm_p rfl rfl ?_; go_wp2_with fail
 refine pm_q rfl rfl ?_; go_wp2_with fail
 refine pm_qf rfl rfl (by kernel_rfl) ?_; go_wp2_with fail
 refine pm_q rfl rfl ?_; go_wp2_with ((refine L_load1 (d := some 106) rfl rfl rfl (by rfl) Tryz.underlying44 rfl (by (exact cell_of (hst.get 4 rfl) lgArr_1)) ?_))
 refine pm_g rfl ?_; go_wp2_with (((refine L_loadA (d := some 107) rfl rfl rfl (by rfl) Tryz.underlying32 rfl el_api_Digest (by (exact hst.get 0 rfl)) (by (exact Dig.size _)) ?_))); refine ⟨by (exact Below.refl _ _), ?_⟩
 refine pm_g rfl ?_; go_wp2_with ((refine L_buildS (d := some 108) rfl rfl rfl [_] (bs_1 (ev_tmp rfl)) rfl Tryz.underlying44 el_api_Digest rfl (by (simp [Value.cells, Dig.size]; done)) (by decide) (by decide) ?_; (try clear hnew); intro g108 W108 hnew; replace hst := hst.trans hnew; simp only [List.cons_append, List.nil_append] at hst; simp only [List.flatMap_cons, List.flatMap_nil, List.append_nil, Value.cells, List.toList_toArray] at hst)); refine ⟨by (exact hnew.below), ?_⟩
 refine pm_e rfl ?_; go_wp2_with ((refine L_appendO (d := some 109) rfl rfl hst rfl (by rfl) (by rfl) Tryz.underlying44 el_api_Digest rfl (by decide) (by decide) 7 rfl (by (rfl)) (by (exact hst.sl 0 rfl)) (by (exact oneCell_bytes)) (by omega) ?_; clear hst; intro A109 c109 W109 hst; simp only [List.set_cons_zero, List.set_cons_succ, List.nil_append, Nat.zero_add] at hst))
 refine pm_g rfl ?_; go_wp2_with fail; refine ⟨by (exact Below.refl _ _), ?_⟩
 refine pm_g rfl ?_; go_wp2_with fail; refine ⟨by (exact Below.refl _ _), ?_⟩
 refine pm_e rfl ?_; go_wp2_with ((refine wpl_at (.store 44 (.tmp 111) (.tmp 109)) rfl ?_; (refine L_store1 rfl rfl hst rfl (by rfl) (ev_tmp rfl) rfl el_S_api_Digest 5 rfl (by (exact of_decide_eq_true rfl)) ?_; clear hst; intro WS10 hst; simp only [List.set_cons_zero, List.set_cons_succ, lgArr_s1 _ _ _, HLV.out] at hst)))
 refine pm_nil ?_
 go_wp2_with ((refine L_load1 (d := some 115) rfl rfl rfl (by rfl) Tryz.underlying44 rfl (by (exact cell_of (hst.get 5 rfl) lgArr_1)) ?_))
 go_ret2
 refine .inl ⟨HE.out, ?_, ⟨g, m, c, c109, Mn, Ma, A, A109, updA s (⟨s, k, tt⟩, ns.length, df) nm, updA ix s am⟩, rfl, rfl, ?_, ?_⟩
 ·(rfl)
 ·rw [← HNN.out]
  exact HM.out
 ·simp only [lgL, List.cons_append, List.nil_append]
  rw [← HNN.out, snoc_len]
  exact hst.tail.tail.tail.tail.tail
theorem add_any (key : List UInt8) (ns : List NoteN) (s : List UInt8) (k : Dig) (p : LgP) (w0 w : World) (L : List Res) (hT : Tb w0) (hst : St w0 w (lgL p key ns ++ L)) (hm : MapsOf ns p.nm p.am) (hl : Logged ns) :
  Calls Tryz.prog 10 #[.pointer (some ⟨p.g, 0, none⟩), .string (bsOf s), k.v] w (AddEnd key ns s k p w0 L) := by
 cases hs : isNm s with
 | false => exact add_unnamed key ns s k p w0 w L hst hs
 | true =>
  by_cases hf : 256 ≤ ns.length
  ·exact add_full1 key ns s k p w0 w L hst hm hs hf
  by_cases hc : lastI ns s = none ∧ 64 ≤ namesC ns
  ·exact add_full2 key ns s k p w0 w L hst hm hs hf hc.1 hc.2
  cases ht : takenN ns s with
  | true => exact add_twice key ns s k p w0 w L hT hst hm hs hf hc ht
  | false =>
   have he : addE ns s = 0 := by unfold addE; rw [if_pos hs, if_neg (not_or.2 ⟨hf, hc⟩), if_neg (by rw [ht]; decide)]
   cases hx : atName ns s with
   | some x =>
    refine add_ok_hi key ns s k p w0 w L hT hst hm hl he x hx ?_
    obtain ⟨h1, h2, _, _⟩ := atName_some hx
    obtain ⟨n, h3, h4⟩ := lastI_some h1
    exact (hm.lookA_ _ _).2 ⟨n, List.mem_of_getElem? h3, h4, rfl⟩
   | none =>
    refine add_ok_nn key ns s k p w0 w L hT hst hm hl he hx ?_
    cases hi : lookA (idxN s) p.am with
    | none => rfl
    | some t =>
     exfalso
     by_cases hts : t = s
     ·subst hts
      obtain ⟨n, h1, h2, _⟩ := (hm.lookA_ _ _).1 hi
      have h3 := atName_isSome ns t
      rw [hx] at h3
      cases h4 : lastI ns t with
      | none => exact (lastI_none.1 h4) n h1 h2
      | some j => rw [h4] at h3; cases h3
     ·have := (hm.taken s).2 ⟨t, hi, hts⟩
      rw [ht] at this
      cases this
end Go.Proofs.YtaebeemnipafbaaGreatDoor

set_option maxRecDepth 20000
set_option linter.unusedSimpArgs false
set_option linter.unusedVariables false
namespace Go.Proofs.YtaebeemnipafbaaGreatDoor
open Go.RowKit
theorem mapN_nil : mapN [] = zeroD := mRoot_zero (fun _ _ _ => rfl)
theorem addU_any (key : List UInt8) (ns : List NoteN) (s : List UInt8) (k : Dig) (p : LgP) (w0 w : World) (L : List Res) (hT : Tb w0) (hst : St w0 w (lgL p key ns ++ L)) (hm : MapsOf ns p.nm p.am) (hl : Logged ns) :
  Calls Tryz.prog 10 #[.pointer (some ⟨p.g, 0, none⟩), .string (bsOf s), k.v] w fun e w' =>
   e = .returned (.tuple #[.int .i64 (if addE ns s = 0 then (ns.length : Int) else 0), if addE ns s = 0 then .nilIface else errV (addE ns s)]) ∧ ∃ p' : LgP, p'.g = p.g ∧ p'.m = p.m ∧ MapsOf (addL ns s k) p'.nm p'.am ∧ St w0 w' (lgL p' key (addL ns s k) ++ L) := by
 refine (add_any key ns s k p w0 w L hT hst hm hl).mono ?_
 rintro e w' (⟨h0, rfl, p', h1, h2, h3, h4⟩ | ⟨h0, rfl, h4⟩)
 ·unfold addL
  rw [if_pos h0, if_pos h0, if_pos h0]
  exact ⟨rfl, p', h1, h2, h3, h4⟩
 ·unfold addL
  rw [if_neg h0, if_neg h0, if_neg h0]
  exact ⟨rfl, p, rfl, rfl, hm, h4⟩
end Go.Proofs.YtaebeemnipafbaaGreatDoor

set_option maxRecDepth 20000
set_option linter.unusedSimpArgs false
set_option linter.unusedVariables false
namespace Go.Proofs.YtaebeemnipafbaaGreatDoor
open Go.RowKit
attribute [local simp] ntArr_size
section
variable {K : Option Addr} {m mc : Nat} {A : Option Addr} {n c : Nat}
end
section
variable {ops : Array Oper} {rest : List Oper} {o : Oper} {a : Act} {W : World} {Q : Exit → Act → World → Prop} {d : Option Tmp}
end
end Go.Proofs.YtaebeemnipafbaaGreatDoor

set_option maxRecDepth 20000
set_option linter.unusedSimpArgs false
set_option linter.unusedVariables false
namespace Go.Proofs.YtaebeemnipafbaaGreatDoor
open Go.RowKit
attribute [local simp] prArr_size
end Go.Proofs.YtaebeemnipafbaaGreatDoor

set_option maxRecDepth 20000
set_option linter.unusedSimpArgs false
set_option linter.unusedVariables false
namespace Go.Proofs.YtaebeemnipafbaaGreatDoor
open Go.RowKit
end Go.Proofs.YtaebeemnipafbaaGreatDoor

set_option maxRecDepth 20000
set_option linter.unusedSimpArgs false
set_option linter.unusedVariables false
namespace Go.Proofs.YtaebeemnipafbaaGreatDoor
open Go.RowKit
end Go.Proofs.YtaebeemnipafbaaGreatDoor

set_option maxRecDepth 20000
set_option linter.unusedSimpArgs false
set_option linter.unusedVariables false
namespace Go.Proofs.YtaebeemnipafbaaGreatDoor
open Go.RowKit
end Go.Proofs.YtaebeemnipafbaaGreatDoor

set_option linter.unusedSimpArgs false
set_option linter.unusedVariables false
namespace Go.Proofs.YtaebeemnipafbaaGreatDoor
open Go.RowKit
set_option maxHeartbeats 1000000 in
theorem told_tag_any (key : List UInt8) (K : Option Addr) (m mc : Nat) (n : Int) (x y z : Dig) (w : World) (hn1 : -9223372036854775808 ≤ n) (hn2 : n ≤ 9223372036854775807) (hT : Tb w) (hk : SlR w K m mc 1 (bytesL key)) (hm : m ≤ 140737488355000) :
  Calls Tryz.prog 151 #[.slice K m mc, .agg (hdArr n x y z)] w fun e w' => e = .returned (.bool (decide (z = tagN key n x y))) ∧ St w w' [] := by
 have hst := St.refl w
 have HC := Lib.hid (fun (w' : World) (ht : Tb w') (h1 : SlR w' K m mc 1 (bytesL key)) => tag_any key K m mc n x y z w' hn1 hn2 ht h1 hm)
 generalize tagN key n x y = tg at *
 have HT := Lib.hid hT
 clear hT hn1 hn2 hm
 go_enter Tryz.func151, Tryz.ntmps151
 go_upto_region 1 with ((refine L_boxA (d := some 3) rfl rfl rfl (ev_tmp rfl) ?_; (try clear hnew); intro g3 W3 hnew; replace hst := hst.trans hnew; simp only [List.cons_append, List.nil_append] at hst))
 refine wp_region_pm (.one 2 3 (.one 0 0 (.one 1 0 (.one 3 2 (.one 4 2 (.one 5 2 (.one 6 2 .nil))))))) (by kernel_rfl) (by kernel_rfl) ?_
 replace hst := hst.drew
 refine pm_p rfl rfl ?_; go_wp2_with fail
 refine pm_qf rfl rfl (by kernel_rfl) ?_; go_wp2_with fail
 refine pm_q rfl rfl ?_; go_wp2_with (((refine L_loadM (d := some 6) rfl rfl rfl (by rfl) Tryz.underlying32 rfl el_api_Digest (by (exact hdArr_tag (hst.get 0 rfl))) (by (exact Dig.size _)) ?_)))
 refine pm_g rfl ?_; go_wp2_with (((refine L_loadA (d := some 8) rfl rfl rfl (by rfl) Tryz.underlying41 rfl el_api_Head (by (exact hst.get 0 rfl)) (by (exact hdArr_size _ _ _ _)) ?_))); refine ⟨by (exact Below.refl _ _), ?_⟩
 refine pm_g rfl ?_; go_wp2_with ((go_at_call 24; refine (HC.out _ (HT.out.of hst) (hst.old (by decide) hk)).mono ?_; rintro e Wt ⟨rfl, hnew⟩; replace hst := hst.keep hnew)); refine ⟨by (exact hnew.below), ?_⟩
 refine pm_g rfl ?_; go_wp2_with ((refine L_eqD (d := some 10) rfl rfl rfl Tryz.underlying32 Tryz.underlying5 el_uint8 eqG_D (ev_tmp rfl) (ev_tmp rfl) ?_)); refine ⟨by (exact Below.refl _ _), ?_⟩
 refine pm_g rfl ?_; go_wp2_with fail; refine ⟨by (exact Below.refl _ _), ?_⟩
 refine pm_nil ?_
 go_wp2_with fail
 go_ret
 exact ⟨rfl, hst.forget⟩
end Go.Proofs.YtaebeemnipafbaaGreatDoor

set_option maxRecDepth 20000
set_option linter.unusedSimpArgs false
set_option linter.unusedVariables false
namespace Go.Proofs.YtaebeemnipafbaaGreatDoor
open Go.RowKit
attribute [local simp] prArr_size hdArr_size
section
variable {ops : Array Oper} {rest : List Oper} {o : Oper} {a : Act} {W : World} {Q : Exit → Act → World → Prop} {d : Option Tmp}
end
end Go.Proofs.YtaebeemnipafbaaGreatDoor

set_option maxRecDepth 20000
set_option linter.unusedSimpArgs false
set_option linter.unusedVariables false
namespace Go.Proofs.YtaebeemnipafbaaGreatDoor
open Go.RowKit
theorem find_no (key : List UInt8) (ns : List NoteN) (s : List UInt8) (p : LgP) (w0 w : World) (L : List Res) (hst : St w0 w (lgL p key ns ++ L)) (hs : isNm s = false) :
  Calls Tryz.prog 15 #[.pointer (some ⟨p.g, 0, none⟩), .string (bsOf s)] w fun e w' => e = .returned (.tuple #[.agg (fdArr [] zeroD 0 0 none 0 0 none 0 0), errV 1]) ∧ St w0 w' (lgL p key ns ++ L) := by
 have HN := Lib.hid (fun w => by have := named_any s w; rw [hs] at this; exact this)
 generalize lgL p key ns ++ L = L0 at *
 clear hs
 go_enter Tryz.func15, Tryz.ntmps15
 go_upto_region 1 with (go_big_may; (refine L_allocA (d := some 4) rfl rfl rfl el_api_Found ?_; (try clear hnew); intro g4 W4 hnew; replace hst := hst.trans hnew; simp only [List.cons_append, List.nil_append] at hst))
 go_upto_region 2 with (go_big_may; (go_at_call 34; (try clear hnew); refine (HN.out _).mono ?_; rintro e Wk1 ⟨rfl, hnew⟩; replace hst := hst.keep hnew))
 go_wp2_with (first | (refine L_buildFz (d := some 12) rfl rfl rfl ?_) | (refine wpl_at (.store 46 (.tmp 4) (.tmp 12)) rfl ?_; (refine L_storeA rfl rfl hst rfl (by rfl) (ev_tmp rfl) (by (exact fdArr_all _ _ _ _ _ _ _ _ _ _)) el_api_Found (by (rfl)) 0 rfl (by (rfl)) ?_; clear hst; intro WS2 hst; simp only [List.set_cons_zero, List.set_cons_succ] at hst)))
 refine bp_cell_tmp rfl rfl rfl rfl (hst.get 0 rfl) Tryz.underlying46 rfl el_api_Found (by (rfl)) ?_
 exact ⟨rfl, hst.tail⟩
def FindEnd (key : List UInt8) (ns : List NoteN) (s : List UInt8) (p : LgP) (w0 : World) (L : List Res) : Ending → World → Prop := fun e w' =>
 ∃ A c B q, e = .returned (.tuple #[.agg (fdArr (findN ns s).note.name (findN ns s).note.key (findN ns s).note.turn (findN ns s).at_ A (findN ns s).path.length c B (findN ns s).mpath.length q), .nilIface]) ∧
  St w0 w' (.row A (findN ns s).path.length c 32 32 (digsL (findN ns s).path) :: .row B (findN ns s).mpath.length q 32 32 (digsL (findN ns s).mpath) :: (lgL p key ns ++ L))
set_option maxHeartbeats 8000000 in
set_option maxRecDepth 100000 in
theorem find_none (key : List UInt8) (ns : List NoteN) (s : List UInt8) (p : LgP) (w0 w : World) (L : List Res) (hT : Tb w0) (hst : St w0 w (lgL p key ns ++ L)) (hm : MapsOf ns p.nm p.am) (hl : Logged ns) (hs : isNm s = true) (hi : lastI ns s = none) :
  Calls Tryz.prog 15 #[.pointer (some ⟨p.g, 0, none⟩), .string (bsOf s)] w (FindEnd key ns s p w0 L) := by
 have HT := Lib.hid hT
 have HF := Lib.hid (show findN ns s = ⟨zeroNt, 0, [], mPath (lgF ns) (idxN s) 32⟩ by unfold findN; rw [if_pos hs, hi])
 have HN := Lib.hid (fun w => by have := named_any s w; rw [hs] at this; exact this)
 have HI := Lib.hid (fun (w' : World) (h : Tb w') => index_any s w' h (by have := isNm_len hs; omega))
 have HE := Lib.hid (fun (w' : World) (X : List Res) (h : St w0 w' (X ++ (lgL p key ns ++ L))) => entries_any key ns p w0 w' (X ++ L) (St.swap h) hm hl)
 have HPt := Lib.hid (fun (es : List (Nat × Dig)) (O : Option Addr) (oc : Nat) (w' : World) (ht : Tb w') (h1 : es.length ≤ 64) (h2 : ∀ e ∈ es, e.1 < 4294967296) (h3 : (es.map (·.1)).Nodup) (h4 : leafAt es = lgF ns) (h : SlR w' O es.length oc 33 (entL es)) => by
  have := tPathM_any es O es.length oc (idxN s) w' ht h h1 h2 h3 (idxN_lt s)
  rw [h4] at this
  exact this)
 have HO := Lib.hid hm.ksO
 have HD := Lib.hid hm.nd
 have HS := Lib.hid (sV_ok hs)
 have HL := Lib.hid (show lookA s p.nm = none by rw [hm.look, atName, hi]; rfl)
 have HML := Lib.hid (length_mPath (lgF ns) (idxN s) 32)
 unfold FindEnd
 rw [HF.out]
 simp only [HML.out, List.length_nil]
 generalize mPath (lgF ns) (idxN s) 32 = mp at *
 generalize idxN s = ix at *
 obtain ⟨g, m, c, lc, Mn, Ma, A, O0, nm, am⟩ := p
 simp only at *
 have hst0 := hst
 simp only [lgL, List.cons_append, List.nil_append] at hst
 clear hT hm hl hst0 hs hi
 go_enter Tryz.func15, Tryz.ntmps15
 go_upto_region 1 with (go_big_may; (refine L_allocA (d := some 4) rfl rfl rfl el_api_Found ?_; (try clear hnew); intro g4 W4 hnew; replace hst := hst.trans hnew; simp only [List.cons_append, List.nil_append] at hst))
 go_upto_region 3 with (go_big_may; (go_at_call 34; (try clear hnew); refine (HN.out _).mono ?_; rintro e Wk2 ⟨rfl, hnew⟩; replace hst := hst.keep hnew))
 go_upto_region 4 with (go_big_may; (refine L_allocA (d := some 6) rfl rfl rfl el_api_Found ?_; (try clear hnew); intro g6 W6 hnew; replace hst := hst.trans hnew; simp only [List.cons_append, List.nil_append] at hst))
 go_upto_region 5 with (go_big_may; first | (go_at_call 35; (try clear hnew); refine (HI.out _ (HT.out.of hst)).mono ?_; rintro e Wk3 ⟨rfl, hnew⟩; replace hst := hst.keep hnew) | (go_at_call 40; refine (HE.out _ [_, _] hst).mono ?_; rintro e We ⟨es, Oe, oe, rfl, h1, h2, h3, h4, hst'⟩; clear hst; have hst := hst'; clear hst'; have H1 := Lib.hid h1; have H2 := Lib.hid h2; have H3 := Lib.hid h3; have H4 := Lib.hid h4; clear h1 h2 h3 h4; simp only [lgL, List.cons_append, List.nil_append] at hst) | (go_at_call 46; (try clear hnew); refine (HPt.out es _ _ _ (HT.out.of hst) H1.out H2.out H3.out H4.out (hst.sl 0 rfl)).mono ?_; rintro e Wp ⟨Op, op, rfl, hnew⟩; replace hst := hst.trans hnew; clear hnew; simp only [List.cons_append, List.nil_append] at hst) | (refine wpl_at (.store 44 (.tmp 22) (.tmp 20)) rfl ?_; (refine L_store1 rfl rfl hst rfl (by rfl) (ev_tmp rfl) rfl el_S_api_Digest 7 rfl (by (exact of_decide_eq_true rfl)) ?_; clear hst; intro WS9 hst; simp only [List.set_cons_zero, List.set_cons_succ, fdArr_put36 _ _ _] at hst)))
 go_upto_region 6 with (go_big_may; first | (refine L_look2n (fk := sV) (fv := lsV) (y := s) (l := nm) (d := some 29) rfl rfl rfl keyed_str Tryz.underlying77 el_log_last (ev_tmp rfl) (ev_tmp rfl) sV_inj HO.out HD.out HS.out (hst.obj 5 rfl) HL.out ?_) | (refine L_load1 (d := some 27) rfl rfl rfl (by rfl) Tryz.underlying77 rfl (by (exact cell_of (hst.get 2 rfl) lgArr_2)) ?_) | (refine L_allocA (d := some 7) rfl rfl rfl el_log_last ?_; (try clear hnew); intro g7 W7 hnew; replace hst := hst.trans hnew; simp only [List.cons_append, List.nil_append] at hst) | (refine wpl_at (.store 85 (.tmp 7) (.tmp 30)) rfl ?_; (refine L_storeA rfl rfl hst rfl (by rfl) (ev_tmp rfl) (by (exact lsArr_all _ _ _ _ _)) el_log_last (by (rfl)) 0 rfl (by (rfl)) ?_; clear hst; intro WS10 hst; simp only [List.set_cons_zero, List.set_cons_succ] at hst)))
 go_upto_region 9 with (go_big_may; fail)
 go_wp2_with (first | ((refine L_loadA (d := some 50) rfl rfl rfl (by rfl) Tryz.underlying46 rfl el_api_Found (by (exact hst.get 8 rfl)) (by (exact fdArr_size _ _ _ _ _ _ _ _ _ _)) ?_)) | (refine wpl_at (.store 46 (.tmp 4) (.tmp 50)) rfl ?_; (refine L_storeA rfl rfl hst rfl (by rfl) (ev_tmp rfl) (by (exact fdArr_all _ _ _ _ _ _ _ _ _ _)) el_api_Found (by (rfl)) 9 rfl (by (rfl)) ?_; clear hst; intro WS1 hst; simp only [List.set_cons_zero, List.set_cons_succ] at hst)))
 refine bp_cell_tmp rfl rfl rfl rfl (hst.get 9 rfl) Tryz.underlying46 rfl el_api_Found (by (rfl)) ?_
 refine ⟨none, 0, Op, op, rfl, ?_⟩
 simp only [lgL, List.cons_append, List.nil_append]
 exact (hst.drop (.cons _ (.cons_cons _ (.cons _ (.cons_cons _ (.cons_cons _ (.cons_cons _ (.cons_cons _ (.cons_cons _ (.cons _ (.cons _ (List.Sublist.refl L))))))))))) : St w0 _ (_ :: (_ :: _ :: _ :: _ :: _ :: L))).nilRow 32 32
set_option maxHeartbeats 8000000 in
set_option maxRecDepth 100000 in
theorem find_has (key : List UInt8) (ns : List NoteN) (s : List UInt8) (p : LgP) (w0 w : World) (L : List Res) (hT : Tb w0) (hst : St w0 w (lgL p key ns ++ L)) (hm : MapsOf ns p.nm p.am) (hl : Logged ns) (hs : isNm s = true) (i : Nat) (hi : lastI ns s = some i) :
  Calls Tryz.prog 15 #[.pointer (some ⟨p.g, 0, none⟩), .string (bsOf s)] w (FindEnd key ns s p w0 L) := by
 have HT := Lib.hid hT
 obtain ⟨nt, h1, h2⟩ := lastI_some hi
 have hn := hl.len
 have hin := lastI_lt hi
 have hpl : (pathN (lvN ns) i).length = longN i ns.length := length_pathN _ _ _ (length_lvN ns)
 have HTP := Lib.hid (fun (w' : World) (O : Option Addr) (c : Nat) (ht : Tb w') (hx : SlR w' O ns.length c 32 (digsL (lvN ns))) => by
  have := tPath_any (lvN ns) O ns.length c i w' ht hx hn hin
  rw [← hpl] at this
  exact this)
 have HF := Lib.hid (show findN ns s = ⟨nt, (i : Int), pathN (lvN ns) i, mPath (lgF ns) (idxN s) 32⟩ by unfold findN; rw [if_pos hs, hi]; simp only [h1, Option.getD_some])
 have HN := Lib.hid (fun w => by have := named_any s w; rw [hs] at this; exact this)
 have HI := Lib.hid (fun (w' : World) (h : Tb w') => index_any s w' h (by have := isNm_len hs; omega))
 have HE := Lib.hid (fun (w' : World) (X : List Res) (h : St w0 w' (X ++ (lgL p key ns ++ L))) => entries_any key ns p w0 w' (X ++ L) (St.swap h) hm hl)
 have HPt := Lib.hid (fun (es : List (Nat × Dig)) (O : Option Addr) (oc : Nat) (w' : World) (ht : Tb w') (h1 : es.length ≤ 64) (h2 : ∀ e ∈ es, e.1 < 4294967296) (h3 : (es.map (·.1)).Nodup) (h4 : leafAt es = lgF ns) (h : SlR w' O es.length oc 33 (entL es)) => by
  have := tPathM_any es O es.length oc (idxN s) w' ht h h1 h2 h3 (idxN_lt s)
  rw [h4] at this
  exact this)
 have HO := Lib.hid hm.ksO
 have HD := Lib.hid hm.nd
 have HS := Lib.hid (sV_ok hs)
 have HL := Lib.hid (show lookA s p.nm = some (nt, i, ntLeaf nt) by rw [hm.look, atName, hi]; simp only [Option.bind_some, h1, Option.map_some])
 have HML := Lib.hid (length_mPath (lgF ns) (idxN s) 32)
 unfold FindEnd
 rw [HF.out]
 simp only [HML.out]
 generalize mPath (lgF ns) (idxN s) 32 = mp at *
 generalize idxN s = ix at *
 generalize pathN (lvN ns) i = tp at *
 generalize ntLeaf nt = df at *
 obtain ⟨a1, a2, a3⟩ := nt
 obtain ⟨g, m, c, lc, Mn, Ma, A, O0, nm, am⟩ := p
 simp only at *
 have hst0 := hst
 simp only [lgL, List.cons_append, List.nil_append] at hst
 clear hT hm hl hst0 hs hi h1 h2 hin hpl hn
 go_enter Tryz.func15, Tryz.ntmps15
 go_upto_region 1 with (go_big_may; (refine L_allocA (d := some 4) rfl rfl rfl el_api_Found ?_; (try clear hnew); intro g4 W4 hnew; replace hst := hst.trans hnew; simp only [List.cons_append, List.nil_append] at hst))
 go_upto_region 3 with (go_big_may; (go_at_call 34; (try clear hnew); refine (HN.out _).mono ?_; rintro e Wk4 ⟨rfl, hnew⟩; replace hst := hst.keep hnew))
 go_upto_region 4 with (go_big_may; (refine L_allocA (d := some 6) rfl rfl rfl el_api_Found ?_; (try clear hnew); intro g6 W6 hnew; replace hst := hst.trans hnew; simp only [List.cons_append, List.nil_append] at hst))
 go_upto_region 5 with (go_big_may; first | (go_at_call 35; (try clear hnew); refine (HI.out _ (HT.out.of hst)).mono ?_; rintro e Wk5 ⟨rfl, hnew⟩; replace hst := hst.keep hnew) | (go_at_call 40; refine (HE.out _ [_, _] hst).mono ?_; rintro e We ⟨es, Oe, oe, rfl, h1, h2, h3, h4, hst'⟩; clear hst; have hst := hst'; clear hst'; have H1 := Lib.hid h1; have H2 := Lib.hid h2; have H3 := Lib.hid h3; have H4 := Lib.hid h4; clear h1 h2 h3 h4; simp only [lgL, List.cons_append, List.nil_append] at hst) | (go_at_call 46; (try clear hnew); refine (HPt.out es _ _ _ (HT.out.of hst) H1.out H2.out H3.out H4.out (hst.sl 0 rfl)).mono ?_; rintro e Wp ⟨Op, op, rfl, hnew⟩; replace hst := hst.trans hnew; clear hnew; simp only [List.cons_append, List.nil_append] at hst) | (refine wpl_at (.store 44 (.tmp 22) (.tmp 20)) rfl ?_; (refine L_store1 rfl rfl hst rfl (by rfl) (ev_tmp rfl) rfl el_S_api_Digest 7 rfl (by (exact of_decide_eq_true rfl)) ?_; clear hst; intro WS9 hst; simp only [List.set_cons_zero, List.set_cons_succ, fdArr_put36 _ _ _] at hst)))
 go_upto_region 6 with (go_big_may; first | (refine L_look2s (fk := sV) (fv := lsV) (y := s) (l := nm) (d := some 29) rfl rfl rfl keyed_str Tryz.underlying77 el_log_last (ev_tmp rfl) (ev_tmp rfl) sV_inj HO.out HD.out HS.out (hst.obj 5 rfl) HL.out ?_) | (refine L_load1 (d := some 27) rfl rfl rfl (by rfl) Tryz.underlying77 rfl (by (exact cell_of (hst.get 2 rfl) lgArr_2)) ?_) | (refine L_allocA (d := some 7) rfl rfl rfl el_log_last ?_; (try clear hnew); intro g7 W7 hnew; replace hst := hst.trans hnew; simp only [List.cons_append, List.nil_append] at hst) | (refine wpl_at (.store 85 (.tmp 7) (.tmp 30)) rfl ?_; (refine L_storeA rfl rfl hst rfl (by rfl) (ev_tmp rfl) (by (exact lsArr_all _ _ _ _ _)) el_log_last (by (exact lsArr_size _ _ _ _ _)) 0 rfl (by (rfl)) ?_; clear hst; intro WS10 hst; simp only [List.set_cons_zero, List.set_cons_succ] at hst)))
 go_upto_region 7 with (go_big_may; fail)
 clear hnew
 refine wp_region_pm (.one 0 3 (.one 2 3 (.one 1 0 (.one 4 3 (.two 3 2 (.one 5 1 (.one 6 2 (.one 7 1 .nil))) 5 1 (.one 3 2 (.one 6 2 (.one 7 1 .nil)))))))) (by kernel_rfl) (by kernel_rfl) ?_
 replace hst := hst.drew
 refine pm_pv rfl (pureV_fieldAddr rfl (by rfl) Tryz.underlying85 rfl (by kernel_rfl)) ?_; go_wp2_with fail
 refine pm_pv rfl (pureV_fieldAddr rfl (by rfl) Tryz.underlying85 rfl (by kernel_rfl)) ?_; go_wp2_with fail
 refine pm_q rfl rfl ?_; go_wp2_with (((refine L_loadM (d := some 34) rfl rfl rfl (by rfl) Tryz.underlying34 rfl el_api_Note (by (exact lsArr_note (hst.get 0 rfl))) (by (exact ntArr_size _ _ _)) ?_)))
 refine pm_pv rfl (pureV_fieldAddr rfl (by rfl) Tryz.underlying46 rfl (by kernel_rfl)) ?_; go_wp2_with fail
 refine pm_two (ki := 2) (kj := 1) rfl rfl ?_ ?_
 ·go_wp2_with ((refine L_load1 (d := some 36) rfl rfl rfl (by rfl) Tryz.underlying3 rfl (by (exact cell_of (hst.get 0 rfl) lsArr_34)) ?_)); refine ⟨fun _ => (by (exact Below.refl _ _)), ?_⟩
  refine pm_e rfl ?_; go_wp2_with ((refine wpl_at (.store 34 (.tmp 37) (.tmp 34)) rfl ?_; (refine L_storeM rfl rfl hst rfl (by rfl) (ev_tmp rfl) (by (exact ntArr_all _ _ _)) el_api_Note (by (exact ntArr_size _ _ _)) 8 rfl (by (exact of_decide_eq_true rfl)) ?_; clear hst; intro WS5 hst; simp only [List.set_cons_zero, List.set_cons_succ, fdArr_put34 _, fdArr_putNote _ _ _] at hst)))
  refine pm_g rfl ?_; go_wp2_with fail; refine ⟨by (exact Below.refl _ _), ?_⟩
  refine pm_e rfl ?_; go_wp2_with ((refine wpl_at (.store 3 (.tmp 38) (.tmp 36)) rfl ?_; (refine L_store1 rfl rfl hst rfl (by rfl) (ev_tmp rfl) rfl el_int 8 rfl (by (rw [fdArr_size _ _ _ _ _ _ _ _ _ _]; decide)) ?_; clear hst; intro WS7 hst; simp only [List.set_cons_zero, List.set_cons_succ, fdArr_put34 _, fdArr_putNote _ _ _] at hst)))
  refine pm_nil ?_
  go_upto_region 8 with fail
  refine wp_region_pm (.one 0 3 (.one 4 3 (.one 1 0 (.one 2 3 (.one 3 0 (.one 5 2 (.one 6 2 (.one 7 2 (.one 8 3 (.one 9 3 (.one 10 2 (.one 11 1 .nil)))))))))))) (by kernel_rfl) (by kernel_rfl) ?_
  replace hst := hst.drew
  refine pm_p rfl rfl ?_; go_wp2_with fail
  refine pm_pv rfl (pureV_fieldAddr rfl (by rfl) Tryz.underlying85 rfl (by kernel_rfl)) ?_; go_wp2_with fail
  refine pm_q rfl rfl ?_; go_wp2_with fail
  refine pm_pv rfl (pureV_fieldAddr rfl (by rfl) Tryz.underlying80 rfl (by kernel_rfl)) ?_; go_wp2_with fail
  refine pm_q rfl rfl ?_; go_wp2_with ((refine L_load1 (d := some 43) rfl rfl rfl (by rfl) Tryz.underlying44 rfl (by (exact cell_of (hst.get 3 rfl) lgArr_1)) ?_))
  refine pm_g rfl ?_; go_wp2_with ((refine L_load1 (d := some 45) rfl rfl rfl (by rfl) Tryz.underlying3 rfl (by (exact cell_of (hst.get 0 rfl) lsArr_34)) ?_)); refine ⟨by (exact Below.refl _ _), ?_⟩
  refine pm_g rfl ?_; go_wp2_with ((go_at_call 47; (try clear hnew); refine (HTP.out _ _ _ (HT.out.of hst) (hst.sl 5 rfl)).mono ?_; rintro e Wq ⟨Oq, oq, rfl, hnew⟩; replace hst := hst.trans hnew; simp only [List.cons_append, List.nil_append] at hst)); refine ⟨by (exact hnew.below), ?_⟩
  refine pm_g rfl ?_; go_wp2_with fail; refine ⟨by (exact Below.refl _ _), ?_⟩
  refine pm_p rfl rfl ?_; go_wp2_with fail
  refine pm_p rfl rfl ?_; go_wp2_with fail
  refine pm_g rfl ?_; go_wp2_with fail; refine ⟨by (exact Below.refl _ _), ?_⟩
  refine pm_e rfl ?_; go_wp2_with ((refine wpl_at (.store 44 (.tmp 49) (.tmp 47)) rfl ?_; (refine L_store1 rfl rfl hst rfl (by rfl) (ev_tmp rfl) rfl el_S_api_Digest 9 rfl (by (rw [fdArr_size _ _ _ _ _ _ _ _ _ _]; decide)) ?_; clear hst; intro WS11 hst; simp only [List.set_cons_zero, List.set_cons_succ, fdArr_put35 _ _ _] at hst)))
  refine pm_nil ?_
  go_wp2_with (first | ((refine L_loadA (d := some 50) rfl rfl rfl (by rfl) Tryz.underlying46 rfl el_api_Found (by (exact hst.get 9 rfl)) (by (exact fdArr_size _ _ _ _ _ _ _ _ _ _)) ?_)) | (refine wpl_at (.store 46 (.tmp 4) (.tmp 50)) rfl ?_; (refine L_storeA rfl rfl hst rfl (by rfl) (ev_tmp rfl) (by (exact fdArr_all _ _ _ _ _ _ _ _ _ _)) el_api_Found (by (exact fdArr_size _ _ _ _ _ _ _ _ _ _)) 10 rfl (by (rfl)) ?_; clear hst; intro WS1 hst; simp only [List.set_cons_zero, List.set_cons_succ] at hst)))
  refine bp_cell_tmp rfl rfl rfl rfl (hst.get 10 rfl) Tryz.underlying46 rfl el_api_Found (fdArr_size _ _ _ _ _ _ _ _ _ _) ?_
  refine ⟨Oq, oq, Op, op, rfl, ?_⟩
  simp only [lgL, List.cons_append, List.nil_append]
  exact hst.drop (.cons_cons _ (.cons _ (.cons_cons _ (.cons _ (.cons_cons _ (.cons_cons _ (.cons_cons _ (.cons_cons _ (.cons_cons _ (.cons _ (.cons _ (List.Sublist.refl L))))))))))))
 ·go_wp2_with ((refine wpl_at (.store 34 (.tmp 37) (.tmp 34)) rfl ?_; (refine L_storeM rfl rfl hst rfl (by rfl) (ev_tmp rfl) (by (exact ntArr_all _ _ _)) el_api_Note (by (exact ntArr_size _ _ _)) 8 rfl (by (exact of_decide_eq_true rfl)) ?_; clear hst; intro WS5 hst; simp only [List.set_cons_zero, List.set_cons_succ, fdArr_put34 _, fdArr_putNote _ _ _] at hst))); refine ⟨fun h => absurd h (by decide), ?_⟩
  refine pm_g rfl ?_; go_wp2_with ((refine L_load1 (d := some 36) rfl rfl rfl (by rfl) Tryz.underlying3 rfl (by (exact cell_of (hst.get 0 rfl) lsArr_34)) ?_)); refine ⟨by (exact Below.refl _ _), ?_⟩
  refine pm_g rfl ?_; go_wp2_with fail; refine ⟨by (exact Below.refl _ _), ?_⟩
  refine pm_e rfl ?_; go_wp2_with ((refine wpl_at (.store 3 (.tmp 38) (.tmp 36)) rfl ?_; (refine L_store1 rfl rfl hst rfl (by rfl) (ev_tmp rfl) rfl el_int 8 rfl (by (rw [fdArr_size _ _ _ _ _ _ _ _ _ _]; decide)) ?_; clear hst; intro WS7 hst; simp only [List.set_cons_zero, List.set_cons_succ, fdArr_put34 _, fdArr_putNote _ _ _] at hst)))
  refine pm_nil ?_
  go_upto_region 8 with fail
  refine wp_region_pm (.one 0 3 (.one 4 3 (.one 1 0 (.one 2 3 (.one 3 0 (.one 5 2 (.one 6 2 (.one 7 2 (.one 8 3 (.one 9 3 (.one 10 2 (.one 11 1 .nil)))))))))))) (by kernel_rfl) (by kernel_rfl) ?_
  replace hst := hst.drew
  refine pm_p rfl rfl ?_; go_wp2_with fail
  refine pm_pv rfl (pureV_fieldAddr rfl (by rfl) Tryz.underlying85 rfl (by kernel_rfl)) ?_; go_wp2_with fail
  refine pm_q rfl rfl ?_; go_wp2_with fail
  refine pm_pv rfl (pureV_fieldAddr rfl (by rfl) Tryz.underlying80 rfl (by kernel_rfl)) ?_; go_wp2_with fail
  refine pm_q rfl rfl ?_; go_wp2_with ((refine L_load1 (d := some 43) rfl rfl rfl (by rfl) Tryz.underlying44 rfl (by (exact cell_of (hst.get 3 rfl) lgArr_1)) ?_))
  refine pm_g rfl ?_; go_wp2_with ((refine L_load1 (d := some 45) rfl rfl rfl (by rfl) Tryz.underlying3 rfl (by (exact cell_of (hst.get 0 rfl) lsArr_34)) ?_)); refine ⟨by (exact Below.refl _ _), ?_⟩
  refine pm_g rfl ?_; go_wp2_with ((go_at_call 47; (try clear hnew); refine (HTP.out _ _ _ (HT.out.of hst) (hst.sl 5 rfl)).mono ?_; rintro e Wq ⟨Oq, oq, rfl, hnew⟩; replace hst := hst.trans hnew; simp only [List.cons_append, List.nil_append] at hst)); refine ⟨by (exact hnew.below), ?_⟩
  refine pm_g rfl ?_; go_wp2_with fail; refine ⟨by (exact Below.refl _ _), ?_⟩
  refine pm_p rfl rfl ?_; go_wp2_with fail
  refine pm_p rfl rfl ?_; go_wp2_with fail
  refine pm_g rfl ?_; go_wp2_with fail; refine ⟨by (exact Below.refl _ _), ?_⟩
  refine pm_e rfl ?_; go_wp2_with ((refine wpl_at (.store 44 (.tmp 49) (.tmp 47)) rfl ?_; (refine L_store1 rfl rfl hst rfl (by rfl) (ev_tmp rfl) rfl el_S_api_Digest 9 rfl (by (rw [fdArr_size _ _ _ _ _ _ _ _ _ _]; decide)) ?_; clear hst; intro WS11 hst; simp only [List.set_cons_zero, List.set_cons_succ, fdArr_put35 _ _ _] at hst)))
  refine pm_nil ?_
  go_wp2_with (first | ((refine L_loadA (d := some 50) rfl rfl rfl (by rfl) Tryz.underlying46 rfl el_api_Found (by (exact hst.get 9 rfl)) (by (exact fdArr_size _ _ _ _ _ _ _ _ _ _)) ?_)) | (refine wpl_at (.store 46 (.tmp 4) (.tmp 50)) rfl ?_; (refine L_storeA rfl rfl hst rfl (by rfl) (ev_tmp rfl) (by (exact fdArr_all _ _ _ _ _ _ _ _ _ _)) el_api_Found (by (exact fdArr_size _ _ _ _ _ _ _ _ _ _)) 10 rfl (by (rfl)) ?_; clear hst; intro WS1 hst; simp only [List.set_cons_zero, List.set_cons_succ] at hst)))
  refine bp_cell_tmp rfl rfl rfl rfl (hst.get 10 rfl) Tryz.underlying46 rfl el_api_Found (fdArr_size _ _ _ _ _ _ _ _ _ _) ?_
  refine ⟨Oq, oq, Op, op, rfl, ?_⟩
  simp only [lgL, List.cons_append, List.nil_append]
  exact hst.drop (.cons_cons _ (.cons _ (.cons_cons _ (.cons _ (.cons_cons _ (.cons_cons _ (.cons_cons _ (.cons_cons _ (.cons_cons _ (.cons _ (.cons _ (List.Sublist.refl L))))))))))))
end Go.Proofs.YtaebeemnipafbaaGreatDoor

set_option maxRecDepth 20000
set_option linter.unusedSimpArgs false
set_option linter.unusedVariables false
namespace Go.Proofs.YtaebeemnipafbaaGreatDoor
open Go.RowKit
attribute [local simp] prArr_size
structure LgAt (w : World) (p : LgP) (key : List UInt8) (ns : List NoteN) : Prop where
 blk : w.heap[p.g]? = some (.cells (lgArr p.A p.m p.c p.O ns.length p.lc p.Mn p.Ma) 80 (0, 0))
 key : SlR w p.A p.m p.c 1 (bytesL key)
 lv : SlR w p.O ns.length p.lc 32 (digsL (lvN ns))
 nm : w.heap[p.Mn]? = some (mpO sV lsV p.nm)
 am : w.heap[p.Ma]? = some (mpO kInt sV p.am)
theorem lgAt_of {key : List UInt8} {ns : List NoteN} {p : LgP} {w0 w : World} {L : List Res} (h : St w0 w (lgL p key ns ++ L)) : LgAt w p key ns :=
 ⟨h.get 0 rfl, h.sl 1 rfl, h.sl 2 rfl, h.obj 3 rfl, h.obj 4 rfl⟩
theorem lt_of_at {w : World} {g : Nat} {o : Obj} (h : w.heap[g]? = some o) : g < w.heap.size := (Array.getElem?_eq_some_iff.1 h).1
theorem St.stood {w W : World} {L : List Res} (h : St w W L) {g : Nat} {o : Obj} (hg : w.heap[g]? = some o) : W.heap[g]? = some o := by
 rw [h.below.block g (lt_of_at hg)]; exact hg
theorem LgAt.old {key : List UInt8} {ns : List NoteN} {p : LgP} {w W : World} {L : List Res} (h : LgAt w p key ns) (hst : St w W L) : LgAt W p key ns :=
 ⟨hst.stood h.blk, hst.old (by decide) h.key, hst.old (by decide) h.lv, hst.stood h.nm, hst.stood h.am⟩
set_option maxHeartbeats 8000000 in
set_option maxRecDepth 100000 in
theorem entriesK_any (key : List UInt8) (ns : List NoteN) (p : LgP) (w : World) (hp : LgAt w p key ns) (hm : MapsOf ns p.nm p.am) (hl : Logged ns) :
  Calls Tryz.prog 40 #[.pointer (some ⟨p.g, 0, none⟩)] w fun e w' => ∃ (es : List (Nat × Dig)) (O : Option Addr) (oc : Nat), e = .returned (.slice O es.length oc) ∧ (es.length ≤ 64 ∧ (∀ e ∈ es, e.1 < 4294967296) ∧ (es.map (·.1)).Nodup ∧ leafAt es = lgF ns) ∧
   St w w' [.row O es.length oc 110 33 (entL es)] := by
 have hst := St.refl w
 have HO := Lib.hid hm.ksO
 have HD := Lib.hid hm.nd
 have HM := Lib.hid hm
 have HLg := Lib.hid hl
 have hlen : p.am.length ≤ 64 := by rw [hm.lenA, hm.len]; exact hl.names
 have HAt := Lib.hid (fun (i : Nat) (q : Nat × List UInt8) (h : p.am[i]? = some q) => show ∃ x, lookA q.2 p.nm = some x ∧ enN p.nm p.am i = (q.1, x.2.2) ∧ KeyOk Tryz.prog 9 sV q.2 from by
  have hmem := List.mem_of_getElem? h
  obtain ⟨x, hx⟩ := hm.total (k := q.1) (s := q.2) hmem
  exact ⟨x, hx, by unfold enN fL; rw [h]; simp only [hx]; rfl, sV_ok (hm.ksA q hmem).2⟩)
 obtain ⟨q1, q2, q3, q4, q5⟩ := hp
 obtain ⟨g, m, c, lc, Mn, Ma, A, O0, nm, am⟩ := p
 simp only at *
 have HBk := Lib.hid q1
 have HNm := Lib.hid q4
 have HAm := Lib.hid q5
 obtain ⟨n, hn⟩ : ∃ n, n = am.length := ⟨_, rfl⟩
 have HN := Lib.hid hn
 rw [← hn] at hlen
 clear hm hl hn q1 q2 q3 q4 q5
 go_enter Tryz.func40, Tryz.ntmps40
 go_upto_region 1 with (go_big_may; fail)
 go_upto_region 2 with (go_big_may; fail)
 go_wp2_with (first | (refine L_load1 (d := some 9) rfl rfl rfl (by rfl) Tryz.underlying78 rfl (cell_of (hst.stood HBk.out) lgArr_3) ?_) | (refine L_range (fk := kInt) (fv := sV) (l := am) (d := some 10) rfl rfl rfl Tryz.underlying78 (ev_tmp rfl) (hst.stood HAm.out) ?_; intro r W10 hnew; replace hst := hst.trans hnew; simp only [List.cons_append, List.nil_append] at hst))
 (try simp only [Act.put, List.setIfInBounds_toArray, List.set_cons_succ, List.set_cons_zero])
 rw [← HN.out] at hst
 clear hnew
 have hst := hst.nilRow 110 33
 go_loopg [3] n (fun gk s3 wr => ∃ (dn : List Nat) (O : Option Addr) (k oc : Nat), Hid (dn.length + gk = n ∧ dn.Nodup ∧ (∀ i ∈ dn, i < n) ∧ k = dn.length) ∧ s3 = .slice O k oc ∧
  St w wr [.row O k oc 110 33 (entL (dn.map (enN nm am))), .obj r (.mapIter (some Ma) n dn.toArray n)])
 case atStart => exact ⟨[], none, 0, 0, Lib.hid ⟨by simp, List.nodup_nil, by simp, rfl⟩, rfl, hst⟩
 case round =>
  clear hst
  obtain ⟨dn, O, k, oc, HG, rfl, hst⟩ := hrel
  go_wp2_with ((refine L_next (fk := kInt) (fv := sV) (l := am) (d := some 11) rfl rfl hst rfl (ev_tmp rfl) HN.out (Nat.le_refl _) (hst.stood HAm.out) 1 rfl ?_ ?_))
  ·intro hall
   go_wp2_with fail
   go_ret
   obtain ⟨g1, g2, g3, rfl⟩ := HG.out
   have hn := HN.out
   have hp := range_perm g2 g3 hall
   have hpm : (dn.map (enN nm am)).Perm (am.map fun p => (p.1, fL nm p.2)) := by
    rw [← enN_all, ← hn]
    exact hp.map _
   have hM := HM.out
   have hnd : ((am.map fun p => (p.1, fL nm p.2)).map (·.1)).Nodup := by
    rw [List.map_map]
    exact hM.ndA
   have hlen2 : (dn.map (enN nm am)).length = dn.length := by simp
   refine ⟨dn.map (enN nm am), O, oc, by rw [hlen2]; rfl, ⟨by rw [hpm.length_eq, List.length_map, ← hn]; exact hlen, ?_, ((hpm.map _).nodup_iff).2 hnd, ?_⟩, ?_⟩
   ·intro e he
    obtain ⟨q, hq, rfl⟩ := List.mem_map.1 (hpm.mem_iff.1 he)
    exact (hM.ksA q hq).1
   ·funext k
    rw [leafAt_perm (((hpm.map _).nodup_iff).2 hnd) hpm]
    exact hM.entries HLg.out (fL nm) (fun q _ x hx => by unfold fL; rw [hx]; rfl) k
   ·rw [hlen2]
    exact hst.pick [0] (by decide)
  ·intro i q W11 hq hi hst'
   clear hst
   have hst := hst'
   clear hst'
   simp only [List.set_cons_zero, List.set_cons_succ] at hst
   obtain ⟨x, hx, he, hko⟩ := HAt.out i q hq
   obtain ⟨k1, s1⟩ := q
   obtain ⟨⟨a1, a2, a3⟩, a4, a5⟩ := x
   simp only at hx he hko
   have HX := Lib.hid hx
   have HK := Lib.hid hko
   have HQ := Lib.hid hq
   have HIn := Lib.hid hi
   have HSn := Lib.hid (show entL (dn.map (enN nm am)) ++ (prArr (k1 : Int) a5).toList = entL ((dn ++ [i]).map (enN nm am)) by
    rw [ent_snoc, List.map_append, List.map_singleton, he])
   have hk64 : k ≤ 64 := by
    obtain ⟨g1, g2, g3, g4⟩ := HG.out
    omega
   clear hx hko hq he hi
   generalize entL (dn.map (enN nm am)) = e0 at *
   go_wp2_with (first | (refine L_load1 (d := some 21) rfl rfl rfl (by rfl) Tryz.underlying77 rfl (cell_of (hst.stood HBk.out) lgArr_2) ?_) | (refine L_entry (fk := kInt) (fv := sV) (l := am) (i := i) (d := some 13) rfl rfl rfl (ev_tmp rfl) HN.out (hst.stood HAm.out) (hst.obj 1 rfl) HQ.out ?_) | (refine L_look1s (fk := sV) (fv := lsV) (y := s1) (l := nm) (d := some 23) rfl rfl rfl keyed_str Tryz.underlying77 el_log_last (ev_tmp rfl) (ev_tmp rfl) sV_inj HO.out HD.out HK.out (hst.stood HNm.out) HX.out ?_) | (refine L_fieldD (d := some 24) rfl rfl rfl Tryz.underlying85 rfl (ev_tmp rfl) Tryz.underlying32 el_api_Digest lsArr_leaf ?_) | (refine L_buildE (d := some 25) rfl rfl rfl (ev_tmp rfl) (ev_tmp rfl) ?_) | (refine L_buildS (d := some 26) rfl rfl rfl [_] (bs_1 (ev_tmp rfl)) rfl Tryz.underlying93 el_api_Entry rfl (by (simp [Value.cells]; done)) (by decide) (by decide) ?_; (try clear hnew); intro g26 W26 hnew; replace hst := hst.trans hnew; simp only [List.cons_append, List.nil_append] at hst; simp only [List.flatMap_cons, List.flatMap_nil, List.append_nil, Value.cells, List.toList_toArray] at hst) | (refine L_appendO (d := some 27) rfl rfl hst rfl (by rfl) (by rfl) Tryz.underlying93 el_api_Entry rfl (by decide) (by decide) 1 rfl (by (rfl)) (by (exact hst.sl 0 rfl)) (by (exact prArr_one _ _)) (by omega) ?_; clear hst; intro A27 c27 W27 hst; simp only [List.set_cons_zero, List.set_cons_succ, List.nil_append, Nat.zero_add] at hst))
   have hG2 : (dn ++ [i]).length + (gk - 1) = n ∧ (dn ++ [i]).Nodup ∧ (∀ j ∈ dn ++ [i], j < n) ∧ k + 1 = (dn ++ [i]).length ∧ 0 < gk := by
    obtain ⟨g1, g2, g3, g4⟩ := HG.out
    have hin : i < n := by rw [HN.out]; exact (List.getElem?_eq_some_iff.1 HQ.out).1
    have hnd : (dn ++ [i]).Nodup := by
     rw [List.nodup_append]
     refine ⟨g2, by simp, fun a ha b hb => ?_⟩
     rw [List.mem_singleton.1 hb]
     intro e
     exact HIn.out (e ▸ ha)
    have hlt : ∀ j ∈ dn ++ [i], j < n := fun j hj => by
     rcases List.mem_append.1 hj with hj | hj
     ·exact g3 j hj
     ·rw [List.mem_singleton.1 hj]; exact hin
    have hle := nodup_le n _ hnd hlt
    rw [List.length_append, List.length_singleton] at hle
    refine ⟨?_, hnd, hlt, ?_, ?_⟩
    ·rw [List.length_append, List.length_singleton]; omega
    ·rw [List.length_append, List.length_singleton]; omega
    ·omega
   obtain ⟨q1, q2, q3, q4, q5⟩ := hG2
   go_roundg (gk - 1)
   case measure => omega
   case rel =>
    refine ⟨dn ++ [i], A27, k + 1, c27, Lib.hid ⟨q1, q2, q3, q4⟩, rfl, ?_⟩
    rw [← HSn.out]
    exact hst.tail
attribute [local simp] hdArr_size
set_option maxHeartbeats 8000000 in
set_option maxRecDepth 100000 in
theorem headK_any (key : List UInt8) (ns : List NoteN) (p : LgP) (w : World) (hT : Tb w) (hp : LgAt w p key ns) (hm : MapsOf ns p.nm p.am) (hl : Logged ns) (hpm : p.m ≤ 140737488355000) :
  Calls Tryz.prog 12 #[.pointer (some ⟨p.g, 0, none⟩)] w fun e w' => e = .returned (.agg (hdArr (ns.length : Int) (rootN (lvN ns)) (mapN ns) (headR key ns))) ∧ St w w' [] := by
 have hst := St.refl w
 have HT := Lib.hid hT
 have hn := hl.len
 have HE := Lib.hid (fun (w' : World) (h : LgAt w' p key ns) => entriesK_any key ns p w' h hm hl)
 have HRt := Lib.hid (fun (es : List (Nat × Dig)) (O : Option Addr) (oc : Nat) (w' : World) (ht : Tb w') (h1 : es.length ≤ 64 ∧ (∀ e ∈ es, e.1 < 4294967296) ∧ (es.map (·.1)).Nodup ∧ leafAt es = lgF ns) (h : SlR w' O es.length oc 33 (entL es)) => by
  have := tRootM_any es O es.length oc w' ht h h1.1 h1.2.1 h1.2.2.1
  rw [h1.2.2.2] at this
  exact this)
 have HTg := Lib.hid (show headR key ns = tagN key (ns.length : Int) (rootN (lvN ns)) (mapN ns) from rfl)
 have HMp := Lib.hid (show mRoot (lgF ns) 32 0 = mapN ns from rfl)
 rw [HMp.out] at HRt
 have HRo := Lib.hid (fun (w' : World) (ht : Tb w') (h : SlR w' p.O ns.length p.lc 32 (digsL (lvN ns))) => tRoot_any (lvN ns) _ _ _ w' ht h hn)
 have HLA := Lib.hid hp
 obtain ⟨q1, q2, q3, q4, q5⟩ := hp
 obtain ⟨g, m, c, lc, Mn, Ma, A, O0, nm, am⟩ := p
 simp only at *
 have HBk := Lib.hid q1
 have HKy := Lib.hid q2
 have HLv := Lib.hid q3
 have HTt := Lib.hid (fun (w' : World) (x y : Dig) (ht : Tb w') (hk : SlR w' A m c 1 (bytesL key)) => tag_any key A m c (ns.length : Int) x y zeroD w' (by omega) (by omega) ht hk hpm)
 generalize headR key ns = tg at *
 generalize mapN ns = mp at *
 clear hT hm hl hpm q1 q2 q3 q4 q5
 go_enter Tryz.func12, Tryz.ntmps12
 go_upto_region 1 with (go_big_may; (refine L_allocA (d := some 2) rfl rfl rfl el_api_Head ?_; (try clear hnew); intro g2 W2 hnew; replace hst := hst.trans hnew; simp only [List.cons_append, List.nil_append] at hst))
 go_upto_region 2 with (go_big_may; first | (refine L_load1 (d := some 7) rfl rfl rfl (by rfl) Tryz.underlying44 rfl (cell_of (hst.stood HBk.out) lgArr_1) ?_) | (refine L_buildHd (d := some 9) rfl rfl rfl (ev_tmp rfl) ?_) | (refine L_allocA (d := some 3) rfl rfl rfl el_api_Head ?_; (try clear hnew); intro g3 W3 hnew; replace hst := hst.trans hnew; simp only [List.cons_append, List.nil_append] at hst) | (refine wpl_at (.store 41 (.tmp 3) (.tmp 9)) rfl ?_; (refine L_storeA rfl rfl hst rfl (by rfl) (ev_tmp rfl) (by (exact hdArr_all _ _ _ _)) el_api_Head (by (rfl)) 0 rfl (by (rfl)) ?_; clear hst; intro WS7 hst; simp only [List.set_cons_zero, List.set_cons_succ, hdArr_putRoot _ _ _ _ _] at hst)))
 go_upto_region 3 with (go_big_may; first | (refine L_load1 (d := some 14) rfl rfl rfl (by rfl) Tryz.underlying44 rfl (cell_of (hst.stood HBk.out) lgArr_1) ?_) | (go_at_call 38; (try clear hnew); refine (HRo.out _ (HT.out.of hst) (hst.old (by decide) HLv.out)).mono ?_; rintro e Wk1 ⟨rfl, hnew⟩; replace hst := hst.keep hnew) | (refine wpl_at (.store 32 (.tmp 18) (.tmp 16)) rfl ?_; (refine L_storeM rfl rfl hst rfl (by rfl) (ev_tmp rfl) (by (exact Dig.one _)) el_api_Digest (by (exact Dig.size _)) 0 rfl (by (exact of_decide_eq_true rfl)) ?_; clear hst; intro WS9 hst; simp only [List.set_cons_zero, List.set_cons_succ, hdArr_putRoot _ _ _ _ _] at hst)))
 go_upto_region 4 with (go_big_may; first | (go_at_call 40; (try clear hnew); refine (HE.out _ (HLA.out.old hst)).mono ?_; rintro e We ⟨es, Oe, oe, rfl, h1, hnew⟩; have H1 := Lib.hid h1; clear h1; replace hst := hst.trans hnew; simp only [List.cons_append, List.nil_append] at hst) | (go_at_call 39; (try clear hnew); refine (HRt.out es _ _ _ (HT.out.of hst) H1.out (hst.sl 0 rfl)).mono ?_; rintro e Wk2 ⟨rfl, hnew⟩; replace hst := hst.keep hnew) | (refine wpl_at (.store 32 (.tmp 25) (.tmp 23)) rfl ?_; (refine L_storeM rfl rfl hst rfl (by rfl) (ev_tmp rfl) (by (exact Dig.one _)) el_api_Digest (by (exact Dig.size _)) 1 rfl (by (simp; done)) ?_; clear hst; intro WS7 hst; simp only [List.set_cons_zero, List.set_cons_succ, hdArr_putMap _ _ _ _ _] at hst)))
 refine wp_region_idx [(0, 0), (1, 0), (2, 0), (3, 0), (4, 2), (5, 2), (6, 2), (7, 1)] (by kernel_rfl) (by kernel_rfl) ?_
 replace hst := hst.drew
 refine idx_q rfl rfl ?_; go_wp2_with fail
 refine idx_q rfl rfl ?_; go_wp2_with fail
 refine idx_qf rfl rfl (by kernel_rfl) ?_; go_wp2_with fail
 refine idx_q rfl rfl ?_; go_wp2_with ((refine L_load1 (d := some 29) rfl rfl rfl (by rfl) Tryz.underlying22 rfl (cell_of (hst.stood HBk.out) lgArr_0) ?_))
 refine idx_g rfl ?_; go_wp2_with (((refine L_loadA (d := some 30) rfl rfl rfl (by rfl) Tryz.underlying41 rfl el_api_Head (by (exact hst.get 1 rfl)) (by (exact hdArr_size _ _ _ _)) ?_))); refine ⟨by (exact Below.refl _ _), ?_⟩
 refine idx_g rfl ?_; go_wp2_with ((go_at_call 24; (try clear hnew); refine (HTt.out _ _ _ (HT.out.of hst) (hst.old (by decide) HKy.out)).mono ?_; rintro e Wk3 ⟨rfl, hnew⟩; replace hst := hst.keep hnew)); refine ⟨by (exact hnew.below), ?_⟩
 refine idx_g rfl ?_; go_wp2_with fail; refine ⟨by (exact Below.refl _ _), ?_⟩
 refine idx_e rfl ?_; go_wp2_with ((refine wpl_at (.store 32 (.tmp 32) (.tmp 31)) rfl ?_; (refine L_storeM rfl rfl hst rfl (by rfl) (ev_tmp rfl) (by (exact Dig.one _)) el_api_Digest (by (rfl)) 1 rfl (by (simp; done)) ?_; clear hst; intro WS7 hst; simp only [List.set_cons_zero, List.set_cons_succ, hdArr_putTag _ _ _ _ _] at hst)))
 refine idx_nil ?_
 go_wp2_with (first | ((refine L_loadA (d := some 33) rfl rfl rfl (by rfl) Tryz.underlying41 rfl el_api_Head (by (exact hst.get 1 rfl)) (by (exact hdArr_size _ _ _ _)) ?_)) | (refine wpl_at (.store 41 (.tmp 2) (.tmp 33)) rfl ?_; (refine L_storeA rfl rfl hst rfl (by rfl) (ev_tmp rfl) (by (exact hdArr_all _ _ _ _)) el_api_Head (by (exact hdArr_size _ _ _ _)) 2 rfl (by (rfl)) ?_; clear hst; intro WS1 hst; simp only [List.set_cons_zero, List.set_cons_succ] at hst)))
 refine bp_cell rfl rfl rfl (hst.get 2 rfl) Tryz.underlying41 rfl el_api_Head (by (simp; done)) ?_
 rw [HTg.out]
 exact ⟨rfl, hst.forget⟩
theorem findU_any (key : List UInt8) (ns : List NoteN) (s : List UInt8) (p : LgP) (w0 w : World) (L : List Res) (hT : Tb w0) (hst : St w0 w (lgL p key ns ++ L)) (hm : MapsOf ns p.nm p.am) (hl : Logged ns) (hs : isNm s = true) :
  Calls Tryz.prog 15 #[.pointer (some ⟨p.g, 0, none⟩), .string (bsOf s)] w (FindEnd key ns s p w0 L) := by
 cases hi : lastI ns s with
 | none => exact find_none key ns s p w0 w L hT hst hm hl hs hi
 | some i => exact find_has key ns s p w0 w L hT hst hm hl hs i hi
end Go.Proofs.YtaebeemnipafbaaGreatDoor

set_option maxRecDepth 20000
set_option linter.unusedSimpArgs false
set_option linter.unusedVariables false
namespace Go.Proofs.YtaebeemnipafbaaGreatDoor
open Go.RowKit
theorem findN_no {ns : List NoteN} {s : List UInt8} (h : isNm s = false) : findN ns s = zeroFd := by unfold findN; rw [if_neg (by rw [h]; decide)]
theorem findE_no {s : List UInt8} (h : isNm s = false) : findE s = 1 := by unfold findE; rw [if_neg (by rw [h]; decide)]
theorem findE_yes {s : List UInt8} (h : isNm s = true) : findE s = 0 := by unfold findE; rw [if_pos h]
theorem findV_any (key : List UInt8) (ns : List NoteN) (s : List UInt8) (p : LgP) (w0 w : World) (L : List Res) (hT : Tb w0) (hst : St w0 w (lgL p key ns ++ L)) (hm : MapsOf ns p.nm p.am) (hl : Logged ns) :
  Calls Tryz.prog 15 #[.pointer (some ⟨p.g, 0, none⟩), .string (bsOf s)] w fun e w' => ∃ A c B q, e = .returned (.tuple #[.agg (fdArr (findN ns s).note.name (findN ns s).note.key (findN ns s).note.turn (findN ns s).at_ A (findN ns s).path.length c B (findN ns s).mpath.length q), errO (findE s)]) ∧
   St w0 w' (.row A (findN ns s).path.length c 32 32 (digsL (findN ns s).path) :: .row B (findN ns s).mpath.length q 32 32 (digsL (findN ns s).mpath) :: (lgL p key ns ++ L)) := by
 by_cases hs : isNm s = true
 ·rw [findE_yes hs]
  exact findU_any key ns s p w0 w L hT hst hm hl hs
 ·have hs' : isNm s = false := by simpa using hs
  rw [findN_no hs', findE_no hs']
  refine (find_no key ns s p w0 w L hst hs').mono ?_
  rintro e w' ⟨rfl, h⟩
  exact ⟨none, 0, none, 0, rfl, (h.nilRow 32 32).nilRow 32 32⟩
end Go.Proofs.YtaebeemnipafbaaGreatDoor

set_option maxRecDepth 20000
set_option linter.unusedSimpArgs false
set_option linter.unusedVariables false
namespace Go.Proofs.YtaebeemnipafbaaGreatDoor
open Go.RowKit
def mfE (ps : List Dig) : Nat := if ps.length = 32 then 0 else 3
def mfD (s : List UInt8) (l : Dig) (ps : List Dig) : Dig := if ps.length = 32 then mFold (idxN s) l ps else zeroD
theorem tfoldU_any (s : List UInt8) (l : Dig) (ps : List Dig) (A : Option Addr) (m c : Nat) (w : World) (hT : Tb w) (hx : SlR w A m c 32 (digsL ps)) :
  Calls Tryz.prog 57 #[.int .i64 (idxN s : Int), l.v, .slice A m c] w fun e w' => e = .returned (.tuple #[(mfD s l ps).v, errO (mfE ps)]) ∧ St w w' [] := by
 have hl : ps.length = m := by have := hx.1; rw [length_digsL] at this; omega
 unfold mfD mfE
 by_cases h : ps.length = 32
 ·rw [if_pos h, if_pos h]
  obtain rfl : m = 32 := by omega
  exact tfoldM_any (idxN s) l ps A c w hT hx (idxN_lt s)
 ·rw [if_neg h, if_neg h]
  exact tfoldM_len (idxN s) l A m c w (by omega) (idxN_lt s)
theorem mapTold_iff (y : Dig) (s : List UInt8) (l : Dig) (ps : List Dig) : mapTold y s l ps ↔ mfE ps = 0 ∧ mfD s l ps = y := by
 unfold mapTold mfE mfD
 by_cases h : ps.length = 32
 ·simp [h]
 ·simp [h]
def tfE (i n : Int) (m : Nat) : Nat := if n < 1 ∨ 256 < n ∨ i < 0 ∨ n ≤ i then 2 else if m = longN i.toNat n.toNat then 0 else 3
def tfD (l : Dig) (i n : Int) (p : List Dig) : Dig := if tfE i n p.length = 0 then foldedN l i.toNat n.toNat p else zeroD
theorem treeFoldU_any (l : Dig) (p : List Dig) (A : Option Addr) (m c : Nat) (i n : Int) (w : World) (hT : Tb w) (hx : SlR w A m c 32 (digsL p)) :
  Calls Tryz.prog 59 #[l.v, .int .i64 i, .int .i64 n, .slice A m c] w fun e w' => e = .returned (.tuple #[(tfD l i n p).v, errO (tfE i n p.length)]) ∧ St w w' [] := by
 have hl : p.length = m := by have := hx.1; rw [length_digsL] at this; omega
 unfold tfD
 by_cases h : n < 1 ∨ 256 < n ∨ i < 0 ∨ n ≤ i
 ·have e : tfE i n p.length = 2 := if_pos h
  rw [e]
  exact tFold_range l A m c i n w (by omega)
 ·obtain ⟨a, rfl⟩ := Int.eq_ofNat_of_zero_le (show 0 ≤ i by omega)
  obtain ⟨b, rfl⟩ := Int.eq_ofNat_of_zero_le (show 0 ≤ n by omega)
  by_cases h2 : p.length = longN a b
  ·have e : tfE (a : Int) (b : Int) p.length = 0 := by unfold tfE; rw [if_neg h, Int.toNat_natCast, Int.toNat_natCast, if_pos h2]
   rw [e, if_pos rfl, Int.toNat_natCast, Int.toNat_natCast]
   exact tFold_any l p A m c a b w hT hx (by omega) (by omega) (by omega)
  ·have e : tfE (a : Int) (b : Int) p.length = 3 := by unfold tfE; rw [if_neg h, Int.toNat_natCast, Int.toNat_natCast, if_neg h2]
   rw [e]
   exact tFold_length l A m c a b w (by omega) (by omega) (by omega)
theorem treeTold_iff (n : Int) (x l : Dig) (i : Int) (p : List Dig) : treeTold n x l i p ↔ tfE i n p.length = 0 ∧ tfD l i n p = x := by
 unfold treeTold tfD tfE
 by_cases h : n < 1 ∨ 256 < n ∨ i < 0 ∨ n ≤ i
 ·simp only [if_pos h]
  constructor
  ·rintro ⟨h1, h2, h3, h4, -⟩; omega
  ·rintro ⟨h1, -⟩; cases h1
 ·simp only [if_neg h]
  by_cases h2 : p.length = longN i.toNat n.toNat
  ·simp only [if_pos h2, if_true, true_and]
   exact ⟨fun h3 => h3.2.2.2.2.2, fun h3 => ⟨by omega, by omega, by omega, by omega, h2, h3⟩⟩
  ·simp only [if_neg h2]
   constructor
   ·rintro ⟨-, -, -, -, h3, -⟩; exact absurd h3 h2
   ·rintro ⟨h3, -⟩; cases h3
end Go.Proofs.YtaebeemnipafbaaGreatDoor

set_option maxRecDepth 20000
set_option linter.unusedSimpArgs false
set_option linter.unusedVariables false
namespace Go.Proofs.YtaebeemnipafbaaGreatDoor
open Go.RowKit
section
variable {P : Program} {t td e8 : TypeId} {zd : Value} {bd : Nat} {z8 : Value} {b8 : Nat}
theorem run_eqStrD (dd : Nat) {t : TypeId} (ht : P.underlying t = some .string) (s u : List UInt8) (W : World) : (Op.equalIn (dd + 1) t (.string (bsOf s)) (.string (bsOf u))).run P W = .ok (decide (s = u)) W := by
 have := run_equalIn_string (P := P) W dd t (bsOf s) (bsOf u) ht
 rw [bsOf_toList, bsOf_toList] at this
 rw [this]
 congr 1
 by_cases h : s = u <;> simp [h]
theorem run_eqNote {f0 f1 f2 : Field} (hS0 : P.underlying t = some (.struct #[f0, f1, f2])) (hp : P.stoodInHeld t = false) (n0 : f0.name ≠ "_") (n1 : f1.name ≠ "_") (n2 : f2.name ≠ "_")
  (hs : P.underlying f0.type = some .string) (h1 : f1.type = td) (hi : P.underlying f2.type = some (.int .i64)) (o0 : f0.offset = 0) (o1 : f1.offset = 1) (o2 : f2.offset = 33)
  (ht : P.underlying td = some (.array 32 e8)) (hd : ElemIs P td zd 32 bd) (he : P.underlying e8 = some (.int .u8)) (h8 : ElemIs P e8 z8 1 b8) (s u : List UInt8) (k d : Dig) (n m : Int) (w : World) :
  (Op.equalIn 10000 t (.agg (ntArr s k n)) (.agg (ntArr u d m))).run P w = .ok (decide (s = u ∧ k = d ∧ n = m)) w := by
 have hFo : P.fieldsOf t = #[f0, f1, f2] := by unfold Program.fieldsOf; rw [hS0]
 rw [show (10000 : Nat) = 9999 + 1 from rfl, run_equalIn_agg w 9999 t _ _ (by rw [hFo]; exact hS0) hp, hFo]
 have i0 := run_part1 (P := P) (d := .string) hs rfl (ntArr_0 (s := s) (k := k) (n := n)) w
 have j0 := run_part1 (P := P) (d := .string) hs rfl (ntArr_0 (s := u) (k := d) (n := m)) w
 have i1 := run_partD ht hd (ntArr_part s k n) w
 have j1 := run_partD ht hd (ntArr_part u d m) w
 have i2 := run_part1 (P := P) (d := .int .i64) hi rfl (ntArr_33 (s := s) (k := k) (n := n)) w
 have j2 := run_part1 (P := P) (d := .int .i64) hi rfl (ntArr_33 (s := u) (k := d) (n := m)) w
 have e0 : (Op.equalIn 9999 f0.type (.string (bsOf s)) (.string (bsOf u))).run P w = .ok (decide (s = u)) w := run_eqStrD (P := P) 9998 hs s u w
 have e1 : (Op.equalIn 9999 td (.agg k.arr) (.agg d.arr)).run P w = .ok (decide (k = d)) w := run_eqDig (P := P) 9997 ht he h8 k d w
 have e2 : (Op.equalIn 9999 f2.type (.int .i64 n) (.int .i64 m)).run P w = .ok (n == m) w := run_equalIn_int w 9998 f2.type .i64 .i64 n m hi
 simp only [Op.eqFields, n0, n1, n2, ne_eq, not_false_eq_true, if_true, h1, o0, o1, o2, Sem.run_bind, i0, i1, i2, j0, j1, j2, e0, Result.andThen_ok, e1, e2]
 by_cases a0 : s = u
 ·rw [decide_eq_true a0]
  simp only [Bool.not_true, Bool.false_eq_true, if_false, Sem.run_bind, i1, j1, i2, j2, Result.andThen_ok, e1, e2]
  by_cases a1 : k = d
  ·rw [decide_eq_true a1]
   simp only [Bool.not_true, Bool.false_eq_true, if_false, Sem.run_bind, i2, j2, Result.andThen_ok, e2]
   by_cases a2 : n = m <;> simp [a0, a1, a2]
  ·rw [decide_eq_false a1]
   simp [a1]
 ·rw [decide_eq_false a0]
  simp [a0]
end
theorem eqG_Note : Tryz.prog.eqGuardType Tryz.prog.depth 34 = false := by kernel_rfl
theorem eqNote (s u : List UInt8) (k d : Dig) (n m : Int) (w : World) : (Op.equalIn 10000 34 (.agg (ntArr s k n)) (.agg (ntArr u d m))).run Tryz.prog w = .ok (decide (s = u ∧ k = d ∧ n = m)) w :=
 run_eqNote Tryz.underlying34 (by kernel_rfl) (by decide) (by decide) (by decide) Tryz.underlying9 rfl Tryz.underlying3 rfl rfl rfl Tryz.underlying32 el_api_Digest Tryz.underlying5 el_uint8 s u k d n m w
end Go.Proofs.YtaebeemnipafbaaGreatDoor
