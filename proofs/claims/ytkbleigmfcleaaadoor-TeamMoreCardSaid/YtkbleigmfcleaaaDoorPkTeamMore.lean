/-
  Proved here: TeamMore: the law returns true for every input, and leaves its arguments as they were.
-/
import Derived.Test.YtkbleigmfcleaaaDoorEqS
import Derived.Test.YtkbleigmfcleaaaDoorHead
import Derived.Test.YtkbleigmfcleaaaDoorConcat
import Derived.Test.YtkbleigmfcleaaaDoorMac
import Derived.Test.YtkbleigmfcleaaaDoorMarkPlain
import Derived.Test.YtkbleigmfcleaaaDoorPair
import Derived.Test.YtkbleigmfcleaaaDoorTeamPlain
import Derived.Test.YtkbleigmfcleaaaDoorOpenS
import Derived.Test.YtkbleigmfcleaaaDoorLawF
import Derived.Test.YtkbleigmfcleaaaDoorShelf
import Derived.Shelf.SlicesE.DeleteFunc
import Derived.Shelf.Abstract
import Derived.Test.YtkbleigmfcleaaaDoorRefOf
import Derived.Test.YtkbleigmfcleaaaDoorLawC
import Derived.Test.YtkbleigmfcleaaaDoorForkM
import Derived.Test.YtkbleigmfcleaaaDoorOpenB
import Derived.Test.YtkbleigmfcleaaaDoorCards
import Derived.Test.YtkbleigmfcleaaaDoorTie
import Derived.Deep.DeepHandedRow
import Derived.ProofKit
import Derived.OpenShut
import Derived.Test.YtkbleigmfcleaaaDoorOpenH
import Derived.Test.YtkbleigmfcleaaaDoorOpenK
set_option maxRecDepth 20000
set_option linter.unusedSimpArgs false
set_option linter.unusedVariables false
namespace Go.Proofs.YtkbleigmfcleaaaDoor
open Go.RowKit
theorem eqG_Seal : Tryd.prog.eqGuardType Tryd.prog.depth 43 = false := by kernel_rfl
theorem eqSeal (n m : Int) (x x' : Dig) (w : World) : (Op.equalIn 10000 43 (.agg (.int .i64 n :: x.arr.toList).toArray) (.agg (.int .i64 m :: x'.arr.toList).toArray)).run Tryd.prog w = .ok (decide (n = m ∧ x = x')) w :=
 run_eqPair Tryd.underlying43 (by kernel_rfl) (by decide) (by decide) Tryd.underlying3 rfl rfl rfl Tryd.underlying23 el_api_Digest Tryd.underlying5 el_uint8 n m x x' w
end Go.Proofs.YtkbleigmfcleaaaDoor

set_option maxRecDepth 20000
set_option linter.unusedSimpArgs false
set_option linter.unusedVariables false
namespace Go.Proofs.YtkbleigmfcleaaaDoor
open Go.RowKit
def mk8 (n : Int) (k : Nat) : List UInt8 := 13 :: (sz8 n).take k
theorem mk8_succ (n : Int) (i k : Nat) (h : i + 1 + k = 8) : mk8 n k ++ [byteS n i] = mk8 n (k + 1) := by
 rcases (show k = 0 ∨ k = 1 ∨ k = 2 ∨ k = 3 ∨ k = 4 ∨ k = 5 ∨ k = 6 ∨ k = 7 by omega) with rfl | rfl | rfl | rfl | rfl | rfl | rfl | rfl
 ·obtain rfl : i = 7 := by omega
  rfl
 ·obtain rfl : i = 6 := by omega
  rfl
 ·obtain rfl : i = 5 := by omega
  rfl
 ·obtain rfl : i = 4 := by omega
  rfl
 ·obtain rfl : i = 3 := by omega
  rfl
 ·obtain rfl : i = 2 := by omega
  rfl
 ·obtain rfl : i = 1 := by omega
  rfl
 ·obtain rfl : i = 0 := by omega
  rfl
set_option maxHeartbeats 2000000 in
set_option maxRecDepth 100000 in
theorem mark_any (key : List UInt8) (K : Option Addr) (m mc : Nat) (n : Int) (x y z : Dig) (w : World) (hT : Tb w) (hk : SlR w K m mc 1 (bytesL key)) (hm : m ≤ 140737488355000) :
  Calls Tryd.prog 22 #[.slice K m mc, .agg (hdArr n x y z)] w fun e w' => e = .returned (markN key n x y).v ∧ St w w' [] := by
 have hst := St.refl w
 have HT := Lib.hid hT
 clear hT
 go_enter Tryd.func22, Tryd.ntmps22
 go_wp2_with (first
  | (refine L_boxA (d := some 3) rfl rfl rfl (ev_tmp rfl) ?_; (try clear hnew); intro g3 W3 hnew; replace hst := hst.trans hnew; simp only [List.cons_append, List.nil_append] at hst)
  | (refine L_allocA (d := some 4) rfl rfl rfl el_api_Digest ?_; (try clear hnew); intro g4 W4 hnew; replace hst := hst.trans hnew; simp only [List.cons_append, List.nil_append] at hst)
  | (refine L_buildS (d := some 7) rfl rfl rfl [_] (bs_1 ev_const) rfl Tryd.underlying49 el_uint8 rfl (by first | (simp [Value.cells]; done) | (simp [Value.cells, Dig.size]; done)) (by decide) (by decide) ?_; (try clear hnew); intro g7 W7 hnew; replace hst := hst.trans hnew; simp only [List.cons_append, List.nil_append] at hst; simp only [List.flatMap_cons, List.flatMap_nil, List.append_nil, Value.cells, List.toList_toArray] at hst)
  | fail)
 (try clear hnew)
 have hst : St w W7 [.row g7 1 1 5 1 (bytesL (mk8 n 0)), .blk g4 23 zeroD.arr, .blk g3 39 (hdArr n x y z)] := hst
 go_loopg [5, 6] 8 (fun gk s5 s6 wr => ∃ (k : Nat) (O : Option Addr) (oc : Nat), Hid (gk + k = 8) ∧ s5 = .slice O (1 + k) oc ∧ s6 = .int .i64 ((gk : Int) - 1) ∧ St w wr [.row O (1 + k) oc 5 1 (bytesL (mk8 n k)), .blk g4 23 zeroD.arr, .blk g3 39 (hdArr n x y z)])
 case atStart => exact ⟨0, _, _, Lib.hid rfl, rfl, rfl, hst⟩
 case round =>
  clear hst
  obtain ⟨k, O, oc, HK, rfl, rfl, hst⟩ := hrel
  have hk8 := HK.out
  by_cases hp : 0 < gk
  ·obtain ⟨i, rfl⟩ : ∃ i, gk = i + 1 := ⟨gk - 1, by omega⟩
   have e1 : ((i + 1 : Nat) : Int) - 1 = (i : Int) := by omega
   rw [e1]
   have hi7 : i ≤ 7 := by omega
   have HS := Lib.hid (mk8_succ n i k (by omega))
   have hk7 : k ≤ 7 := by omega
   clear hk8 e1 hp
   go_wp2_with (first
    | (refine L_buildS (d := some 20) rfl rfl rfl [_] (bs_1 (ev_tmp rfl)) rfl Tryd.underlying49 el_uint8 rfl (fun v hv => by rw [List.mem_singleton.1 hv]; rfl) (by decide) (by decide) ?_; (try clear hnew); intro g20 W20 hnew; replace hst := hst.trans hnew; simp only [List.cons_append, List.nil_append] at hst; simp only [List.flatMap_cons, List.flatMap_nil, List.append_nil, byteV_flat] at hst)
    | (refine L_cvU (d := some 15) rfl rfl rfl (ev_tmp rfl) Tryd.underlying3 (by first | exact Tryd.underlying87 | rfl) ?_)
    | (refine L_shr (d := some 18) rfl rfl rfl (ev_tmp rfl) (c := 8 * i) (by rw [ev_tmp rfl]; congr 1; omega) (by show 8 * i ≤ 64; omega) ?_)
    | (refine L_cv8 (d := some 19) rfl rfl rfl (ev_tmp rfl) Tryd.underlying87 Tryd.underlying5 ?_)
    | (refine L_load1 (d := some 14) rfl rfl rfl (by rfl) Tryd.underlying3 rfl (by first | assumption | exact cell_of (hst.get 0 rfl) hdArr_0 | exact cell_of (hst.get 0 rfl) rfl | exact cell_of (hst.get 1 rfl) hdArr_0 | exact cell_of (hst.get 1 rfl) rfl | exact cell_of (hst.get 2 rfl) hdArr_0 | exact cell_of (hst.get 2 rfl) rfl) ?_)
    | (refine L_buildS (d := some 20) rfl rfl rfl [_] (bs_1 (ev_tmp rfl)) rfl Tryd.underlying49 el_uint8 rfl (by first | (simp [Value.cells]; done) | (simp [Value.cells, Dig.size]; done)) (by decide) (by decide) ?_; (try clear hnew); intro g20 W20 hnew; replace hst := hst.trans hnew; simp only [List.cons_append, List.nil_append] at hst; simp only [List.flatMap_cons, List.flatMap_nil, List.append_nil, Value.cells, List.toList_toArray] at hst)
    | (refine L_appendO (d := some 21) rfl rfl hst rfl (by rfl) (by rfl) Tryd.underlying49 el_uint8 rfl (by decide) (by decide) 0 rfl (by first | rfl | omega) (by first | exact hst.sl 0 rfl | exact hst.sl 1 rfl | exact hst.sl 2 rfl | assumption | exact hst.old (by decide) (by assumption)) (by first | exact oneCell_bytes | (simp [Value.oneCell']; done)) (by omega) ?_; clear hst; intro A21 c21 W21 hst; simp only [List.set_cons_zero, List.set_cons_succ, List.nil_append, Nat.zero_add] at hst)
    | (refine L_appendO (d := some 21) rfl rfl hst rfl (by rfl) (by rfl) Tryd.underlying49 el_uint8 rfl (by decide) (by decide) 1 rfl (by first | rfl | omega) (by first | exact hst.sl 0 rfl | exact hst.sl 1 rfl | exact hst.sl 2 rfl | assumption | exact hst.old (by decide) (by assumption)) (by first | exact oneCell_bytes | (simp [Value.oneCell']; done)) (by omega) ?_; clear hst; intro A21 c21 W21 hst; simp only [List.set_cons_zero, List.set_cons_succ, List.nil_append, Nat.zero_add] at hst)
    | (refine L_appendO (d := some 21) rfl rfl hst rfl (by rfl) (by rfl) Tryd.underlying49 el_uint8 rfl (by decide) (by decide) 2 rfl (by first | rfl | omega) (by first | exact hst.sl 0 rfl | exact hst.sl 1 rfl | exact hst.sl 2 rfl | assumption | exact hst.old (by decide) (by assumption)) (by first | exact oneCell_bytes | (simp [Value.oneCell']; done)) (by omega) ?_; clear hst; intro A21 c21 W21 hst; simp only [List.set_cons_zero, List.set_cons_succ, List.nil_append, Nat.zero_add] at hst)
    | (refine L_appendF (d := some 21) rfl rfl rfl (by rfl) (by rfl) Tryd.underlying49 el_uint8 rfl (by decide) (by assumption) (by first | assumption | exact hst.sl 0 rfl | exact hst.sl 1 rfl | exact hst.sl 2 rfl | assumption | exact hst.old (by decide) (by assumption)) (by omega) (by omega) (by omega) ?_; (try clear hnew); intro A21 c21 W21 hnew; replace hst := hst.trans hnew; simp only [List.cons_append, List.nil_append] at hst)
    | fail)
   go_roundg i
   case measure => omega
   case rel =>
    have hk8 := HK.out
    refine ⟨k + 1, _, _, Lib.hid (by omega), by rw [show 1 + (k + 1) = 1 + k + 1 by omega], rfl, ?_⟩
    rw [show 1 + (k + 1) = 1 + k + 1 by omega]
    rw [← HS.out, bytesL_append]
    exact hst.tail
  ·obtain rfl : gk = 0 := by omega
   obtain rfl : k = 8 := by omega
   clear hk8 HK hp
   go_wp2_with (first
    | fail)
   refine wp_region_idx [(0, 0), (1, 0), (2, 0), (3, 0), (4, 2), (5, 2), (6, 2), (7, 2), (8, 2), (9, 1)] (by kernel_rfl) (by kernel_rfl) ?_
   replace hst := hst.drew
   refine idx_q rfl rfl ?_; go_wp2_with fail
   refine idx_q rfl rfl ?_; go_wp2_with fail
   refine idx_qf rfl rfl (by kernel_rfl) ?_; go_wp2_with fail
   refine idx_q rfl rfl ?_; go_wp2_with (first | (refine L_sliceMid (d := some 25) rfl rfl rfl (by rfl) Tryd.underlying23 el_uint8 (hdArr_root (hst.get 2 rfl)) (Dig.size _) (by decide) ?_; intro hs25) | (refine L_sliceAll (d := some 25) rfl rfl rfl (by rfl) Tryd.underlying23 el_uint8 (by first | exact hst.get 0 rfl | exact hst.get 1 rfl | exact hst.get 2 rfl | exact hst.get 3 rfl | exact hst.get 4 rfl) (by first | rfl | exact Dig.size _ | (simp; done)) (by decide) ?_; intro hs25) | fail)
   refine idx_g rfl ?_; go_wp2_with fail; refine ⟨by first | exact Below.refl _ _ | exact hnew.below, ?_⟩
   refine idx_g rfl ?_; go_wp2_with (first | (refine L_sliceMid (d := some 27) rfl rfl rfl (by rfl) Tryd.underlying23 el_uint8 (hdArr_map (hst.get 2 rfl)) (Dig.size _) (by decide) ?_; intro hs27) | (refine L_sliceAll (d := some 27) rfl rfl rfl (by rfl) Tryd.underlying23 el_uint8 (by first | exact hst.get 0 rfl | exact hst.get 1 rfl | exact hst.get 2 rfl | exact hst.get 3 rfl | exact hst.get 4 rfl) (by first | rfl | exact Dig.size _ | (simp; done)) (by decide) ?_; intro hs27) | fail); refine ⟨by first | exact Below.refl _ _ | exact hnew.below, ?_⟩
   refine idx_g rfl ?_; go_wp2_with (first | (refine L_buildS (d := some 28) rfl rfl rfl [_, _, _] (bs_3 (ev_tmp rfl) (ev_tmp rfl) (ev_tmp rfl)) rfl Tryd.underlying37 el_S_uint8 rfl (by first | (simp [Value.cells]; done) | (simp [Value.cells, Dig.size]; done)) (by decide) (by decide) ?_; (try clear hnew); intro g28 W28 hnew; replace hst := hst.trans hnew; simp only [List.cons_append, List.nil_append] at hst; simp only [List.flatMap_cons, List.flatMap_nil, List.append_nil, Value.cells, List.toList_toArray] at hst) | fail); refine ⟨by first | exact Below.refl _ _ | exact hnew.below, ?_⟩
   refine idx_g rfl ?_; go_wp2_with (first | (refine L_sliceMid (d := some 25) rfl rfl rfl (by rfl) Tryd.underlying23 el_uint8 (hdArr_root (hst.get 2 rfl)) (Dig.size _) (by decide) ?_; intro hs25) | (refine L_sliceMid (d := some 27) rfl rfl rfl (by rfl) Tryd.underlying23 el_uint8 (hdArr_map (hst.get 2 rfl)) (Dig.size _) (by decide) ?_; intro hs27) | (go_at_call 50; have h25 := hnew.old (by decide) hs25; have h27 := hnew.old (by decide) hs27; clear hnew; refine (concat3_any (mk8 n 8) x.l y.l _ _ _ _ _ _ _ _ _ _ _ _ (hst.sl 0 rfl) (hst.sl 1 rfl) (by rw [← Dig.toList]; exact h25) (by rw [← Dig.toList]; exact h27) (by omega)).mono ?_; rintro e W29 ⟨O29, c29, rfl, hnew⟩; replace hst := hst.trans hnew; simp only [List.cons_append, List.nil_append] at hst) | (go_at_call 49; (try clear hnew); refine (mac_any key (mk8 n 8 ++ (x.l ++ y.l)) _ _ _ _ _ _ _ (HT.out.of hst) (hst.old (by decide) hk) (hst.sl 0 rfl) hm (by decide)).mono ?_; rintro e Wk1 ⟨rfl, hnew⟩; replace hst := hst.keep hnew) | fail); refine ⟨by first | exact Below.refl _ _ | exact hnew.below, ?_⟩
   refine idx_g rfl ?_; go_wp2_with (first | (refine L_sliceMid (d := some 25) rfl rfl rfl (by rfl) Tryd.underlying23 el_uint8 (hdArr_root (hst.get 2 rfl)) (Dig.size _) (by decide) ?_; intro hs25) | (refine L_sliceMid (d := some 27) rfl rfl rfl (by rfl) Tryd.underlying23 el_uint8 (hdArr_map (hst.get 2 rfl)) (Dig.size _) (by decide) ?_; intro hs27) | (go_at_call 50; have h25 := hnew.old (by decide) hs25; have h27 := hnew.old (by decide) hs27; clear hnew; refine (concat3_any (mk8 n 8) x.l y.l _ _ _ _ _ _ _ _ _ _ _ _ (hst.sl 0 rfl) (hst.sl 1 rfl) (by rw [← Dig.toList]; exact h25) (by rw [← Dig.toList]; exact h27) (by omega)).mono ?_; rintro e W29 ⟨O29, c29, rfl, hnew⟩; replace hst := hst.trans hnew; simp only [List.cons_append, List.nil_append] at hst) | (go_at_call 49; (try clear hnew); refine (mac_any key (mk8 n 8 ++ (x.l ++ y.l)) _ _ _ _ _ _ _ (HT.out.of hst) (hst.old (by decide) hk) (hst.sl 0 rfl) hm (by decide)).mono ?_; rintro e Wk1 ⟨rfl, hnew⟩; replace hst := hst.keep hnew) | fail); refine ⟨by first | exact Below.refl _ _ | exact hnew.below, ?_⟩
   refine idx_e rfl ?_; go_wp2_with (first | (refine wpl_at (.store 23 (.tmp 4) (.tmp 30)) rfl ?_; first | (refine L_storeA rfl rfl hst rfl (by rfl) (ev_tmp rfl) (by first | rfl | exact Dig.one _ | (simp; done)) el_api_Digest (by first | rfl | exact Dig.size _ | (simp; done)) 0 rfl (by first | rfl | exact Dig.size _ | (simp; done)) ?_; clear hst; intro WS9 hst; simp only [List.set_cons_zero, List.set_cons_succ] at hst) | (refine L_storeA rfl rfl hst rfl (by rfl) (ev_tmp rfl) (by first | rfl | exact Dig.one _ | (simp; done)) el_api_Digest (by first | rfl | exact Dig.size _ | (simp; done)) 1 rfl (by first | rfl | exact Dig.size _ | (simp; done)) ?_; clear hst; intro WS9 hst; simp only [List.set_cons_zero, List.set_cons_succ] at hst) | (refine L_storeA rfl rfl hst rfl (by rfl) (ev_tmp rfl) (by first | rfl | exact Dig.one _ | (simp; done)) el_api_Digest (by first | rfl | exact Dig.size _ | (simp; done)) 2 rfl (by first | rfl | exact Dig.size _ | (simp; done)) ?_; clear hst; intro WS9 hst; simp only [List.set_cons_zero, List.set_cons_succ] at hst) | (refine L_storeA rfl rfl hst rfl (by rfl) (ev_tmp rfl) (by first | rfl | exact Dig.one _ | (simp; done)) el_api_Digest (by first | rfl | exact Dig.size _ | (simp; done)) 3 rfl (by first | rfl | exact Dig.size _ | (simp; done)) ?_; clear hst; intro WS9 hst; simp only [List.set_cons_zero, List.set_cons_succ] at hst) | (refine L_storeA rfl rfl hst rfl (by rfl) (ev_tmp rfl) (by first | rfl | exact Dig.one _ | (simp; done)) el_api_Digest (by first | rfl | exact Dig.size _ | (simp; done)) 4 rfl (by first | rfl | exact Dig.size _ | (simp; done)) ?_; clear hst; intro WS9 hst; simp only [List.set_cons_zero, List.set_cons_succ] at hst) | (refine L_storeM rfl rfl hst rfl (by rfl) (ev_tmp rfl) (by first | rfl | exact Dig.one _ | (simp; done)) el_api_Digest (by first | rfl | exact Dig.size _ | (simp; done)) 0 rfl (by first | exact of_decide_eq_true rfl | (simp; done)) ?_; clear hst; intro WS9 hst; simp only [List.set_cons_zero, List.set_cons_succ] at hst)  | (refine L_storeM rfl rfl hst rfl (by rfl) (ev_tmp rfl) (by first | rfl | exact Dig.one _ | (simp; done)) el_api_Digest (by first | rfl | exact Dig.size _ | (simp; done)) 1 rfl (by first | exact of_decide_eq_true rfl | (simp; done)) ?_; clear hst; intro WS9 hst; simp only [List.set_cons_zero, List.set_cons_succ] at hst)  | (refine L_storeM rfl rfl hst rfl (by rfl) (ev_tmp rfl) (by first | rfl | exact Dig.one _ | (simp; done)) el_api_Digest (by first | rfl | exact Dig.size _ | (simp; done)) 2 rfl (by first | exact of_decide_eq_true rfl | (simp; done)) ?_; clear hst; intro WS9 hst; simp only [List.set_cons_zero, List.set_cons_succ] at hst)  | (refine L_storeM rfl rfl hst rfl (by rfl) (ev_tmp rfl) (by first | rfl | exact Dig.one _ | (simp; done)) el_api_Digest (by first | rfl | exact Dig.size _ | (simp; done)) 3 rfl (by first | exact of_decide_eq_true rfl | (simp; done)) ?_; clear hst; intro WS9 hst; simp only [List.set_cons_zero, List.set_cons_succ] at hst)  | (refine L_storeM rfl rfl hst rfl (by rfl) (ev_tmp rfl) (by first | rfl | exact Dig.one _ | (simp; done)) el_api_Digest (by first | rfl | exact Dig.size _ | (simp; done)) 4 rfl (by first | exact of_decide_eq_true rfl | (simp; done)) ?_; clear hst; intro WS9 hst; simp only [List.set_cons_zero, List.set_cons_succ] at hst)) | fail)
   refine idx_nil ?_
   go_wp2_with fail
   refine bp_cell rfl rfl rfl (hst.get 3 rfl) Tryd.underlying23 rfl el_api_Digest (by first | rfl | exact Dig.size _ | (simp; done)) ?_
   exact ⟨rfl, hst.forget⟩
end Go.Proofs.YtkbleigmfcleaaaDoor

set_option maxRecDepth 20000
set_option linter.unusedSimpArgs false
set_option linter.unusedVariables false
namespace Go.Proofs.YtkbleigmfcleaaaDoor
open Go.RowKit
theorem el_api_Seal : ElemIs Tryd.prog 43 (.agg (prArr 0 zeroD)) 33 40 := by unfold ElemIs; kernel_rfl
theorem mem_take_succ {α : Type} {l : List α} {i : Nat} {x : α} (h : i < l.length) (h1 : x ∉ l.take i) (h2 : x ≠ l[i]) : x ∉ l.take (i + 1) := by
 rw [List.take_succ_eq_append_getElem h, List.mem_append, List.mem_singleton]
 rintro (h3 | h3)
 ·exact h1 h3
 ·exact h2 h3
set_option maxHeartbeats 1000000 in
theorem indexS_any (ss : List (Int × Dig)) (m : Int) (q : Dig) (A : Option Addr) (n c : Nat) (w : World) (hs : SlR w A n c 33 (pairsL ss)) :
  Calls Tryd.prog 70 #[.slice A n c, .agg (prArr m q)] w fun e w' => ∃ r : Int, e = .returned (.int .i64 r) ∧ Hid (0 ≤ r ↔ (m, q) ∈ ss) ∧ St w w' [] := by
 have hst := St.refl w
 have hl := hs.1
 rw [length_pairsL] at hl
 have Hl := Lib.hid (show ss.length = n by omega)
 have hcm := hs.2.2.1
 have hnc := hs.2.1
 simp only [maxLen] at hcm
 clear hl
 go_enter Tryd.func70, Tryd.ntmps70
 go_wp2_with (first
  | (refine L_boxA (d := some 3) rfl rfl rfl (ev_tmp rfl) ?_; (try clear hnew); intro g3 W3 hnew; replace hst := hst.trans hnew; simp only [List.cons_append, List.nil_append] at hst)
  | fail)
 clear hnew
 go_loopg [8] n (fun gk s8 wr => ∃ i : Nat, Hid (i + gk = n) ∧ Hid ((m, q) ∉ ss.take i) ∧ s8 = .int .i64 (i : Int) ∧ St w wr [.blk g3 43 (prArr m q)])
 case atStart => exact ⟨0, Lib.hid (by omega), Lib.hid (by simp), rfl, hst⟩
 case round =>
  clear hst
  obtain ⟨i, HI, HM, rfl, hst⟩ := hrel
  have hi := HI.out
  by_cases hin : i < n
  ·clear hi
   have hil := Lib.hid (show i < ss.length by rw [Hl.out]; exact hin)
   have HC := Lib.hid (fun (W : World) (g off : Nat) h => pair_cells (W := W) (g := g) (off := off) (i := i) (ss := ss) h hil.out)
   have HE : ∃ p : Int × Dig, Hid (p = ss[i]'hil.out) := ⟨_, Lib.hid rfl⟩
   obtain ⟨p, HE⟩ := HE
   rw [← HE.out] at HC
   obtain ⟨pm, pq⟩ := p
   dsimp only at HC
   go_wp2_with (first
    | fail)
   by_cases he : m = pm ∧ q = pq
   ·have hd : decide (m = pm ∧ q = pq) = true := decide_eq_true he
    have HF := Lib.hid (show (m, q) ∈ ss by rw [he.1, he.2, HE.out]; exact List.getElem_mem hil.out)
    clear he
    refine wp_region_idx [(0, 0), (1, 0), (2, 2), (3, 2), (4, 2), (5, 2)] (by kernel_rfl) (by kernel_rfl) ?_
    replace hst := hst.drew
    refine idx_q rfl rfl ?_; go_wp2_with (first | (first | (refine L_loadA (d := some 11) rfl rfl rfl (by rfl) Tryd.underlying43 rfl el_api_Seal (by first | exact hst.get 0 rfl) (by first | exact Dig.size _ | exact prArr_size _ _ | rfl | (simp; done)) ?_) | (refine L_loadM (d := some 11) rfl rfl rfl (by rfl) Tryd.underlying43 rfl el_api_Seal (by first | assumption) (by first | exact Dig.size _ | exact prArr_size _ _ | rfl | (simp; done)) ?_)) | fail)
    refine idx_q rfl rfl ?_; go_wp2_with fail
    refine idx_g rfl ?_; go_wp2_with fail; refine ⟨by first | exact Below.refl _ _ | exact hnew.below, ?_⟩
    refine idx_g rfl ?_; go_wp2_with (first | (refine L_idxS (d := some 14) rfl rfl rfl (by rfl) (by rfl) Tryd.underlying40 el_api_Seal (by first | exact hst.old (by decide) hs | assumption | exact hst.sl 0 rfl | exact hst.old (by decide) (by assumption)) (by omega) (by omega) ?_; intro o14 p14 ha14 hr14; (first | subst ha14 | (obtain ⟨h1, h2⟩ := some_addr ha14; subst h1; subst h2; clear ha14) | skip)) | fail); refine ⟨by first | exact Below.refl _ _ | exact hnew.below, ?_⟩
    refine idx_g rfl ?_; go_wp2_with (first | (refine L_loadM (d := some 15) rfl rfl rfl (by rfl) Tryd.underlying43 rfl el_api_Seal (HC.out _ _ _ hr14) (prArr_size _ _) ?_) | (first | (refine L_loadA (d := some 15) rfl rfl rfl (by rfl) Tryd.underlying43 rfl el_api_Seal (by first | exact hst.get 0 rfl) (by first | exact Dig.size _ | exact prArr_size _ _ | rfl | (simp; done)) ?_) | (refine L_loadM (d := some 15) rfl rfl rfl (by rfl) Tryd.underlying43 rfl el_api_Seal (by first | assumption) (by first | exact Dig.size _ | exact prArr_size _ _ | rfl | (simp; done)) ?_)) | fail); refine ⟨by first | exact Below.refl _ _ | exact hnew.below, ?_⟩
    refine idx_g rfl ?_; go_wp2_with (first | (refine L_loadM (d := some 15) rfl rfl rfl (by rfl) Tryd.underlying43 rfl el_api_Seal (HC.out _ _ _ hr14) (prArr_size _ _) ?_) | (refine L_eqA (d := some 16) rfl rfl rfl eqG_Seal (ev_tmp rfl) (ev_tmp rfl) (eqSeal _ _ _ _ _) ?_; rw [hd]) | fail); refine ⟨by first | exact Below.refl _ _ | exact hnew.below, ?_⟩
    refine idx_nil ?_
    go_wp2_with (first
     | fail)
    go_ret
    exact ⟨_, rfl, Lib.hid ⟨fun _ => HF.out, fun _ => by omega⟩, hst.forget⟩
   ·have hd : decide (m = pm ∧ q = pq) = false := decide_eq_false he
    have HF := Lib.hid (mem_take_succ hil.out HM.out (by rw [← HE.out]; intro h; exact he ⟨congrArg Prod.fst h, congrArg Prod.snd h⟩))
    clear he
    refine wp_region_idx [(0, 0), (1, 0), (2, 2), (3, 2), (4, 2), (5, 2)] (by kernel_rfl) (by kernel_rfl) ?_
    replace hst := hst.drew
    refine idx_q rfl rfl ?_; go_wp2_with (first | (first | (refine L_loadA (d := some 11) rfl rfl rfl (by rfl) Tryd.underlying43 rfl el_api_Seal (by first | exact hst.get 0 rfl) (by first | exact Dig.size _ | exact prArr_size _ _ | rfl | (simp; done)) ?_) | (refine L_loadM (d := some 11) rfl rfl rfl (by rfl) Tryd.underlying43 rfl el_api_Seal (by first | assumption) (by first | exact Dig.size _ | exact prArr_size _ _ | rfl | (simp; done)) ?_)) | fail)
    refine idx_q rfl rfl ?_; go_wp2_with fail
    refine idx_g rfl ?_; go_wp2_with fail; refine ⟨by first | exact Below.refl _ _ | exact hnew.below, ?_⟩
    refine idx_g rfl ?_; go_wp2_with (first | (refine L_idxS (d := some 14) rfl rfl rfl (by rfl) (by rfl) Tryd.underlying40 el_api_Seal (by first | exact hst.old (by decide) hs | assumption | exact hst.sl 0 rfl | exact hst.old (by decide) (by assumption)) (by omega) (by omega) ?_; intro o14 p14 ha14 hr14; (first | subst ha14 | (obtain ⟨h1, h2⟩ := some_addr ha14; subst h1; subst h2; clear ha14) | skip)) | fail); refine ⟨by first | exact Below.refl _ _ | exact hnew.below, ?_⟩
    refine idx_g rfl ?_; go_wp2_with (first | (refine L_loadM (d := some 15) rfl rfl rfl (by rfl) Tryd.underlying43 rfl el_api_Seal (HC.out _ _ _ hr14) (prArr_size _ _) ?_) | (first | (refine L_loadA (d := some 15) rfl rfl rfl (by rfl) Tryd.underlying43 rfl el_api_Seal (by first | exact hst.get 0 rfl) (by first | exact Dig.size _ | exact prArr_size _ _ | rfl | (simp; done)) ?_) | (refine L_loadM (d := some 15) rfl rfl rfl (by rfl) Tryd.underlying43 rfl el_api_Seal (by first | assumption) (by first | exact Dig.size _ | exact prArr_size _ _ | rfl | (simp; done)) ?_)) | fail); refine ⟨by first | exact Below.refl _ _ | exact hnew.below, ?_⟩
    refine idx_g rfl ?_; go_wp2_with (first | (refine L_loadM (d := some 15) rfl rfl rfl (by rfl) Tryd.underlying43 rfl el_api_Seal (HC.out _ _ _ hr14) (prArr_size _ _) ?_) | (refine L_eqA (d := some 16) rfl rfl rfl eqG_Seal (ev_tmp rfl) (ev_tmp rfl) (eqSeal _ _ _ _ _) ?_; rw [hd]) | fail); refine ⟨by first | exact Below.refl _ _ | exact hnew.below, ?_⟩
    refine idx_nil ?_
    go_wp2_with (first
     | fail)
    go_roundg (gk - 1)
    case measure => have hi := HI.out; omega
    case rel =>
     have hi := HI.out
     exact ⟨i + 1, Lib.hid (by omega), HF, by go_num, hst⟩
  ·obtain rfl : i = n := by omega
   clear hi HI
   have HN := Lib.hid (show (m, q) ∉ ss by
    have := HM.out
    rwa [List.take_of_length_le (by rw [Hl.out]; exact Nat.le_refl _)] at this)
   go_wp2_with (first
    | fail)
   go_ret
   exact ⟨_, rfl, Lib.hid ⟨fun h => absurd h (by decide), fun h => absurd h HN.out⟩, hst.forget⟩
set_option maxHeartbeats 1000000 in
theorem contS_any (ss : List (Int × Dig)) (m : Int) (q : Dig) (A : Option Addr) (n c : Nat) (w : World) (hs : SlR w A n c 33 (pairsL ss)) :
  Calls Tryd.prog 48 #[.slice A n c, .agg (prArr m q)] w fun e w' => e = .returned (.bool (decide ((m, q) ∈ ss))) ∧ St w w' [] := by
 have hst := St.refl w
 have HI := Lib.hid (fun w hs => indexS_any ss m q A n c w hs)
 generalize hb : decide ((m, q) ∈ ss) = b
 replace hb := Lib.hid hb
 go_enter Tryd.func48, Tryd.ntmps48
 go_wp2_with (first
  | (go_at_call 70; (try clear hnew); refine (HI.out _ (hst.old (by decide) hs)).mono ?_; rintro e Wi ⟨r, rfl, HR, hnew⟩; replace hst := hst.keep hnew)
  | (refine L_boxA (d := some 3) rfl rfl rfl (ev_tmp rfl) ?_; (try clear hnew); intro g3 W3 hnew; replace hst := hst.trans hnew; simp only [List.cons_append, List.nil_append] at hst)
  | (first | (refine L_loadA (d := some 6) rfl rfl rfl (by rfl) Tryd.underlying43 rfl el_api_Seal (by first | exact hst.get 0 rfl) (by first | exact Dig.size _ | exact prArr_size _ _ | rfl | (simp; done)) ?_) | (refine L_loadM (d := some 6) rfl rfl rfl (by rfl) Tryd.underlying43 rfl el_api_Seal (by first | assumption) (by first | exact Dig.size _ | exact prArr_size _ _ | rfl | (simp; done)) ?_))
  | fail)
 go_ret
 refine ⟨?_, hst.forget⟩
 have h : decide (0 ≤ r) = decide ((m, q) ∈ ss) := decide_eq_decide.2 HR.out
 rw [← hb.out, ← h]
 rfl
def sealP (kf : Nat → Piece) (n : Int) (x y : Dig) (ss : List (Int × Dig)) (i : Nat) : Bool := decide (((i : Int), markN (kf i).2.2.2 n x y) ∈ ss)
theorem natsL_app (a b : List Nat) : natsL (a ++ b) = natsL a ++ natsL b := by simp [natsL]
theorem key_at {W : World} {g off i n : Nat} {f : Nat → Piece} (h : W.rangeAt g (off + (i : Int).toNat * 1) ((((List.range n).map fun i => (f i).v).drop ((i : Int).toNat * 1)).take 1)) (hi : i < n) : W.cell? ⟨g, off + (i : Int).toNat * 1, none⟩ = some (.slice (f i).1 (f i).2.1 (f i).2.2.1) := by
 have := h 0 (f i).v (by simp [hi])
 simpa [Piece.v] using this
set_option maxHeartbeats 2000000 in
set_option maxRecDepth 100000 in
theorem right_any (kf : Nat → Piece) (K : Option Addr) (k kc : Nat) (n : Int) (x y z : Dig) (ss : List (Int × Dig)) (S : Option Addr) (m sc : Nat) (w : World) (hT : Tb w) (hk : SlR w K k kc 1 ((List.range k).map fun i => (kf i).v)) (hp : ∀ i, i < k → SlR w (kf i).1 (kf i).2.1 (kf i).2.2.1 1 (bytesL (kf i).2.2.2)) (hpb : ∀ i, i < k → (kf i).2.1 ≤ 140737488355000) (hs : SlR w S m sc 33 (pairsL ss)) (h40 : k ≤ 40) :
  Calls Tryd.prog 20 #[.slice K k kc, .agg (hdArr n x y z), .slice S m sc] w fun e w' => ∃ O oc, e = .returned (.slice O (rightL (sealP kf n x y ss) k).length oc) ∧ St w w' [.row O (rightL (sealP kf n x y ss) k).length oc 3 1 (natsL (rightL (sealP kf n x y ss) k))] := by
 have hst := St.refl w
 have HT := Lib.hid hT
 have Hp := Lib.hid hp
 have Hb := Lib.hid hpb
 clear hT hp hpb
 go_enter Tryd.func20, Tryd.ntmps20
 go_wp2_with (first
  | (refine L_boxA (d := some 4) rfl rfl rfl (ev_tmp rfl) ?_; (try clear hnew); intro g4 W4 hnew; replace hst := hst.trans hnew; simp only [List.cons_append, List.nil_append] at hst)
  | fail)
 clear hnew
 have hst : St w W4 [.row none (rightL (sealP kf n x y ss) 0).length 0 3 1 (natsL (rightL (sealP kf n x y ss) 0)), .blk g4 39 (hdArr n x y z)] := hst.nilRow 3 1
 go_loopg [7, 13] k (fun gk s7 s13 wr => ∃ (i ol oc : Nat) (O : Option Addr), Hid (i + gk = k) ∧ Hid ((rightL (sealP kf n x y ss) i).length = ol) ∧ s7 = .slice O ol oc ∧ s13 = .int .i64 (i : Int) ∧ St w wr [.row O ol oc 3 1 (natsL (rightL (sealP kf n x y ss) i)), .blk g4 39 (hdArr n x y z)])
 case atStart => exact ⟨0, 0, 0, none, Lib.hid (by omega), Lib.hid rfl, rfl, rfl, hst⟩
 case round =>
  clear hst
  obtain ⟨i, ol, oc, O, HI, HO, rfl, rfl, hst⟩ := hrel
  have hi := HI.out
  by_cases hin : i < k
  ·clear hi
   have hol : ol ≤ 40 := by have := length_rightL_le (sealP kf n x y ss) i; have := HO.out; omega
   have HC := Lib.hid (fun (W : World) (g off : Nat) h => key_at (W := W) (g := g) (off := off) (i := i) (n := k) (f := kf) h hin)
   have HP := Hp.out i hin
   have hpb := Hb.out i hin
   have HR := Lib.hid (rightL_succ (sealP kf n x y ss) i)
   have HS := Lib.hid (show sealP kf n x y ss i = decide (((i : Int), markN (kf i).2.2.2 n x y) ∈ ss) from rfl)
   generalize sealP kf n x y ss i = b at HR HS
   generalize kf i = p at HC HP hpb HS
   obtain ⟨PA, pn, pc, pl⟩ := p
   dsimp only at HC HP hpb HS
   have HM := Lib.hid (fun w hT hk => mark_any pl PA pn pc n x y z w hT hk hpb)
   generalize markN pl n x y = md at HM HS
   generalize hrl : rightL (sealP kf n x y ss) i = rl at hst HR
   have HCt := Lib.hid (fun w hs => contS_any ss (i : Int) md S m sc w hs)
   rw [← HS.out] at HCt
   cases b with
   | false =>
    go_wp2_with (first
     | (refine L_load1 (d := some 17) rfl rfl rfl (by rfl) Tryd.underlying49 rfl (HC.out _ _ _ hr16) ?_)
     | (refine L_buildP (d := some 24) rfl rfl rfl Tryd.underlying43 el_int el_api_Digest rfl rfl el_api_Seal (prArr_size _ _) (ev_tmp rfl) (ev_tmp rfl) ?_)
     | (go_at_call 22; (try clear hnew); refine (HM.out _ (HT.out.of hst) (hst.old (by decide) HP)).mono ?_; rintro e Wk1 ⟨rfl, hnew⟩; replace hst := hst.keep hnew)
     | (go_at_call 48; (try clear hnew); refine (HCt.out _ (hst.old (by decide) hs)).mono ?_; rintro e Wk2 ⟨rfl, hnew⟩; replace hst := hst.keep hnew)
     | (refine L_idxS (d := some 16) rfl rfl rfl (by rfl) (by rfl) Tryd.underlying37 el_S_uint8 (by first | exact hst.old (by decide) hk | assumption | exact hst.sl 0 rfl | exact hst.sl 1 rfl | exact hst.sl 2 rfl | exact hst.sl 3 rfl | exact hst.old (by decide) (by assumption)) (by omega) (by omega) ?_; intro o16 p16 ha16 hr16; (first | subst ha16 | (obtain ⟨h1, h2⟩ := some_addr ha16; subst h1; subst h2; clear ha16) | skip))
     | (refine L_load1 (d := some 17) rfl rfl rfl (by rfl) Tryd.underlying49 rfl (by first | assumption | exact cell_of (hst.get 0 rfl) rfl | exact cell_of (hst.get 1 rfl) rfl | exact cell_of (hst.get 2 rfl) rfl | exact cell_of (hst.get 3 rfl) rfl) ?_)
     | (first | (refine L_loadA (d := some 19) rfl rfl rfl (by rfl) Tryd.underlying39 rfl el_api_Head (by first | exact hst.get 0 rfl | exact hst.get 1 rfl | exact hst.get 2 rfl | exact hst.get 3 rfl) (by first | exact Dig.size _ | exact prArr_size _ _ | exact hdArr_size _ _ _ _ | rfl | (simp; done)) ?_) | (refine L_loadM (d := some 19) rfl rfl rfl (by rfl) Tryd.underlying39 rfl el_api_Head (by first | assumption) (by first | exact Dig.size _ | exact prArr_size _ _ | exact hdArr_size _ _ _ _ | rfl | (simp; done)) ?_))
     | (refine L_allocA (d := some 10) rfl rfl rfl el_api_Digest ?_; (try clear hnew); intro g10 W10 hnew; replace hst := hst.trans hnew; simp only [List.cons_append, List.nil_append] at hst)
     | (refine wpl_at (.store 23 (.tmp 10) (.tmp 20)) rfl ?_; first | (refine L_storeA rfl rfl hst rfl (by rfl) (ev_tmp rfl) (by first | rfl | exact Dig.one _ | (simp; done)) el_api_Digest (by first | rfl | exact Dig.size _ | exact prArr_size _ _ | exact hdArr_size _ _ _ _ | (simp; done)) 0 rfl (by first | rfl | exact Dig.size _ | exact prArr_size _ _ | exact hdArr_size _ _ _ _ | (simp; done)) ?_; clear hst; intro WS4 hst; simp only [List.set_cons_zero, List.set_cons_succ] at hst) | (refine L_storeA rfl rfl hst rfl (by rfl) (ev_tmp rfl) (by first | rfl | exact Dig.one _ | (simp; done)) el_api_Digest (by first | rfl | exact Dig.size _ | exact prArr_size _ _ | exact hdArr_size _ _ _ _ | (simp; done)) 1 rfl (by first | rfl | exact Dig.size _ | exact prArr_size _ _ | exact hdArr_size _ _ _ _ | (simp; done)) ?_; clear hst; intro WS4 hst; simp only [List.set_cons_zero, List.set_cons_succ] at hst) | (refine L_storeA rfl rfl hst rfl (by rfl) (ev_tmp rfl) (by first | rfl | exact Dig.one _ | (simp; done)) el_api_Digest (by first | rfl | exact Dig.size _ | exact prArr_size _ _ | exact hdArr_size _ _ _ _ | (simp; done)) 2 rfl (by first | rfl | exact Dig.size _ | exact prArr_size _ _ | exact hdArr_size _ _ _ _ | (simp; done)) ?_; clear hst; intro WS4 hst; simp only [List.set_cons_zero, List.set_cons_succ] at hst) | (refine L_storeA rfl rfl hst rfl (by rfl) (ev_tmp rfl) (by first | rfl | exact Dig.one _ | (simp; done)) el_api_Digest (by first | rfl | exact Dig.size _ | exact prArr_size _ _ | exact hdArr_size _ _ _ _ | (simp; done)) 3 rfl (by first | rfl | exact Dig.size _ | exact prArr_size _ _ | exact hdArr_size _ _ _ _ | (simp; done)) ?_; clear hst; intro WS4 hst; simp only [List.set_cons_zero, List.set_cons_succ] at hst) | (refine L_storeM rfl rfl hst rfl (by rfl) (ev_tmp rfl) (by first | rfl | exact Dig.one _ | (simp; done)) el_api_Digest (by first | rfl | exact Dig.size _ | exact prArr_size _ _ | exact hdArr_size _ _ _ _ | (simp; done)) 0 rfl (by first | exact of_decide_eq_true rfl | (simp; done)) ?_; clear hst; intro WS4 hst; simp only [List.set_cons_zero, List.set_cons_succ] at hst)  | (refine L_storeM rfl rfl hst rfl (by rfl) (ev_tmp rfl) (by first | rfl | exact Dig.one _ | (simp; done)) el_api_Digest (by first | rfl | exact Dig.size _ | exact prArr_size _ _ | exact hdArr_size _ _ _ _ | (simp; done)) 1 rfl (by first | exact of_decide_eq_true rfl | (simp; done)) ?_; clear hst; intro WS4 hst; simp only [List.set_cons_zero, List.set_cons_succ] at hst)  | (refine L_storeM rfl rfl hst rfl (by rfl) (ev_tmp rfl) (by first | rfl | exact Dig.one _ | (simp; done)) el_api_Digest (by first | rfl | exact Dig.size _ | exact prArr_size _ _ | exact hdArr_size _ _ _ _ | (simp; done)) 2 rfl (by first | exact of_decide_eq_true rfl | (simp; done)) ?_; clear hst; intro WS4 hst; simp only [List.set_cons_zero, List.set_cons_succ] at hst)  | (refine L_storeM rfl rfl hst rfl (by rfl) (ev_tmp rfl) (by first | rfl | exact Dig.one _ | (simp; done)) el_api_Digest (by first | rfl | exact Dig.size _ | exact prArr_size _ _ | exact hdArr_size _ _ _ _ | (simp; done)) 3 rfl (by first | exact of_decide_eq_true rfl | (simp; done)) ?_; clear hst; intro WS4 hst; simp only [List.set_cons_zero, List.set_cons_succ] at hst))
     | (first | (refine L_loadA (d := some 23) rfl rfl rfl (by rfl) Tryd.underlying23 rfl el_api_Digest (by first | exact hst.get 0 rfl | exact hst.get 1 rfl | exact hst.get 2 rfl | exact hst.get 3 rfl) (by first | exact Dig.size _ | exact prArr_size _ _ | exact hdArr_size _ _ _ _ | rfl | (simp; done)) ?_) | (refine L_loadM (d := some 23) rfl rfl rfl (by rfl) Tryd.underlying23 rfl el_api_Digest (by first | assumption) (by first | exact Dig.size _ | exact prArr_size _ _ | exact hdArr_size _ _ _ _ | rfl | (simp; done)) ?_))
     | fail)
    go_roundg (gk - 1)
    case measure => have hi := HI.out; omega
    case rel =>
     have hi := HI.out
     refine ⟨i + 1, ol, oc, O, Lib.hid (by omega), Lib.hid (by rw [HR.out]; simpa [hrl] using HO.out), rfl, by go_num, ?_⟩
     rw [HR.out]
     simpa using hst.tail
   | true =>
    go_wp2_with (first
     | (refine L_load1 (d := some 17) rfl rfl rfl (by rfl) Tryd.underlying49 rfl (HC.out _ _ _ hr16) ?_)
     | (refine L_buildP (d := some 24) rfl rfl rfl Tryd.underlying43 el_int el_api_Digest rfl rfl el_api_Seal (prArr_size _ _) (ev_tmp rfl) (ev_tmp rfl) ?_)
     | (go_at_call 22; (try clear hnew); refine (HM.out _ (HT.out.of hst) (hst.old (by decide) HP)).mono ?_; rintro e Wk3 ⟨rfl, hnew⟩; replace hst := hst.keep hnew)
     | (go_at_call 48; (try clear hnew); refine (HCt.out _ (hst.old (by decide) hs)).mono ?_; rintro e Wk4 ⟨rfl, hnew⟩; replace hst := hst.keep hnew)
     | (refine L_idxS (d := some 16) rfl rfl rfl (by rfl) (by rfl) Tryd.underlying37 el_S_uint8 (by first | exact hst.old (by decide) hk | assumption | exact hst.sl 0 rfl | exact hst.sl 1 rfl | exact hst.sl 2 rfl | exact hst.sl 3 rfl | exact hst.old (by decide) (by assumption)) (by omega) (by omega) ?_; intro o16 p16 ha16 hr16; (first | subst ha16 | (obtain ⟨h1, h2⟩ := some_addr ha16; subst h1; subst h2; clear ha16) | skip))
     | (refine L_load1 (d := some 17) rfl rfl rfl (by rfl) Tryd.underlying49 rfl (by first | assumption | exact cell_of (hst.get 0 rfl) rfl | exact cell_of (hst.get 1 rfl) rfl | exact cell_of (hst.get 2 rfl) rfl | exact cell_of (hst.get 3 rfl) rfl) ?_)
     | (first | (refine L_loadA (d := some 19) rfl rfl rfl (by rfl) Tryd.underlying39 rfl el_api_Head (by first | exact hst.get 0 rfl | exact hst.get 1 rfl | exact hst.get 2 rfl | exact hst.get 3 rfl) (by first | exact Dig.size _ | exact prArr_size _ _ | exact hdArr_size _ _ _ _ | rfl | (simp; done)) ?_) | (refine L_loadM (d := some 19) rfl rfl rfl (by rfl) Tryd.underlying39 rfl el_api_Head (by first | assumption) (by first | exact Dig.size _ | exact prArr_size _ _ | exact hdArr_size _ _ _ _ | rfl | (simp; done)) ?_))
     | (refine L_allocA (d := some 10) rfl rfl rfl el_api_Digest ?_; (try clear hnew); intro g10 W10 hnew; replace hst := hst.trans hnew; simp only [List.cons_append, List.nil_append] at hst)
     | (refine wpl_at (.store 23 (.tmp 10) (.tmp 20)) rfl ?_; first | (refine L_storeA rfl rfl hst rfl (by rfl) (ev_tmp rfl) (by first | rfl | exact Dig.one _ | (simp; done)) el_api_Digest (by first | rfl | exact Dig.size _ | exact prArr_size _ _ | exact hdArr_size _ _ _ _ | (simp; done)) 0 rfl (by first | rfl | exact Dig.size _ | exact prArr_size _ _ | exact hdArr_size _ _ _ _ | (simp; done)) ?_; clear hst; intro WS4 hst; simp only [List.set_cons_zero, List.set_cons_succ] at hst) | (refine L_storeA rfl rfl hst rfl (by rfl) (ev_tmp rfl) (by first | rfl | exact Dig.one _ | (simp; done)) el_api_Digest (by first | rfl | exact Dig.size _ | exact prArr_size _ _ | exact hdArr_size _ _ _ _ | (simp; done)) 1 rfl (by first | rfl | exact Dig.size _ | exact prArr_size _ _ | exact hdArr_size _ _ _ _ | (simp; done)) ?_; clear hst; intro WS4 hst; simp only [List.set_cons_zero, List.set_cons_succ] at hst) | (refine L_storeA rfl rfl hst rfl (by rfl) (ev_tmp rfl) (by first | rfl | exact Dig.one _ | (simp; done)) el_api_Digest (by first | rfl | exact Dig.size _ | exact prArr_size _ _ | exact hdArr_size _ _ _ _ | (simp; done)) 2 rfl (by first | rfl | exact Dig.size _ | exact prArr_size _ _ | exact hdArr_size _ _ _ _ | (simp; done)) ?_; clear hst; intro WS4 hst; simp only [List.set_cons_zero, List.set_cons_succ] at hst) | (refine L_storeA rfl rfl hst rfl (by rfl) (ev_tmp rfl) (by first | rfl | exact Dig.one _ | (simp; done)) el_api_Digest (by first | rfl | exact Dig.size _ | exact prArr_size _ _ | exact hdArr_size _ _ _ _ | (simp; done)) 3 rfl (by first | rfl | exact Dig.size _ | exact prArr_size _ _ | exact hdArr_size _ _ _ _ | (simp; done)) ?_; clear hst; intro WS4 hst; simp only [List.set_cons_zero, List.set_cons_succ] at hst) | (refine L_storeM rfl rfl hst rfl (by rfl) (ev_tmp rfl) (by first | rfl | exact Dig.one _ | (simp; done)) el_api_Digest (by first | rfl | exact Dig.size _ | exact prArr_size _ _ | exact hdArr_size _ _ _ _ | (simp; done)) 0 rfl (by first | exact of_decide_eq_true rfl | (simp; done)) ?_; clear hst; intro WS4 hst; simp only [List.set_cons_zero, List.set_cons_succ] at hst)  | (refine L_storeM rfl rfl hst rfl (by rfl) (ev_tmp rfl) (by first | rfl | exact Dig.one _ | (simp; done)) el_api_Digest (by first | rfl | exact Dig.size _ | exact prArr_size _ _ | exact hdArr_size _ _ _ _ | (simp; done)) 1 rfl (by first | exact of_decide_eq_true rfl | (simp; done)) ?_; clear hst; intro WS4 hst; simp only [List.set_cons_zero, List.set_cons_succ] at hst)  | (refine L_storeM rfl rfl hst rfl (by rfl) (ev_tmp rfl) (by first | rfl | exact Dig.one _ | (simp; done)) el_api_Digest (by first | rfl | exact Dig.size _ | exact prArr_size _ _ | exact hdArr_size _ _ _ _ | (simp; done)) 2 rfl (by first | exact of_decide_eq_true rfl | (simp; done)) ?_; clear hst; intro WS4 hst; simp only [List.set_cons_zero, List.set_cons_succ] at hst)  | (refine L_storeM rfl rfl hst rfl (by rfl) (ev_tmp rfl) (by first | rfl | exact Dig.one _ | (simp; done)) el_api_Digest (by first | rfl | exact Dig.size _ | exact prArr_size _ _ | exact hdArr_size _ _ _ _ | (simp; done)) 3 rfl (by first | exact of_decide_eq_true rfl | (simp; done)) ?_; clear hst; intro WS4 hst; simp only [List.set_cons_zero, List.set_cons_succ] at hst))
     | (first | (refine L_loadA (d := some 23) rfl rfl rfl (by rfl) Tryd.underlying23 rfl el_api_Digest (by first | exact hst.get 0 rfl | exact hst.get 1 rfl | exact hst.get 2 rfl | exact hst.get 3 rfl) (by first | exact Dig.size _ | exact prArr_size _ _ | exact hdArr_size _ _ _ _ | rfl | (simp; done)) ?_) | (refine L_loadM (d := some 23) rfl rfl rfl (by rfl) Tryd.underlying23 rfl el_api_Digest (by first | assumption) (by first | exact Dig.size _ | exact prArr_size _ _ | exact hdArr_size _ _ _ _ | rfl | (simp; done)) ?_))
     | (refine L_buildS (d := some 28) rfl rfl rfl [_] (bs_1 (ev_tmp rfl)) rfl Tryd.underlying44 el_int rfl (by first | (simp [Value.cells]; done) | (simp [Value.cells, Dig.size]; done)) (by decide) (by decide) ?_; (try clear hnew); intro g28 W28 hnew; replace hst := hst.trans hnew; simp only [List.cons_append, List.nil_append] at hst; simp only [List.flatMap_cons, List.flatMap_nil, List.append_nil, Value.cells, List.toList_toArray] at hst)
     | (refine L_appendO (d := some 29) rfl rfl hst rfl (by rfl) (by rfl) Tryd.underlying44 el_int rfl (by decide) (by decide) 0 rfl (by first | rfl | omega) (by first | exact hst.old (by decide) hk | exact hst.sl 0 rfl | exact hst.sl 1 rfl | exact hst.sl 2 rfl | exact hst.sl 3 rfl | assumption | exact hst.old (by decide) (by assumption)) (by first | exact oneCell_bytes | (simp [Value.oneCell']; done)) (by omega) ?_; clear hst; intro A29 c29 W29 hst; simp only [List.set_cons_zero, List.set_cons_succ, List.nil_append, Nat.zero_add] at hst)
     | (refine L_appendO (d := some 29) rfl rfl hst rfl (by rfl) (by rfl) Tryd.underlying44 el_int rfl (by decide) (by decide) 1 rfl (by first | rfl | omega) (by first | exact hst.old (by decide) hk | exact hst.sl 0 rfl | exact hst.sl 1 rfl | exact hst.sl 2 rfl | exact hst.sl 3 rfl | assumption | exact hst.old (by decide) (by assumption)) (by first | exact oneCell_bytes | (simp [Value.oneCell']; done)) (by omega) ?_; clear hst; intro A29 c29 W29 hst; simp only [List.set_cons_zero, List.set_cons_succ, List.nil_append, Nat.zero_add] at hst)
     | (refine L_appendO (d := some 29) rfl rfl hst rfl (by rfl) (by rfl) Tryd.underlying44 el_int rfl (by decide) (by decide) 2 rfl (by first | rfl | omega) (by first | exact hst.old (by decide) hk | exact hst.sl 0 rfl | exact hst.sl 1 rfl | exact hst.sl 2 rfl | exact hst.sl 3 rfl | assumption | exact hst.old (by decide) (by assumption)) (by first | exact oneCell_bytes | (simp [Value.oneCell']; done)) (by omega) ?_; clear hst; intro A29 c29 W29 hst; simp only [List.set_cons_zero, List.set_cons_succ, List.nil_append, Nat.zero_add] at hst)
     | (refine L_appendO (d := some 29) rfl rfl hst rfl (by rfl) (by rfl) Tryd.underlying44 el_int rfl (by decide) (by decide) 3 rfl (by first | rfl | omega) (by first | exact hst.old (by decide) hk | exact hst.sl 0 rfl | exact hst.sl 1 rfl | exact hst.sl 2 rfl | exact hst.sl 3 rfl | assumption | exact hst.old (by decide) (by assumption)) (by first | exact oneCell_bytes | (simp [Value.oneCell']; done)) (by omega) ?_; clear hst; intro A29 c29 W29 hst; simp only [List.set_cons_zero, List.set_cons_succ, List.nil_append, Nat.zero_add] at hst)
     | (refine L_appendF (d := some 29) rfl rfl rfl (by rfl) (by rfl) Tryd.underlying44 el_int rfl (by decide) (by assumption) (by first | assumption | exact hst.old (by decide) hk | exact hst.sl 0 rfl | exact hst.sl 1 rfl | exact hst.sl 2 rfl | exact hst.sl 3 rfl | assumption | exact hst.old (by decide) (by assumption)) (by omega) (by omega) (by omega) ?_; (try clear hnew); intro A29 c29 W29 hnew; replace hst := hst.trans hnew; simp only [List.cons_append, List.nil_append] at hst)
     | fail)
    go_roundg (gk - 1)
    case measure => have hi := HI.out; omega
    case rel =>
     have hi := HI.out
     refine ⟨i + 1, ol + 1, _, _, Lib.hid (by omega), Lib.hid (by rw [HR.out]; simpa [hrl] using HO.out), rfl, by go_num, ?_⟩
     rw [HR.out]
     simp only [if_true, natsL_app]
     exact hst.tail.tail
  ·obtain rfl : i = k := by omega
   clear hi HI
   obtain rfl := HO.out
   clear HO
   go_wp2_with (first
    | fail)
   go_ret
   exact ⟨_, _, rfl, hst.pick [0] (by decide)⟩
end Go.Proofs.YtkbleigmfcleaaaDoor

set_option maxRecDepth 20000
set_option linter.unusedSimpArgs false
set_option linter.unusedVariables false
namespace Go.Proofs.YtkbleigmfcleaaaDoor
open Go.RowKit Go.Shelf Go.Lib Go.Sort
def intsZ (l : List Nat) : List Int := l.map fun (n : Nat) => (n : Int)
theorem contains_intsZ (l : List Nat) (n : Nat) : (intsZ l).contains (n : Int) = decide (n ∈ l) := by
 rw [Bool.eq_iff_iff]
 simp only [intsZ, List.contains_iff_mem, List.mem_map, decide_eq_true_eq]
 constructor
 ·rintro ⟨a, h, e⟩
  rwa [← show a = n by omega]
 ·exact fun h => ⟨n, h, rfl⟩
theorem rangeAt_nats {W : World} {b o : Nat} {l : List Nat} (h : W.rangeAt b o (natsL l)) : ∀ j, j < (intsZ l).length → W.cell? ⟨b, o + j, none⟩ = some (.int .i64 ((intsZ l).getD j 0)) := fun j hj => by
 have hl : j < l.length := by simpa [intsZ] using hj
 rw [h j (.int .i64 (l[j] : Int)) (by simp [natsL, natV, hl])]
 simp [intsZ, hl]
set_option maxHeartbeats 1000000 in
theorem both1_any (ns : List Nat) (x : Int) (g n c : Nat) (O : Option Addr) (w : World) (hc : w.cell? ⟨g, 0, none⟩ = some (.slice O n c)) (hs : SlR w O n c 1 (natsL ns)) :
  Calls Tryd.prog 54 #[.int .i64 x, .pointer (some ⟨g, 0, none⟩)] w fun e w' => e = .returned (.bool (!(intsZ ns).contains x)) ∧ w' = w := by
 have hl : n = (intsZ ns).length := by have := hs.1; simp only [natsL, List.length_map, Nat.mul_one] at this; rw [intsZ, List.length_map]; exact this.symm
 have hC : Calls Tryd.prog 55 #[.slice O n c, .int .i64 x] w fun e w' => e = .returned (.bool ((intsZ ns).contains x)) ∧ w' = w := by
  rcases Nat.eq_zero_or_pos n with h0 | h0
  ·have : intsZ ns = [] := List.eq_nil_of_length_eq_zero (by omega)
   rw [this]
   subst h0
   exact Tryd.slices_Contains_int_empty O c x w
  ·obtain ⟨b, o, rfl, hr⟩ := hs.2.2.2 h0
   have hm := hs.2.2.1
   have hnc := hs.2.1
   simp only [maxLen] at hm
   have := Tryd.slices_Contains_int b o n c (intsZ ns) x w (by omega) (by omega) (rangeAt_nats hr)
   rwa [List.take_of_length_le (by omega)] at this
 clear hl hs
 generalize (intsZ ns).contains x = r at *
 go_enter Tryd.func54, Tryd.ntmps54
 go_wp2_with (first
  | (refine L_load1 (d := some 4) rfl rfl rfl (by rfl) Tryd.underlying44 rfl hc ?_)
  | (go_at_call 55; refine hC.mono ?_; rintro e w' ⟨rfl, rfl⟩)
  | (refine L_load1 (d := some 4) rfl rfl rfl (by rfl) Tryd.underlying44 rfl (by first | assumption | exact cell_of (hst.get 0 rfl) rfl) ?_)
  | fail)
 go_ret
 exact ⟨rfl, rfl⟩
section
variable {w0 W : World} {L : List Res}
theorem St.putRows (h : St w0 W L) (k : Nat) {blk off n c e : Nat} {xs : List Value} (hk : L[k]? = some (.row (some ⟨blk, off, none⟩) n c e 1 xs)) (q : Nat) (d : Array Int) (hd : d.size = n) (m : Nat) (hm : m ≤ n) (ys : List Value) (hys : ys.length = m)
  (hy : ∀ (j : Nat) (v : Value), ys[j]? = some v → v = .int .i64 d[j]!) : St w0 (Sort.putRow (Value.int IntKind.i64) (Sort.ahead W q) blk off d) (L.set k (.row (some ⟨blk, off, none⟩) m c e 1 ys)) := by
 refine h.turnAt k hk rfl rfl rfl (by simp [Sort.putRow, mapBlock, Sort.ahead]) (fun i _ hi => ?_) (fun g hg => .inl hg) ?_
 ·have hne : blk ≠ i := fun e => hi (by simp [Res.dom, e])
  simp [Sort.putRow, mapBlock, Sort.ahead, Array.getElem?_modify, hne]
 ·rcases h.at_ k hk with ⟨h0, _⟩ | ⟨g, off', cur, hA, hh, hr⟩
  ·cases h0
  ·simp only [Option.some.injEq, Addr.mk.injEq, and_true] at hA
   obtain ⟨rfl, rfl⟩ := hA
   refine .inr ⟨blk, off, putCells (Value.int IntKind.i64) off d cur, rfl, ?_, ?_⟩
   ·show ((Sort.ahead W q).heap.modify blk _)[blk]? = _
    rw [Array.getElem?_modify, if_pos rfl]
    show (W.heap[blk]?).map _ = _
    rw [hh]
    rfl
   ·have hrm := hr.room
    have hnc := hr.nc
    refine ⟨by omega, by omega, hr.cm, by simpa [putCells] using hr.room, fun j v hv => ?_⟩
    have hj : j < m := by rw [← hys]; exact (List.getElem?_eq_some_iff.1 hv).1
    rw [putCells, Array.getElem?_mapIdx]
    have hlt : off + j < cur.size := by omega
    rw [Array.getElem?_eq_getElem hlt]
    simp only [Option.map_some]
    rw [if_pos (by omega), show off + j - off = j by omega, hy j v hv]
end
theorem filter_cast (l : List Nat) (p : Int → Bool) : (intsZ l).filter p = intsZ (l.filter fun n => p (n : Int)) := by
 simp [intsZ, List.filter_map, Function.comp_def]
theorem natsL_intsZ (l : List Nat) : natsL l = (intsZ l).map (Value.int IntKind.i64) := by simp [natsL, natV, intsZ, Function.comp_def]
set_option maxHeartbeats 2000000 in
set_option maxRecDepth 100000 in
theorem delF_any (ns os : List Nat) (g : Nat) (w0 w : World) (L : List Res) (hst : St w0 w L) (k j i : Nat) (hkj : k ≠ j) (hki : k ≠ i) {A O : Option Addr} {n c m oc : Nat} (hk : L[k]? = some (.row A n c 3 1 (natsL ns))) (hj : L[j]? = some (.blk g 44 #[.slice O m oc])) (hi : L[i]? = some (.row O m oc 3 1 (natsL os))) :
  Calls Tryd.prog 53 #[.slice A n c, .func (.func 54) #[] #[.pointer (some ⟨g, 0, none⟩)]] w fun e w' =>
   e = .returned (.slice A (ns.filter fun x => decide (x ∈ os)).length c) ∧ St w0 w' (L.set k (.row A (ns.filter fun x => decide (x ∈ os)).length c 3 1 (natsL (ns.filter fun x => decide (x ∈ os))))) := by
 have hns := (hst.sl k hk).1
 simp only [natsL, List.length_map, Nat.mul_one] at hns
 have hlt : k < L.length := (List.getElem?_eq_some_iff.1 hk).1
 rcases Nat.eq_zero_or_pos n with h0 | h0
 ·subst h0
  obtain rfl : ns = [] := List.eq_nil_of_length_eq_zero hns
  have hself : L.set k (.row A 0 c 3 1 (natsL [])) = L := by
   apply List.ext_getElem?
   intro q
   by_cases hq : k = q
   ·subst hq; rw [List.getElem?_set_self hlt, hk]
   ·rw [List.getElem?_set_ne hq]
  simp only [List.filter_nil, List.length_nil]
  rw [hself]
  clear hself hk hj hi
  go_enter Tryd.func53, Tryd.ntmps53
  go_wp2_with (first
   | (go_at_call 75; refine (Tryd.slices_IndexFunc_empty (α := Int) A c _ _).mono ?_; rintro e w' ⟨rfl, rfl⟩)
   | fail)
  go_ret
  exact ⟨rfl, hst⟩
 ·obtain ⟨blk, off, rfl, hr⟩ := (hst.sl k hk).2.2.2 h0
  have hm := (hst.sl k hk).2.2.1
  have hnc := (hst.sl k hk).2.1
  simp only [maxLen] at hm
  have hlen : (intsZ ns).toArray.size = n := by simp [intsZ, hns]
  have hsz : (intsZ ns).length = n := by simp [intsZ, hns]
  have hgive : ∀ W, (W.cell? ⟨g, 0, none⟩ = some (.slice O m oc)) → SlR W O m oc 1 (natsL os) → ∀ x : Int, FnGives Tryd.prog 54 #[.pointer (some ⟨g, 0, none⟩)] #[.int .i64 x] (.bool (!(intsZ os).contains x)) W := fun W h1 h2 x =>
   (both1_any os x g m oc O W h1 h2).mono fun e w' ⟨he, hw⟩ => ⟨he, 0, hw⟩
  have hcell := cell_of (hst.get j hj) (show (#[Value.slice O m oc] : Array Value)[0]? = some (.slice O m oc) from rfl)
  have hblk : blk < w.heap.size := hst.lt (List.mem_of_getElem? hk) (g := blk) rfl
  have hg : g < w.heap.size := hst.lt (List.mem_of_getElem? hj) (g := g) rfl
  have hD := Tryd.slices_DeleteFunc (α := Int) (Value.int IntKind.i64) (fun _ => rfl) (fun x => !(intsZ os).contains x) 54 #[.pointer (some ⟨g, 0, none⟩)] (enters_of Tryd.func54 (by kernel_rfl) rfl) 0 (fun w => el_int.run_zero w) blk off c (intsZ ns).toArray w
   (fun W x hb => hgive W (by rw [hb.cell hg]; exact hcell) ((hst.sl i hi).below (by decide) hb) x)
   (fun q ob dk x hdk => by
    have hp := hst.putRows k hk q dk (by rw [hdk, hlen]) n (Nat.le_refl _) (dk.toList.map (Value.int IntKind.i64)) (by simp [hdk, hlen]) (fun j v hv => by
     rw [List.getElem?_map] at hv
     cases hx : dk.toList[j]? with
     | none => rw [hx] at hv; cases hv
     | some y =>
      rw [hx] at hv
      simp only [Option.map_some, Option.some.injEq] at hv
      rw [← hv]
      rw [Array.getElem?_toList] at hx
      simp [getElem!_def, hx])
    have hj' := hp.get j (g := g) (t := 44) (cs := #[.slice O m oc]) (by rw [List.getElem?_set_ne hkj]; exact hj)
    have hi' := hp.sl i (A := O) (m := m) (c := oc) (e := 3) (s := 1) (xs := natsL os) (by rw [List.getElem?_set_ne hki]; exact hi)
    have hgr : ∀ z, z < (Sort.putRow (Value.int IntKind.i64) (Sort.ahead w q) blk off dk).heap.size → (sortWorld (Value.int IntKind.i64) w blk off q dk ob).heap[z]? = (Sort.putRow (Value.int IntKind.i64) (Sort.ahead w q) blk off dk).heap[z]? := fun z hz => heap_grow_old _ _ hz
    refine hgive _ ?_ (hi'.of_heap (by decide) hgr) x
    exact cell_of ((hgr g (hp.lt (r := .blk g 44 #[.slice O m oc]) (List.mem_of_getElem? (i := j) (by rw [List.getElem?_set_ne hkj]; exact hj)) rfl)).trans hj') rfl)
   (fun q hq => by
    have hq' : q < ns.length := by rw [hlen] at hq; omega
    refine ⟨?_, ?_⟩
    ·rw [rangeAt_nats hr q (by rw [hsz]; omega)]
     have : (intsZ ns).toArray[q]! = (intsZ ns).getD q 0 := by
      simp [getElem!_def, intsZ, hq']
     rw [this]
    ·rcases hst.at_ k hk with ⟨e0, _⟩ | ⟨g', off', cur, hA, hh, hrw⟩
     ·cases e0
     ·simp only [Option.some.injEq, Addr.mk.injEq, and_true] at hA
      obtain ⟨rfl, rfl⟩ := hA
      exact frozen_of_row w blk _ cur _ hh)
   (by rw [hlen]; omega) (by rw [hlen]; omega)
  rw [hlen] at hD
  refine hD.mono ?_
  rintro e w' ⟨rfl, q, rfl⟩
  have hfl : ((intsZ ns).toArray.toList.filter fun x => !(fun x => !(intsZ os).contains x) x) = intsZ (ns.filter fun x => decide (x ∈ os)) := by
   rw [filter_cast]
   simp only [Bool.not_not, contains_intsZ]
  rw [hfl]
  have hle := List.length_filter_le (fun x => decide (x ∈ os)) ns
  have hl2 : (intsZ (ns.filter fun x => decide (x ∈ os))).length = (ns.filter fun x => decide (x ∈ os)).length := by simp [intsZ]
  rw [hl2]
  refine ⟨rfl, ?_⟩
  refine hst.putRows k hk q _ (by simp [intsZ]; omega) _ (by omega) _ (by simp [natsL]) (fun j v hv => ?_)
  have hj2 : j < (ns.filter fun x => decide (x ∈ os)).length := by
   have := (List.getElem?_eq_some_iff.1 hv).1
   simpa [natsL] using this
  rw [natsL_intsZ, List.getElem?_map] at hv
  have hj3 : j < (intsZ (ns.filter fun x => decide (x ∈ os))).length := by rw [hl2]; exact hj2
  rw [List.getElem?_eq_getElem hj3] at hv
  simp only [Option.map_some, Option.some.injEq] at hv
  rw [← hv]
  simp [getElem!_def, List.getElem?_append_left hj3, List.getElem?_eq_getElem hj3]
end Go.Proofs.YtkbleigmfcleaaaDoor

set_option maxRecDepth 20000
set_option linter.unusedSimpArgs false
set_option linter.unusedVariables false
namespace Go.Proofs.YtkbleigmfcleaaaDoor
open Go.RowKit
theorem Dig.oneR (d : Dig) : ∀ u ∈ d.arr.toList, u.oneCell' = true := by
 rw [Dig.toList]
 exact oneCell_bytes
theorem padK_take (k : List UInt8) (x : UInt8) (i : Nat) (h : i < 64) : bytesL ((padK k x).take i) ++ [.int .u8 (((k.getD i 0).toNat ^^^ x.toNat : Nat) : Int)] = bytesL ((padK k x).take (i + 1)) := by
 have hl : i < (padK k x).length := by rw [length_padK]; exact h
 have hg : (padK k x)[i] = k.getD i 0 ^^^ x := by simp [padK]
 rw [List.take_succ_eq_append_getElem hl, hg, bytesL_append, xor_byte]
 rfl
theorem padK_all (k : List UInt8) (x : UInt8) : (padK k x).take 64 = padK k x := List.take_of_length_le (by rw [length_padK]; exact Nat.le_refl _)
set_option maxHeartbeats 2000000 in
set_option maxRecDepth 100000 in
theorem rmac_any (key b : List UInt8) (K A : Option Addr) (m mc n c : Nat) (w : World) (hk : SlR w K m mc 1 (bytesL key)) (hx : SlR w A n c 1 (bytesL b)) (hm : m ≤ 140737488355000) (hn : n ≤ 140737488354000) :
  Calls Tryd.prog 52 #[.slice K m mc, .slice A n c] w fun e w' => e = .returned (macN key b).v ∧ St w w' [] := by
 have hst := St.refl w
 have hkl := hk.1
 have hxl := hx.1
 rw [length_bytesL, Nat.mul_one] at hkl hxl
 have Hkl := Lib.hid hkl
 have Hxl := Lib.hid hxl
 clear hkl hxl
 go_enter Tryd.func52, Tryd.ntmps52
 go_upto_if 13 with (first
  | (refine L_allocA (d := some 4) rfl rfl rfl el_api_Digest ?_; (try clear hnew); intro g4 W4 hnew; replace hst := hst.trans hnew; simp only [List.cons_append, List.nil_append] at hst)
  | fail)
 clear hnew
 go_cut [0] (fun s0 wx => ∃ (K' : Option Addr) (m' c' : Nat) (kk : List UInt8) (Lk : List Res), Hid (kk = keyOf key ∧ kk.length = m') ∧ m' ≤ 64 ∧ s0 = .slice K' m' c' ∧ Hid (Src w Lk K' m' c' 1 (bytesL kk)) ∧ St w wx (.blk g4 23 zeroD.arr :: Lk))
 case first =>
  by_cases h64 : 64 < m
  ·have h1 : (64 : Int) < (m : Int) := by omega
   go_wp2_with (first
    | (go_at_call 38; (try clear hnew); with_reducible refine (rsum_any _ _ _ _ _ (hst.old (by decide) hk) (by omega)).mono ?_; rintro e Wk1 ⟨rfl, hnew⟩; replace hst := hst.keep hnew)
    | (refine L_allocA (d := some 5) rfl rfl rfl el_api_Digest ?_; (try clear hnew); intro g5 W5 hnew; replace hst := hst.trans hnew; simp only [List.cons_append, List.nil_append] at hst)
    | (refine wpl_at (.store 23 (.tmp 5) (.tmp 15)) rfl ?_; first | (refine L_storeA rfl rfl hst rfl (by rfl) (ev_tmp rfl) (by first | rfl | exact Dig.one _ | (simp; done)) el_api_Digest (by first | rfl | exact Dig.size _ | (simp; done)) 0 rfl (by first | rfl | exact Dig.size _ | (simp; done)) ?_; clear hst; intro WS3 hst; simp only [List.set_cons_zero, List.set_cons_succ] at hst) | (refine L_storeA rfl rfl hst rfl (by rfl) (ev_tmp rfl) (by first | rfl | exact Dig.one _ | (simp; done)) el_api_Digest (by first | rfl | exact Dig.size _ | (simp; done)) 1 rfl (by first | rfl | exact Dig.size _ | (simp; done)) ?_; clear hst; intro WS3 hst; simp only [List.set_cons_zero, List.set_cons_succ] at hst) | (refine L_storeA rfl rfl hst rfl (by rfl) (ev_tmp rfl) (by first | rfl | exact Dig.one _ | (simp; done)) el_api_Digest (by first | rfl | exact Dig.size _ | (simp; done)) 2 rfl (by first | rfl | exact Dig.size _ | (simp; done)) ?_; clear hst; intro WS3 hst; simp only [List.set_cons_zero, List.set_cons_succ] at hst) | (refine L_storeA rfl rfl hst rfl (by rfl) (ev_tmp rfl) (by first | rfl | exact Dig.one _ | (simp; done)) el_api_Digest (by first | rfl | exact Dig.size _ | (simp; done)) 3 rfl (by first | rfl | exact Dig.size _ | (simp; done)) ?_; clear hst; intro WS3 hst; simp only [List.set_cons_zero, List.set_cons_succ] at hst) | (refine L_storeA rfl rfl hst rfl (by rfl) (ev_tmp rfl) (by first | rfl | exact Dig.one _ | (simp; done)) el_api_Digest (by first | rfl | exact Dig.size _ | (simp; done)) 4 rfl (by first | rfl | exact Dig.size _ | (simp; done)) ?_; clear hst; intro WS3 hst; simp only [List.set_cons_zero, List.set_cons_succ] at hst) | (refine L_storeA rfl rfl hst rfl (by rfl) (ev_tmp rfl) (by first | rfl | exact Dig.one _ | (simp; done)) el_api_Digest (by first | rfl | exact Dig.size _ | (simp; done)) 5 rfl (by first | rfl | exact Dig.size _ | (simp; done)) ?_; clear hst; intro WS3 hst; simp only [List.set_cons_zero, List.set_cons_succ] at hst) | (refine L_storeM rfl rfl hst rfl (by rfl) (ev_tmp rfl) (by first | rfl | exact Dig.one _ | (simp; done)) el_api_Digest (by first | rfl | exact Dig.size _ | (simp; done)) 0 rfl (by first | exact of_decide_eq_true rfl | (simp; done)) ?_; clear hst; intro WS3 hst; simp only [List.set_cons_zero, List.set_cons_succ] at hst)  | (refine L_storeM rfl rfl hst rfl (by rfl) (ev_tmp rfl) (by first | rfl | exact Dig.one _ | (simp; done)) el_api_Digest (by first | rfl | exact Dig.size _ | (simp; done)) 1 rfl (by first | exact of_decide_eq_true rfl | (simp; done)) ?_; clear hst; intro WS3 hst; simp only [List.set_cons_zero, List.set_cons_succ] at hst)  | (refine L_storeM rfl rfl hst rfl (by rfl) (ev_tmp rfl) (by first | rfl | exact Dig.one _ | (simp; done)) el_api_Digest (by first | rfl | exact Dig.size _ | (simp; done)) 2 rfl (by first | exact of_decide_eq_true rfl | (simp; done)) ?_; clear hst; intro WS3 hst; simp only [List.set_cons_zero, List.set_cons_succ] at hst)  | (refine L_storeM rfl rfl hst rfl (by rfl) (ev_tmp rfl) (by first | rfl | exact Dig.one _ | (simp; done)) el_api_Digest (by first | rfl | exact Dig.size _ | (simp; done)) 3 rfl (by first | exact of_decide_eq_true rfl | (simp; done)) ?_; clear hst; intro WS3 hst; simp only [List.set_cons_zero, List.set_cons_succ] at hst)  | (refine L_storeM rfl rfl hst rfl (by rfl) (ev_tmp rfl) (by first | rfl | exact Dig.one _ | (simp; done)) el_api_Digest (by first | rfl | exact Dig.size _ | (simp; done)) 4 rfl (by first | exact of_decide_eq_true rfl | (simp; done)) ?_; clear hst; intro WS3 hst; simp only [List.set_cons_zero, List.set_cons_succ] at hst)  | (refine L_storeM rfl rfl hst rfl (by rfl) (ev_tmp rfl) (by first | rfl | exact Dig.one _ | (simp; done)) el_api_Digest (by first | rfl | exact Dig.size _ | (simp; done)) 5 rfl (by first | exact of_decide_eq_true rfl | (simp; done)) ?_; clear hst; intro WS3 hst; simp only [List.set_cons_zero, List.set_cons_succ] at hst))
    | (refine L_sliceAll (d := some 16) rfl rfl rfl (by rfl) Tryd.underlying23 el_uint8 (by first | exact hst.get 0 rfl | exact hst.get 1 rfl | exact hst.get 2 rfl | exact hst.get 3 rfl | exact hst.get 4 rfl | exact hst.get 5 rfl) (by first | rfl | exact Dig.size _ | (simp; done)) (by decide) ?_; intro hs16)
    | fail)
   go_meet
   case rel =>
    refine ⟨_, _, _, (sha key).l, [.blk g5 23 (sha key).arr], Lib.hid ⟨?_, (sha key).h⟩, by omega, rfl, Lib.hid ?_, hst.pick [1, 0] (by decide)⟩
    ·rw [keyOf, if_pos (by rw [Hkl.out]; exact h64)]
    ·rw [← Dig.toList]
     exact Src.blk (i := 0) rfl (Dig.size _) (by decide)
  ·have h1 : (m : Int) ≤ 64 := by omega
   go_wp2_with fail
   go_meet
   case rel =>
    refine ⟨K, m, mc, key, [], Lib.hid ⟨?_, Hkl.out⟩, by omega, rfl, Lib.hid (Src.old (by decide) hk _), hst⟩
    rw [keyOf, if_neg (by rw [Hkl.out]; omega)]
 case rest =>
  clear hst
  obtain ⟨K', m', c', kk, Lk, HK, hm64, rfl, HS, hst⟩ := hcut
  go_wp2_with (first
   | fail)
  have hst : St w wc (.row none 0 0 5 1 (bytesL ((padK kk 92).take 0)) :: .row none 0 0 5 1 (bytesL ((padK kk 54).take 0)) :: .blk g4 23 zeroD.arr :: Lk) := (hst.nilRow 5 1).nilRow 5 1
  go_loopg [6, 7, 8, 9] 64 (fun gk s6 s7 s8 s9 wr => ∃ (i : Nat) (O I : Option Addr) (oc ic : Nat), Hid (i + gk = 64) ∧ s6 = .slice O i oc ∧ s7 = .slice I i ic ∧ s8 = .int .i64 (i : Int) ∧ St w wr (.row O i oc 5 1 (bytesL ((padK kk 92).take i)) :: .row I i ic 5 1 (bytesL ((padK kk 54).take i)) :: .blk g4 23 zeroD.arr :: Lk))
  case atStart => exact ⟨0, none, none, 0, 0, Lib.hid (by omega), rfl, rfl, rfl, hst⟩
  case round =>
   clear hst
   obtain ⟨i, O, I, oc, ic, HI, rfl, rfl, rfl, hst⟩ := hrel
   have hi := HI.out
   by_cases h64 : i < 64
   ·clear hi
    have HP9 := Lib.hid (padK_take kk 92 i h64)
    have HP5 := Lib.hid (padK_take kk 54 i h64)
    by_cases hin : i < m'
    ·have hb := Lib.hid (show i < kk.length by rw [HK.out.2]; exact hin)
     have hx5 : bits .xor .u8 ((kk.getD i 0).toNat : Int) 54 = (((kk.getD i 0).toNat ^^^ 54 : Nat) : Int) := xor_val _ 54
     have hx9 : bits .xor .u8 ((kk.getD i 0).toNat : Int) 92 = (((kk.getD i 0).toNat ^^^ 92 : Nat) : Int) := xor_val _ 92
     have HC := Lib.hid (fun (W : World) (g off : Nat) h => byte_of_range (W := W) (g := g) (off := off) (i := i) (l := kk) h hb.out)
     generalize kk.getD i 0 = x at *
     go_wp2_with (first
      | (refine wpl_at (.load 5 (.tmp 27)) rfl ?_; (refine L_load1 (d := some 28) rfl rfl rfl (by rfl) Tryd.underlying5 rfl (HC.out _ _ _ hr27) ?_))
      | (refine L_idxS (d := some 27) rfl rfl rfl (by rfl) (by rfl) Tryd.underlying49 el_uint8 (by first | exact HS.out _ (hst.tailN 3) | assumption | exact hst.sl 0 rfl | exact hst.sl 1 rfl | exact hst.sl 2 rfl | exact hst.sl 3 rfl | exact hst.sl 4 rfl | exact hst.sl 5 rfl | exact hst.old (by decide) (by assumption)) (by omega) (by omega) ?_; intro o27 p27 ha27 hr27; (first | subst ha27 | (obtain ⟨h1, h2⟩ := some_addr ha27; subst h1; subst h2; clear ha27) | skip))
      | (refine L_load1 (d := some 28) rfl rfl rfl (by rfl) Tryd.underlying5 rfl (by first | assumption | exact cell_of (hst.get 0 rfl) rfl | exact cell_of (hst.get 1 rfl) rfl | exact cell_of (hst.get 2 rfl) rfl | exact cell_of (hst.get 3 rfl) rfl | exact cell_of (hst.get 4 rfl) rfl | exact cell_of (hst.get 5 rfl) rfl) ?_)
      | (refine L_buildS (d := some 32) rfl rfl rfl [_] (bs_1 (ev_tmp rfl)) rfl Tryd.underlying49 el_uint8 rfl (by first | (simp [Value.cells]; done) | (simp [Value.cells, Dig.size]; done)) (by decide) (by decide) ?_; (try clear hnew); intro g32 W32 hnew; replace hst := hst.trans hnew; simp only [List.cons_append, List.nil_append] at hst; simp only [List.flatMap_cons, List.flatMap_nil, List.append_nil, Value.cells, List.toList_toArray] at hst)
      | (refine L_appendO (d := some 33) rfl rfl hst rfl (by rfl) (by rfl) Tryd.underlying49 el_uint8 rfl (by decide) (by decide) 0 rfl (by first | rfl | omega) (by first | exact HS.out _ (hst.tailN 3) | exact hst.sl 0 rfl | exact hst.sl 1 rfl | exact hst.sl 2 rfl | exact hst.sl 3 rfl | exact hst.sl 4 rfl | exact hst.sl 5 rfl | assumption | exact hst.old (by decide) (by assumption)) (by first | exact oneCell_bytes | (simp [Value.oneCell']; done)) (by omega) ?_; clear hst; intro A33 c33 W33 hst; simp only [List.set_cons_zero, List.set_cons_succ, List.nil_append, Nat.zero_add] at hst)
      | (refine L_appendO (d := some 33) rfl rfl hst rfl (by rfl) (by rfl) Tryd.underlying49 el_uint8 rfl (by decide) (by decide) 1 rfl (by first | rfl | omega) (by first | exact HS.out _ (hst.tailN 3) | exact hst.sl 0 rfl | exact hst.sl 1 rfl | exact hst.sl 2 rfl | exact hst.sl 3 rfl | exact hst.sl 4 rfl | exact hst.sl 5 rfl | assumption | exact hst.old (by decide) (by assumption)) (by first | exact oneCell_bytes | (simp [Value.oneCell']; done)) (by omega) ?_; clear hst; intro A33 c33 W33 hst; simp only [List.set_cons_zero, List.set_cons_succ, List.nil_append, Nat.zero_add] at hst)
      | (refine L_appendO (d := some 33) rfl rfl hst rfl (by rfl) (by rfl) Tryd.underlying49 el_uint8 rfl (by decide) (by decide) 2 rfl (by first | rfl | omega) (by first | exact HS.out _ (hst.tailN 3) | exact hst.sl 0 rfl | exact hst.sl 1 rfl | exact hst.sl 2 rfl | exact hst.sl 3 rfl | exact hst.sl 4 rfl | exact hst.sl 5 rfl | assumption | exact hst.old (by decide) (by assumption)) (by first | exact oneCell_bytes | (simp [Value.oneCell']; done)) (by omega) ?_; clear hst; intro A33 c33 W33 hst; simp only [List.set_cons_zero, List.set_cons_succ, List.nil_append, Nat.zero_add] at hst)
      | (refine L_appendO (d := some 33) rfl rfl hst rfl (by rfl) (by rfl) Tryd.underlying49 el_uint8 rfl (by decide) (by decide) 3 rfl (by first | rfl | omega) (by first | exact HS.out _ (hst.tailN 3) | exact hst.sl 0 rfl | exact hst.sl 1 rfl | exact hst.sl 2 rfl | exact hst.sl 3 rfl | exact hst.sl 4 rfl | exact hst.sl 5 rfl | assumption | exact hst.old (by decide) (by assumption)) (by first | exact oneCell_bytes | (simp [Value.oneCell']; done)) (by omega) ?_; clear hst; intro A33 c33 W33 hst; simp only [List.set_cons_zero, List.set_cons_succ, List.nil_append, Nat.zero_add] at hst)
      | (refine L_appendO (d := some 33) rfl rfl hst rfl (by rfl) (by rfl) Tryd.underlying49 el_uint8 rfl (by decide) (by decide) 4 rfl (by first | rfl | omega) (by first | exact HS.out _ (hst.tailN 3) | exact hst.sl 0 rfl | exact hst.sl 1 rfl | exact hst.sl 2 rfl | exact hst.sl 3 rfl | exact hst.sl 4 rfl | exact hst.sl 5 rfl | assumption | exact hst.old (by decide) (by assumption)) (by first | exact oneCell_bytes | (simp [Value.oneCell']; done)) (by omega) ?_; clear hst; intro A33 c33 W33 hst; simp only [List.set_cons_zero, List.set_cons_succ, List.nil_append, Nat.zero_add] at hst)
      | (refine L_appendO (d := some 33) rfl rfl hst rfl (by rfl) (by rfl) Tryd.underlying49 el_uint8 rfl (by decide) (by decide) 5 rfl (by first | rfl | omega) (by first | exact HS.out _ (hst.tailN 3) | exact hst.sl 0 rfl | exact hst.sl 1 rfl | exact hst.sl 2 rfl | exact hst.sl 3 rfl | exact hst.sl 4 rfl | exact hst.sl 5 rfl | assumption | exact hst.old (by decide) (by assumption)) (by first | exact oneCell_bytes | (simp [Value.oneCell']; done)) (by omega) ?_; clear hst; intro A33 c33 W33 hst; simp only [List.set_cons_zero, List.set_cons_succ, List.nil_append, Nat.zero_add] at hst)
      | (refine L_appendF (d := some 33) rfl rfl rfl (by rfl) (by rfl) Tryd.underlying49 el_uint8 rfl (by decide) (by assumption) (by first | assumption | exact HS.out _ (hst.tailN 3) | exact hst.sl 0 rfl | exact hst.sl 1 rfl | exact hst.sl 2 rfl | exact hst.sl 3 rfl | exact hst.sl 4 rfl | exact hst.sl 5 rfl | assumption | exact hst.old (by decide) (by assumption)) (by omega) (by omega) (by omega) ?_; (try clear hnew); intro A33 c33 W33 hnew; replace hst := hst.trans hnew; simp only [List.cons_append, List.nil_append] at hst)
      | (refine L_buildS (d := some 37) rfl rfl rfl [_] (bs_1 (ev_tmp rfl)) rfl Tryd.underlying49 el_uint8 rfl (by first | (simp [Value.cells]; done) | (simp [Value.cells, Dig.size]; done)) (by decide) (by decide) ?_; (try clear hnew); intro g37 W37 hnew; replace hst := hst.trans hnew; simp only [List.cons_append, List.nil_append] at hst; simp only [List.flatMap_cons, List.flatMap_nil, List.append_nil, Value.cells, List.toList_toArray] at hst)
      | (refine L_appendO (d := some 38) rfl rfl hst rfl (by rfl) (by rfl) Tryd.underlying49 el_uint8 rfl (by decide) (by decide) 0 rfl (by first | rfl | omega) (by first | exact HS.out _ (hst.tailN 3) | exact hst.sl 0 rfl | exact hst.sl 1 rfl | exact hst.sl 2 rfl | exact hst.sl 3 rfl | exact hst.sl 4 rfl | exact hst.sl 5 rfl | assumption | exact hst.old (by decide) (by assumption)) (by first | exact oneCell_bytes | (simp [Value.oneCell']; done)) (by omega) ?_; clear hst; intro A38 c38 W38 hst; simp only [List.set_cons_zero, List.set_cons_succ, List.nil_append, Nat.zero_add] at hst)
      | (refine L_appendO (d := some 38) rfl rfl hst rfl (by rfl) (by rfl) Tryd.underlying49 el_uint8 rfl (by decide) (by decide) 1 rfl (by first | rfl | omega) (by first | exact HS.out _ (hst.tailN 3) | exact hst.sl 0 rfl | exact hst.sl 1 rfl | exact hst.sl 2 rfl | exact hst.sl 3 rfl | exact hst.sl 4 rfl | exact hst.sl 5 rfl | assumption | exact hst.old (by decide) (by assumption)) (by first | exact oneCell_bytes | (simp [Value.oneCell']; done)) (by omega) ?_; clear hst; intro A38 c38 W38 hst; simp only [List.set_cons_zero, List.set_cons_succ, List.nil_append, Nat.zero_add] at hst)
      | (refine L_appendO (d := some 38) rfl rfl hst rfl (by rfl) (by rfl) Tryd.underlying49 el_uint8 rfl (by decide) (by decide) 2 rfl (by first | rfl | omega) (by first | exact HS.out _ (hst.tailN 3) | exact hst.sl 0 rfl | exact hst.sl 1 rfl | exact hst.sl 2 rfl | exact hst.sl 3 rfl | exact hst.sl 4 rfl | exact hst.sl 5 rfl | assumption | exact hst.old (by decide) (by assumption)) (by first | exact oneCell_bytes | (simp [Value.oneCell']; done)) (by omega) ?_; clear hst; intro A38 c38 W38 hst; simp only [List.set_cons_zero, List.set_cons_succ, List.nil_append, Nat.zero_add] at hst)
      | (refine L_appendO (d := some 38) rfl rfl hst rfl (by rfl) (by rfl) Tryd.underlying49 el_uint8 rfl (by decide) (by decide) 3 rfl (by first | rfl | omega) (by first | exact HS.out _ (hst.tailN 3) | exact hst.sl 0 rfl | exact hst.sl 1 rfl | exact hst.sl 2 rfl | exact hst.sl 3 rfl | exact hst.sl 4 rfl | exact hst.sl 5 rfl | assumption | exact hst.old (by decide) (by assumption)) (by first | exact oneCell_bytes | (simp [Value.oneCell']; done)) (by omega) ?_; clear hst; intro A38 c38 W38 hst; simp only [List.set_cons_zero, List.set_cons_succ, List.nil_append, Nat.zero_add] at hst)
      | (refine L_appendO (d := some 38) rfl rfl hst rfl (by rfl) (by rfl) Tryd.underlying49 el_uint8 rfl (by decide) (by decide) 4 rfl (by first | rfl | omega) (by first | exact HS.out _ (hst.tailN 3) | exact hst.sl 0 rfl | exact hst.sl 1 rfl | exact hst.sl 2 rfl | exact hst.sl 3 rfl | exact hst.sl 4 rfl | exact hst.sl 5 rfl | assumption | exact hst.old (by decide) (by assumption)) (by first | exact oneCell_bytes | (simp [Value.oneCell']; done)) (by omega) ?_; clear hst; intro A38 c38 W38 hst; simp only [List.set_cons_zero, List.set_cons_succ, List.nil_append, Nat.zero_add] at hst)
      | (refine L_appendO (d := some 38) rfl rfl hst rfl (by rfl) (by rfl) Tryd.underlying49 el_uint8 rfl (by decide) (by decide) 5 rfl (by first | rfl | omega) (by first | exact HS.out _ (hst.tailN 3) | exact hst.sl 0 rfl | exact hst.sl 1 rfl | exact hst.sl 2 rfl | exact hst.sl 3 rfl | exact hst.sl 4 rfl | exact hst.sl 5 rfl | assumption | exact hst.old (by decide) (by assumption)) (by first | exact oneCell_bytes | (simp [Value.oneCell']; done)) (by omega) ?_; clear hst; intro A38 c38 W38 hst; simp only [List.set_cons_zero, List.set_cons_succ, List.nil_append, Nat.zero_add] at hst)
      | (refine L_appendF (d := some 38) rfl rfl rfl (by rfl) (by rfl) Tryd.underlying49 el_uint8 rfl (by decide) (by assumption) (by first | assumption | exact HS.out _ (hst.tailN 3) | exact hst.sl 0 rfl | exact hst.sl 1 rfl | exact hst.sl 2 rfl | exact hst.sl 3 rfl | exact hst.sl 4 rfl | exact hst.sl 5 rfl | assumption | exact hst.old (by decide) (by assumption)) (by omega) (by omega) (by omega) ?_; (try clear hnew); intro A38 c38 W38 hnew; replace hst := hst.trans hnew; simp only [List.cons_append, List.nil_append] at hst)
      | fail)
     go_roundg (gk - 1)
     case measure => have hi := HI.out; omega
     case rel =>
      have hi := HI.out
      refine ⟨i + 1, A33, A38, c33, c38, Lib.hid (by omega), rfl, rfl, by go_num, ?_⟩
      rw [← HP9.out, ← HP5.out]
      exact hst.tail.tail
    ·have hz : kk.getD i 0 = 0 := by
      have := HK.out.2
      rw [List.getD_eq_getElem?_getD, List.getElem?_eq_none (by omega)]
      rfl
     have hx5 : bits .xor .u8 (0 : Int) 54 = 54 := by decide
     have hx9 : bits .xor .u8 (0 : Int) 92 = 92 := by decide
     rw [hz] at HP5 HP9
     clear hz
     go_wp2_with (first
      | (refine L_idxS (d := some 27) rfl rfl rfl (by rfl) (by rfl) Tryd.underlying49 el_uint8 (by first | assumption | exact hst.sl 0 rfl | exact hst.sl 1 rfl | exact hst.sl 2 rfl | exact hst.sl 3 rfl | exact hst.sl 4 rfl | exact hst.sl 5 rfl | exact hst.old (by decide) (by assumption)) (by omega) (by omega) ?_; intro o27 p27 ha27 hr27; (first | subst ha27 | (obtain ⟨h1, h2⟩ := some_addr ha27; subst h1; subst h2; clear ha27) | skip))
      | (refine L_load1 (d := some 28) rfl rfl rfl (by rfl) Tryd.underlying5 rfl (by first | assumption | exact cell_of (hst.get 0 rfl) rfl | exact cell_of (hst.get 1 rfl) rfl | exact cell_of (hst.get 2 rfl) rfl | exact cell_of (hst.get 3 rfl) rfl | exact cell_of (hst.get 4 rfl) rfl | exact cell_of (hst.get 5 rfl) rfl) ?_)
      | (refine L_buildS (d := some 32) rfl rfl rfl [_] (bs_1 (ev_tmp rfl)) rfl Tryd.underlying49 el_uint8 rfl (by first | (simp [Value.cells]; done) | (simp [Value.cells, Dig.size]; done)) (by decide) (by decide) ?_; (try clear hnew); intro g32 W32 hnew; replace hst := hst.trans hnew; simp only [List.cons_append, List.nil_append] at hst; simp only [List.flatMap_cons, List.flatMap_nil, List.append_nil, Value.cells, List.toList_toArray] at hst)
      | (refine L_appendO (d := some 33) rfl rfl hst rfl (by rfl) (by rfl) Tryd.underlying49 el_uint8 rfl (by decide) (by decide) 0 rfl (by first | rfl | omega) (by first | exact hst.sl 0 rfl | exact hst.sl 1 rfl | exact hst.sl 2 rfl | exact hst.sl 3 rfl | exact hst.sl 4 rfl | exact hst.sl 5 rfl | assumption | exact hst.old (by decide) (by assumption)) (by first | exact oneCell_bytes | (simp [Value.oneCell']; done)) (by omega) ?_; clear hst; intro A33 c33 W33 hst; simp only [List.set_cons_zero, List.set_cons_succ, List.nil_append, Nat.zero_add] at hst)
      | (refine L_appendO (d := some 33) rfl rfl hst rfl (by rfl) (by rfl) Tryd.underlying49 el_uint8 rfl (by decide) (by decide) 1 rfl (by first | rfl | omega) (by first | exact hst.sl 0 rfl | exact hst.sl 1 rfl | exact hst.sl 2 rfl | exact hst.sl 3 rfl | exact hst.sl 4 rfl | exact hst.sl 5 rfl | assumption | exact hst.old (by decide) (by assumption)) (by first | exact oneCell_bytes | (simp [Value.oneCell']; done)) (by omega) ?_; clear hst; intro A33 c33 W33 hst; simp only [List.set_cons_zero, List.set_cons_succ, List.nil_append, Nat.zero_add] at hst)
      | (refine L_appendO (d := some 33) rfl rfl hst rfl (by rfl) (by rfl) Tryd.underlying49 el_uint8 rfl (by decide) (by decide) 2 rfl (by first | rfl | omega) (by first | exact hst.sl 0 rfl | exact hst.sl 1 rfl | exact hst.sl 2 rfl | exact hst.sl 3 rfl | exact hst.sl 4 rfl | exact hst.sl 5 rfl | assumption | exact hst.old (by decide) (by assumption)) (by first | exact oneCell_bytes | (simp [Value.oneCell']; done)) (by omega) ?_; clear hst; intro A33 c33 W33 hst; simp only [List.set_cons_zero, List.set_cons_succ, List.nil_append, Nat.zero_add] at hst)
      | (refine L_appendO (d := some 33) rfl rfl hst rfl (by rfl) (by rfl) Tryd.underlying49 el_uint8 rfl (by decide) (by decide) 3 rfl (by first | rfl | omega) (by first | exact hst.sl 0 rfl | exact hst.sl 1 rfl | exact hst.sl 2 rfl | exact hst.sl 3 rfl | exact hst.sl 4 rfl | exact hst.sl 5 rfl | assumption | exact hst.old (by decide) (by assumption)) (by first | exact oneCell_bytes | (simp [Value.oneCell']; done)) (by omega) ?_; clear hst; intro A33 c33 W33 hst; simp only [List.set_cons_zero, List.set_cons_succ, List.nil_append, Nat.zero_add] at hst)
      | (refine L_appendO (d := some 33) rfl rfl hst rfl (by rfl) (by rfl) Tryd.underlying49 el_uint8 rfl (by decide) (by decide) 4 rfl (by first | rfl | omega) (by first | exact hst.sl 0 rfl | exact hst.sl 1 rfl | exact hst.sl 2 rfl | exact hst.sl 3 rfl | exact hst.sl 4 rfl | exact hst.sl 5 rfl | assumption | exact hst.old (by decide) (by assumption)) (by first | exact oneCell_bytes | (simp [Value.oneCell']; done)) (by omega) ?_; clear hst; intro A33 c33 W33 hst; simp only [List.set_cons_zero, List.set_cons_succ, List.nil_append, Nat.zero_add] at hst)
      | (refine L_appendO (d := some 33) rfl rfl hst rfl (by rfl) (by rfl) Tryd.underlying49 el_uint8 rfl (by decide) (by decide) 5 rfl (by first | rfl | omega) (by first | exact hst.sl 0 rfl | exact hst.sl 1 rfl | exact hst.sl 2 rfl | exact hst.sl 3 rfl | exact hst.sl 4 rfl | exact hst.sl 5 rfl | assumption | exact hst.old (by decide) (by assumption)) (by first | exact oneCell_bytes | (simp [Value.oneCell']; done)) (by omega) ?_; clear hst; intro A33 c33 W33 hst; simp only [List.set_cons_zero, List.set_cons_succ, List.nil_append, Nat.zero_add] at hst)
      | (refine L_appendF (d := some 33) rfl rfl rfl (by rfl) (by rfl) Tryd.underlying49 el_uint8 rfl (by decide) (by assumption) (by first | assumption | exact hst.sl 0 rfl | exact hst.sl 1 rfl | exact hst.sl 2 rfl | exact hst.sl 3 rfl | exact hst.sl 4 rfl | exact hst.sl 5 rfl | assumption | exact hst.old (by decide) (by assumption)) (by omega) (by omega) (by omega) ?_; (try clear hnew); intro A33 c33 W33 hnew; replace hst := hst.trans hnew; simp only [List.cons_append, List.nil_append] at hst)
      | (refine L_buildS (d := some 37) rfl rfl rfl [_] (bs_1 (ev_tmp rfl)) rfl Tryd.underlying49 el_uint8 rfl (by first | (simp [Value.cells]; done) | (simp [Value.cells, Dig.size]; done)) (by decide) (by decide) ?_; (try clear hnew); intro g37 W37 hnew; replace hst := hst.trans hnew; simp only [List.cons_append, List.nil_append] at hst; simp only [List.flatMap_cons, List.flatMap_nil, List.append_nil, Value.cells, List.toList_toArray] at hst)
      | (refine L_appendO (d := some 38) rfl rfl hst rfl (by rfl) (by rfl) Tryd.underlying49 el_uint8 rfl (by decide) (by decide) 0 rfl (by first | rfl | omega) (by first | exact hst.sl 0 rfl | exact hst.sl 1 rfl | exact hst.sl 2 rfl | exact hst.sl 3 rfl | exact hst.sl 4 rfl | exact hst.sl 5 rfl | assumption | exact hst.old (by decide) (by assumption)) (by first | exact oneCell_bytes | (simp [Value.oneCell']; done)) (by omega) ?_; clear hst; intro A38 c38 W38 hst; simp only [List.set_cons_zero, List.set_cons_succ, List.nil_append, Nat.zero_add] at hst)
      | (refine L_appendO (d := some 38) rfl rfl hst rfl (by rfl) (by rfl) Tryd.underlying49 el_uint8 rfl (by decide) (by decide) 1 rfl (by first | rfl | omega) (by first | exact hst.sl 0 rfl | exact hst.sl 1 rfl | exact hst.sl 2 rfl | exact hst.sl 3 rfl | exact hst.sl 4 rfl | exact hst.sl 5 rfl | assumption | exact hst.old (by decide) (by assumption)) (by first | exact oneCell_bytes | (simp [Value.oneCell']; done)) (by omega) ?_; clear hst; intro A38 c38 W38 hst; simp only [List.set_cons_zero, List.set_cons_succ, List.nil_append, Nat.zero_add] at hst)
      | (refine L_appendO (d := some 38) rfl rfl hst rfl (by rfl) (by rfl) Tryd.underlying49 el_uint8 rfl (by decide) (by decide) 2 rfl (by first | rfl | omega) (by first | exact hst.sl 0 rfl | exact hst.sl 1 rfl | exact hst.sl 2 rfl | exact hst.sl 3 rfl | exact hst.sl 4 rfl | exact hst.sl 5 rfl | assumption | exact hst.old (by decide) (by assumption)) (by first | exact oneCell_bytes | (simp [Value.oneCell']; done)) (by omega) ?_; clear hst; intro A38 c38 W38 hst; simp only [List.set_cons_zero, List.set_cons_succ, List.nil_append, Nat.zero_add] at hst)
      | (refine L_appendO (d := some 38) rfl rfl hst rfl (by rfl) (by rfl) Tryd.underlying49 el_uint8 rfl (by decide) (by decide) 3 rfl (by first | rfl | omega) (by first | exact hst.sl 0 rfl | exact hst.sl 1 rfl | exact hst.sl 2 rfl | exact hst.sl 3 rfl | exact hst.sl 4 rfl | exact hst.sl 5 rfl | assumption | exact hst.old (by decide) (by assumption)) (by first | exact oneCell_bytes | (simp [Value.oneCell']; done)) (by omega) ?_; clear hst; intro A38 c38 W38 hst; simp only [List.set_cons_zero, List.set_cons_succ, List.nil_append, Nat.zero_add] at hst)
      | (refine L_appendO (d := some 38) rfl rfl hst rfl (by rfl) (by rfl) Tryd.underlying49 el_uint8 rfl (by decide) (by decide) 4 rfl (by first | rfl | omega) (by first | exact hst.sl 0 rfl | exact hst.sl 1 rfl | exact hst.sl 2 rfl | exact hst.sl 3 rfl | exact hst.sl 4 rfl | exact hst.sl 5 rfl | assumption | exact hst.old (by decide) (by assumption)) (by first | exact oneCell_bytes | (simp [Value.oneCell']; done)) (by omega) ?_; clear hst; intro A38 c38 W38 hst; simp only [List.set_cons_zero, List.set_cons_succ, List.nil_append, Nat.zero_add] at hst)
      | (refine L_appendO (d := some 38) rfl rfl hst rfl (by rfl) (by rfl) Tryd.underlying49 el_uint8 rfl (by decide) (by decide) 5 rfl (by first | rfl | omega) (by first | exact hst.sl 0 rfl | exact hst.sl 1 rfl | exact hst.sl 2 rfl | exact hst.sl 3 rfl | exact hst.sl 4 rfl | exact hst.sl 5 rfl | assumption | exact hst.old (by decide) (by assumption)) (by first | exact oneCell_bytes | (simp [Value.oneCell']; done)) (by omega) ?_; clear hst; intro A38 c38 W38 hst; simp only [List.set_cons_zero, List.set_cons_succ, List.nil_append, Nat.zero_add] at hst)
      | (refine L_appendF (d := some 38) rfl rfl rfl (by rfl) (by rfl) Tryd.underlying49 el_uint8 rfl (by decide) (by assumption) (by first | assumption | exact hst.sl 0 rfl | exact hst.sl 1 rfl | exact hst.sl 2 rfl | exact hst.sl 3 rfl | exact hst.sl 4 rfl | exact hst.sl 5 rfl | assumption | exact hst.old (by decide) (by assumption)) (by omega) (by omega) (by omega) ?_; (try clear hnew); intro A38 c38 W38 hnew; replace hst := hst.trans hnew; simp only [List.cons_append, List.nil_append] at hst)
      | fail)
     go_roundg (gk - 1)
     case measure => have hi := HI.out; omega
     case rel =>
      have hi := HI.out
      refine ⟨i + 1, A33, A38, c33, c38, Lib.hid (by omega), rfl, rfl, by go_num, ?_⟩
      rw [← HP9.out, ← HP5.out]
      exact hst.tail.tail
   ·obtain rfl : i = 64 := by omega
    clear hi HI
    rw [padK_all, padK_all] at hst
    have hfin : sha (padK kk 92 ++ (sha (padK kk 54 ++ b)).l) = macN key b := by rw [HK.out.1]; rfl
    have Hfin := Lib.hid hfin
    clear hfin
    go_wp2_with (first
     | (go_at_call 38; (try clear hnew); first | (refine (rsum_any (padK kk 54 ++ b) _ _ _ _ (by rw [bytesL_append]; exact hst.sl 1 rfl) (by omega)).mono ?_; rintro e W42 ⟨rfl, hnew⟩; replace hst := hst.keep hnew) | (refine (rsum_any (padK kk 92 ++ (sha (padK kk 54 ++ b)).l) _ _ _ _ (by rw [bytesL_append, ← Dig.toList]; exact hst.sl 1 rfl) (by omega)).mono ?_; rintro e W46 ⟨rfl, hnew⟩; replace hst := hst.keep hnew))
     | (refine L_appendO (d := some 41) rfl rfl hst rfl (by rfl) (by rfl) Tryd.underlying49 el_uint8 rfl (by decide) (by decide) 0 rfl (by first | rfl | omega) (by first | exact hs44 | exact hst.old (by decide) hx | exact hst.sl 0 rfl | exact hst.sl 1 rfl | exact hst.sl 2 rfl | exact hst.sl 3 rfl | exact hst.sl 4 rfl | assumption | exact hst.old (by decide) (by assumption)) (by first | exact oneCell_bytes | (simp [Value.oneCell']; done) | exact Dig.oneR _) (by omega) ?_; clear hst; intro A41 c41 W41 hst; simp only [List.set_cons_zero, List.set_cons_succ, List.nil_append, Nat.zero_add] at hst)
     | (refine L_appendO (d := some 41) rfl rfl hst rfl (by rfl) (by rfl) Tryd.underlying49 el_uint8 rfl (by decide) (by decide) 1 rfl (by first | rfl | omega) (by first | exact hs44 | exact hst.old (by decide) hx | exact hst.sl 0 rfl | exact hst.sl 1 rfl | exact hst.sl 2 rfl | exact hst.sl 3 rfl | exact hst.sl 4 rfl | assumption | exact hst.old (by decide) (by assumption)) (by first | exact oneCell_bytes | (simp [Value.oneCell']; done) | exact Dig.oneR _) (by omega) ?_; clear hst; intro A41 c41 W41 hst; simp only [List.set_cons_zero, List.set_cons_succ, List.nil_append, Nat.zero_add] at hst)
     | (refine L_appendO (d := some 41) rfl rfl hst rfl (by rfl) (by rfl) Tryd.underlying49 el_uint8 rfl (by decide) (by decide) 2 rfl (by first | rfl | omega) (by first | exact hs44 | exact hst.old (by decide) hx | exact hst.sl 0 rfl | exact hst.sl 1 rfl | exact hst.sl 2 rfl | exact hst.sl 3 rfl | exact hst.sl 4 rfl | assumption | exact hst.old (by decide) (by assumption)) (by first | exact oneCell_bytes | (simp [Value.oneCell']; done) | exact Dig.oneR _) (by omega) ?_; clear hst; intro A41 c41 W41 hst; simp only [List.set_cons_zero, List.set_cons_succ, List.nil_append, Nat.zero_add] at hst)
     | (refine L_appendO (d := some 41) rfl rfl hst rfl (by rfl) (by rfl) Tryd.underlying49 el_uint8 rfl (by decide) (by decide) 3 rfl (by first | rfl | omega) (by first | exact hs44 | exact hst.old (by decide) hx | exact hst.sl 0 rfl | exact hst.sl 1 rfl | exact hst.sl 2 rfl | exact hst.sl 3 rfl | exact hst.sl 4 rfl | assumption | exact hst.old (by decide) (by assumption)) (by first | exact oneCell_bytes | (simp [Value.oneCell']; done) | exact Dig.oneR _) (by omega) ?_; clear hst; intro A41 c41 W41 hst; simp only [List.set_cons_zero, List.set_cons_succ, List.nil_append, Nat.zero_add] at hst)
     | (refine L_appendO (d := some 41) rfl rfl hst rfl (by rfl) (by rfl) Tryd.underlying49 el_uint8 rfl (by decide) (by decide) 4 rfl (by first | rfl | omega) (by first | exact hs44 | exact hst.old (by decide) hx | exact hst.sl 0 rfl | exact hst.sl 1 rfl | exact hst.sl 2 rfl | exact hst.sl 3 rfl | exact hst.sl 4 rfl | assumption | exact hst.old (by decide) (by assumption)) (by first | exact oneCell_bytes | (simp [Value.oneCell']; done) | exact Dig.oneR _) (by omega) ?_; clear hst; intro A41 c41 W41 hst; simp only [List.set_cons_zero, List.set_cons_succ, List.nil_append, Nat.zero_add] at hst)
     | (refine L_appendF (d := some 41) rfl rfl rfl (by rfl) (by rfl) Tryd.underlying49 el_uint8 rfl (by decide) (by assumption) (by first | assumption | exact hs44 | exact hst.old (by decide) hx | exact hst.sl 0 rfl | exact hst.sl 1 rfl | exact hst.sl 2 rfl | exact hst.sl 3 rfl | exact hst.sl 4 rfl | assumption | exact hst.old (by decide) (by assumption)) (by omega) (by omega) (by omega) ?_; (try clear hnew); intro A41 c41 W41 hnew; replace hst := hst.trans hnew; simp only [List.cons_append, List.nil_append] at hst)
     | (refine L_allocA (d := some 10) rfl rfl rfl el_api_Digest ?_; (try clear hnew); intro g10 W10 hnew; replace hst := hst.trans hnew; simp only [List.cons_append, List.nil_append] at hst)
     | (refine wpl_at (.store 23 (.tmp 10) (.tmp 42)) rfl ?_; first | (refine L_storeA rfl rfl hst rfl (by rfl) (ev_tmp rfl) (by first | rfl | exact Dig.one _ | exact Dig.oneR _ | (simp; done)) el_api_Digest (by first | rfl | exact Dig.size _ | (simp; done)) 0 rfl (by first | rfl | exact Dig.size _ | (simp; done)) ?_; clear hst; intro WS5 hst; simp only [List.set_cons_zero, List.set_cons_succ] at hst) | (refine L_storeA rfl rfl hst rfl (by rfl) (ev_tmp rfl) (by first | rfl | exact Dig.one _ | exact Dig.oneR _ | (simp; done)) el_api_Digest (by first | rfl | exact Dig.size _ | (simp; done)) 1 rfl (by first | rfl | exact Dig.size _ | (simp; done)) ?_; clear hst; intro WS5 hst; simp only [List.set_cons_zero, List.set_cons_succ] at hst) | (refine L_storeA rfl rfl hst rfl (by rfl) (ev_tmp rfl) (by first | rfl | exact Dig.one _ | exact Dig.oneR _ | (simp; done)) el_api_Digest (by first | rfl | exact Dig.size _ | (simp; done)) 2 rfl (by first | rfl | exact Dig.size _ | (simp; done)) ?_; clear hst; intro WS5 hst; simp only [List.set_cons_zero, List.set_cons_succ] at hst) | (refine L_storeA rfl rfl hst rfl (by rfl) (ev_tmp rfl) (by first | rfl | exact Dig.one _ | exact Dig.oneR _ | (simp; done)) el_api_Digest (by first | rfl | exact Dig.size _ | (simp; done)) 3 rfl (by first | rfl | exact Dig.size _ | (simp; done)) ?_; clear hst; intro WS5 hst; simp only [List.set_cons_zero, List.set_cons_succ] at hst) | (refine L_storeA rfl rfl hst rfl (by rfl) (ev_tmp rfl) (by first | rfl | exact Dig.one _ | exact Dig.oneR _ | (simp; done)) el_api_Digest (by first | rfl | exact Dig.size _ | (simp; done)) 4 rfl (by first | rfl | exact Dig.size _ | (simp; done)) ?_; clear hst; intro WS5 hst; simp only [List.set_cons_zero, List.set_cons_succ] at hst) | (refine L_storeM rfl rfl hst rfl (by rfl) (ev_tmp rfl) (by first | rfl | exact Dig.one _ | exact Dig.oneR _ | (simp; done)) el_api_Digest (by first | rfl | exact Dig.size _ | (simp; done)) 0 rfl (by first | exact of_decide_eq_true rfl | (simp; done)) ?_; clear hst; intro WS5 hst; simp only [List.set_cons_zero, List.set_cons_succ] at hst)  | (refine L_storeM rfl rfl hst rfl (by rfl) (ev_tmp rfl) (by first | rfl | exact Dig.one _ | exact Dig.oneR _ | (simp; done)) el_api_Digest (by first | rfl | exact Dig.size _ | (simp; done)) 1 rfl (by first | exact of_decide_eq_true rfl | (simp; done)) ?_; clear hst; intro WS5 hst; simp only [List.set_cons_zero, List.set_cons_succ] at hst)  | (refine L_storeM rfl rfl hst rfl (by rfl) (ev_tmp rfl) (by first | rfl | exact Dig.one _ | exact Dig.oneR _ | (simp; done)) el_api_Digest (by first | rfl | exact Dig.size _ | (simp; done)) 2 rfl (by first | exact of_decide_eq_true rfl | (simp; done)) ?_; clear hst; intro WS5 hst; simp only [List.set_cons_zero, List.set_cons_succ] at hst)  | (refine L_storeM rfl rfl hst rfl (by rfl) (ev_tmp rfl) (by first | rfl | exact Dig.one _ | exact Dig.oneR _ | (simp; done)) el_api_Digest (by first | rfl | exact Dig.size _ | (simp; done)) 3 rfl (by first | exact of_decide_eq_true rfl | (simp; done)) ?_; clear hst; intro WS5 hst; simp only [List.set_cons_zero, List.set_cons_succ] at hst)  | (refine L_storeM rfl rfl hst rfl (by rfl) (ev_tmp rfl) (by first | rfl | exact Dig.one _ | exact Dig.oneR _ | (simp; done)) el_api_Digest (by first | rfl | exact Dig.size _ | (simp; done)) 4 rfl (by first | exact of_decide_eq_true rfl | (simp; done)) ?_; clear hst; intro WS5 hst; simp only [List.set_cons_zero, List.set_cons_succ] at hst))
     | (refine L_sliceAll (d := some 44) rfl rfl rfl (by rfl) Tryd.underlying23 el_uint8 (by first | exact hst.get 0 rfl | exact hst.get 1 rfl | exact hst.get 2 rfl | exact hst.get 3 rfl | exact hst.get 4 rfl) (by first | rfl | exact Dig.size _ | (simp; done)) (by decide) ?_; intro hs44)
     | (refine L_appendO (d := some 45) rfl rfl hst rfl (by rfl) (by rfl) Tryd.underlying49 el_uint8 rfl (by decide) (by decide) 0 rfl (by first | rfl | omega) (by first | exact hs44 | exact hst.old (by decide) hx | exact hst.sl 0 rfl | exact hst.sl 1 rfl | exact hst.sl 2 rfl | exact hst.sl 3 rfl | exact hst.sl 4 rfl | assumption | exact hst.old (by decide) (by assumption)) (by first | exact oneCell_bytes | (simp [Value.oneCell']; done) | exact Dig.oneR _) (by omega) ?_; clear hst; intro A45 c45 W45 hst; simp only [List.set_cons_zero, List.set_cons_succ, List.nil_append, Nat.zero_add] at hst)
     | (refine L_appendO (d := some 45) rfl rfl hst rfl (by rfl) (by rfl) Tryd.underlying49 el_uint8 rfl (by decide) (by decide) 1 rfl (by first | rfl | omega) (by first | exact hs44 | exact hst.old (by decide) hx | exact hst.sl 0 rfl | exact hst.sl 1 rfl | exact hst.sl 2 rfl | exact hst.sl 3 rfl | exact hst.sl 4 rfl | assumption | exact hst.old (by decide) (by assumption)) (by first | exact oneCell_bytes | (simp [Value.oneCell']; done) | exact Dig.oneR _) (by omega) ?_; clear hst; intro A45 c45 W45 hst; simp only [List.set_cons_zero, List.set_cons_succ, List.nil_append, Nat.zero_add] at hst)
     | (refine L_appendO (d := some 45) rfl rfl hst rfl (by rfl) (by rfl) Tryd.underlying49 el_uint8 rfl (by decide) (by decide) 2 rfl (by first | rfl | omega) (by first | exact hs44 | exact hst.old (by decide) hx | exact hst.sl 0 rfl | exact hst.sl 1 rfl | exact hst.sl 2 rfl | exact hst.sl 3 rfl | exact hst.sl 4 rfl | assumption | exact hst.old (by decide) (by assumption)) (by first | exact oneCell_bytes | (simp [Value.oneCell']; done) | exact Dig.oneR _) (by omega) ?_; clear hst; intro A45 c45 W45 hst; simp only [List.set_cons_zero, List.set_cons_succ, List.nil_append, Nat.zero_add] at hst)
     | (refine L_appendO (d := some 45) rfl rfl hst rfl (by rfl) (by rfl) Tryd.underlying49 el_uint8 rfl (by decide) (by decide) 3 rfl (by first | rfl | omega) (by first | exact hs44 | exact hst.old (by decide) hx | exact hst.sl 0 rfl | exact hst.sl 1 rfl | exact hst.sl 2 rfl | exact hst.sl 3 rfl | exact hst.sl 4 rfl | assumption | exact hst.old (by decide) (by assumption)) (by first | exact oneCell_bytes | (simp [Value.oneCell']; done) | exact Dig.oneR _) (by omega) ?_; clear hst; intro A45 c45 W45 hst; simp only [List.set_cons_zero, List.set_cons_succ, List.nil_append, Nat.zero_add] at hst)
     | (refine L_appendO (d := some 45) rfl rfl hst rfl (by rfl) (by rfl) Tryd.underlying49 el_uint8 rfl (by decide) (by decide) 4 rfl (by first | rfl | omega) (by first | exact hs44 | exact hst.old (by decide) hx | exact hst.sl 0 rfl | exact hst.sl 1 rfl | exact hst.sl 2 rfl | exact hst.sl 3 rfl | exact hst.sl 4 rfl | assumption | exact hst.old (by decide) (by assumption)) (by first | exact oneCell_bytes | (simp [Value.oneCell']; done) | exact Dig.oneR _) (by omega) ?_; clear hst; intro A45 c45 W45 hst; simp only [List.set_cons_zero, List.set_cons_succ, List.nil_append, Nat.zero_add] at hst)
     | (refine L_appendF (d := some 45) rfl rfl rfl (by rfl) (by rfl) Tryd.underlying49 el_uint8 rfl (by decide) (by assumption) (by first | assumption | exact hs44 | exact hst.old (by decide) hx | exact hst.sl 0 rfl | exact hst.sl 1 rfl | exact hst.sl 2 rfl | exact hst.sl 3 rfl | exact hst.sl 4 rfl | assumption | exact hst.old (by decide) (by assumption)) (by omega) (by omega) (by omega) ?_; (try clear hnew); intro A45 c45 W45 hnew; replace hst := hst.trans hnew; simp only [List.cons_append, List.nil_append] at hst)
     | (refine wpl_at (.store 23 (.tmp 4) (.tmp 46)) rfl ?_; first | (refine L_storeA rfl rfl hst rfl (by rfl) (ev_tmp rfl) (by first | rfl | exact Dig.one _ | exact Dig.oneR _ | (simp; done)) el_api_Digest (by first | rfl | exact Dig.size _ | (simp; done)) 0 rfl (by first | rfl | exact Dig.size _ | (simp; done)) ?_; clear hst; intro WS4 hst; simp only [List.set_cons_zero, List.set_cons_succ] at hst) | (refine L_storeA rfl rfl hst rfl (by rfl) (ev_tmp rfl) (by first | rfl | exact Dig.one _ | exact Dig.oneR _ | (simp; done)) el_api_Digest (by first | rfl | exact Dig.size _ | (simp; done)) 1 rfl (by first | rfl | exact Dig.size _ | (simp; done)) ?_; clear hst; intro WS4 hst; simp only [List.set_cons_zero, List.set_cons_succ] at hst) | (refine L_storeA rfl rfl hst rfl (by rfl) (ev_tmp rfl) (by first | rfl | exact Dig.one _ | exact Dig.oneR _ | (simp; done)) el_api_Digest (by first | rfl | exact Dig.size _ | (simp; done)) 2 rfl (by first | rfl | exact Dig.size _ | (simp; done)) ?_; clear hst; intro WS4 hst; simp only [List.set_cons_zero, List.set_cons_succ] at hst) | (refine L_storeA rfl rfl hst rfl (by rfl) (ev_tmp rfl) (by first | rfl | exact Dig.one _ | exact Dig.oneR _ | (simp; done)) el_api_Digest (by first | rfl | exact Dig.size _ | (simp; done)) 3 rfl (by first | rfl | exact Dig.size _ | (simp; done)) ?_; clear hst; intro WS4 hst; simp only [List.set_cons_zero, List.set_cons_succ] at hst) | (refine L_storeA rfl rfl hst rfl (by rfl) (ev_tmp rfl) (by first | rfl | exact Dig.one _ | exact Dig.oneR _ | (simp; done)) el_api_Digest (by first | rfl | exact Dig.size _ | (simp; done)) 4 rfl (by first | rfl | exact Dig.size _ | (simp; done)) ?_; clear hst; intro WS4 hst; simp only [List.set_cons_zero, List.set_cons_succ] at hst) | (refine L_storeM rfl rfl hst rfl (by rfl) (ev_tmp rfl) (by first | rfl | exact Dig.one _ | exact Dig.oneR _ | (simp; done)) el_api_Digest (by first | rfl | exact Dig.size _ | (simp; done)) 0 rfl (by first | exact of_decide_eq_true rfl | (simp; done)) ?_; clear hst; intro WS4 hst; simp only [List.set_cons_zero, List.set_cons_succ] at hst)  | (refine L_storeM rfl rfl hst rfl (by rfl) (ev_tmp rfl) (by first | rfl | exact Dig.one _ | exact Dig.oneR _ | (simp; done)) el_api_Digest (by first | rfl | exact Dig.size _ | (simp; done)) 1 rfl (by first | exact of_decide_eq_true rfl | (simp; done)) ?_; clear hst; intro WS4 hst; simp only [List.set_cons_zero, List.set_cons_succ] at hst)  | (refine L_storeM rfl rfl hst rfl (by rfl) (ev_tmp rfl) (by first | rfl | exact Dig.one _ | exact Dig.oneR _ | (simp; done)) el_api_Digest (by first | rfl | exact Dig.size _ | (simp; done)) 2 rfl (by first | exact of_decide_eq_true rfl | (simp; done)) ?_; clear hst; intro WS4 hst; simp only [List.set_cons_zero, List.set_cons_succ] at hst)  | (refine L_storeM rfl rfl hst rfl (by rfl) (ev_tmp rfl) (by first | rfl | exact Dig.one _ | exact Dig.oneR _ | (simp; done)) el_api_Digest (by first | rfl | exact Dig.size _ | (simp; done)) 3 rfl (by first | exact of_decide_eq_true rfl | (simp; done)) ?_; clear hst; intro WS4 hst; simp only [List.set_cons_zero, List.set_cons_succ] at hst)  | (refine L_storeM rfl rfl hst rfl (by rfl) (ev_tmp rfl) (by first | rfl | exact Dig.one _ | exact Dig.oneR _ | (simp; done)) el_api_Digest (by first | rfl | exact Dig.size _ | (simp; done)) 4 rfl (by first | exact of_decide_eq_true rfl | (simp; done)) ?_; clear hst; intro WS4 hst; simp only [List.set_cons_zero, List.set_cons_succ] at hst))
     | fail)
    rw [Hfin.out] at hst
    refine bp_cell rfl rfl rfl (hst.get 3 rfl) Tryd.underlying23 rfl el_api_Digest (by first | rfl | exact Dig.size _ | (simp; done)) ?_
    exact ⟨rfl, hst.forget⟩
end Go.Proofs.YtkbleigmfcleaaaDoor

set_option maxRecDepth 20000
set_option linter.unusedSimpArgs false
set_option linter.unusedVariables false
namespace Go.Proofs.YtkbleigmfcleaaaDoor
open Go.RowKit
theorem bS (n : Int) (i : Nat) (h : i < 8) (m : Int) (hm : m = 2 ^ (8 * i)) : Value.int .u8 (n / m % 256) = byteV (byteS n i) := by
 subst hm
 have := byteS_val n i h
 unfold byteV
 rw [← this]
 rfl
theorem bS0 (n : Int) : Value.int .u8 (n % 256) = byteV (byteS n 0) := by
 have := bS n 0 (by decide) 1 (by decide)
 rwa [Int.ediv_one] at this
theorem sz4_cells (n : Int) : [Value.int .u8 (n / 16777216 % 256), .int .u8 (n / 65536 % 256), .int .u8 (n / 256 % 256), .int .u8 (n % 256)] = bytesL (sz4 n) := by
 rw [bS n 3 (by decide) _ (by decide), bS n 2 (by decide) _ (by decide), bS n 1 (by decide) _ (by decide), bS0]
 rfl
def mkHi (n : Int) : List UInt8 := [13, byteS n 7, byteS n 6, byteS n 5, byteS n 4]
theorem mkHi_cells (n : Int) : [Value.int .u8 13, .int .u8 (n / 72057594037927936 % 256), .int .u8 (n / 281474976710656 % 256), .int .u8 (n / 1099511627776 % 256), .int .u8 (n / 4294967296 % 256)] = bytesL (mkHi n) := by
 rw [bS n 7 (by decide) _ (by decide), bS n 6 (by decide) _ (by decide), bS n 5 (by decide) _ (by decide), bS n 4 (by decide) _ (by decide)]
 rfl
set_option maxHeartbeats 1000000 in
theorem four_any (n : Int) (w : World) :
  Calls Tryd.prog 51 #[.int .i64 n] w fun e w' => ∃ A, e = .returned (.slice A 4 4) ∧ St w w' [.row A 4 4 5 1 (bytesL (sz4 n))] := by
 have hst := St.refl w
 go_enter Tryd.func51, Tryd.ntmps51
 go_wp2_with (first
  | (refine L_buildS (d := some 14) rfl rfl rfl [_, _, _, _] (bs_4 (ev_tmp rfl) (ev_tmp rfl) (ev_tmp rfl) (ev_tmp rfl)) rfl Tryd.underlying49 el_uint8 rfl (by first | (simp [Value.cells]; done) | (simp [Value.cells, Dig.size]; done)) (by decide) (by decide) ?_; (try clear hnew); intro g14 W14 hnew; replace hst := hst.trans hnew; simp only [List.cons_append, List.nil_append] at hst; simp only [List.flatMap_cons, List.flatMap_nil, List.append_nil, Value.cells, List.toList_toArray] at hst)
  | fail)
 simp only [List.cons_append, List.nil_append] at hst
 rw [sz4_cells] at hst
 go_ret
 exact ⟨_, rfl, hst⟩
set_option maxHeartbeats 2000000 in
set_option maxRecDepth 100000 in
theorem rmark_any (key : List UInt8) (K : Option Addr) (m mc : Nat) (n : Int) (x y z : Dig) (w : World) (hk : SlR w K m mc 1 (bytesL key)) (hm : m ≤ 140737488355000) :
  Calls Tryd.prog 23 #[.slice K m mc, .agg (hdArr n x y z)] w fun e w' => e = .returned (markN key n x y).v ∧ St w w' [] := by
 have hst := St.refl w
 go_enter Tryd.func23, Tryd.ntmps23
 go_upto_region 1 with (first
  | (refine L_boxA (d := some 3) rfl rfl rfl (ev_tmp rfl) ?_; (try clear hnew); intro g3 W3 hnew; replace hst := hst.trans hnew; simp only [List.cons_append, List.nil_append] at hst)
  | (refine L_allocA (d := some 4) rfl rfl rfl el_api_Digest ?_; (try clear hnew); intro g4 W4 hnew; replace hst := hst.trans hnew; simp only [List.cons_append, List.nil_append] at hst)
  | fail)
 go_upto_region 2 with (first
  | (refine L_load1 (d := some 9) rfl rfl rfl (by rfl) Tryd.underlying3 rfl (by first | assumption | exact cell_of (hst.get 0 rfl) hdArr_0 | exact cell_of (hst.get 0 rfl) rfl | exact cell_of (hst.get 1 rfl) hdArr_0 | exact cell_of (hst.get 1 rfl) rfl | exact cell_of (hst.get 2 rfl) hdArr_0 | exact cell_of (hst.get 2 rfl) rfl | exact cell_of (hst.get 3 rfl) hdArr_0 | exact cell_of (hst.get 3 rfl) rfl) ?_)
  | (refine L_load1 (d := some 13) rfl rfl rfl (by rfl) Tryd.underlying3 rfl (by first | assumption | exact cell_of (hst.get 0 rfl) hdArr_0 | exact cell_of (hst.get 0 rfl) rfl | exact cell_of (hst.get 1 rfl) hdArr_0 | exact cell_of (hst.get 1 rfl) rfl | exact cell_of (hst.get 2 rfl) hdArr_0 | exact cell_of (hst.get 2 rfl) rfl | exact cell_of (hst.get 3 rfl) hdArr_0 | exact cell_of (hst.get 3 rfl) rfl) ?_)
  | (refine L_load1 (d := some 17) rfl rfl rfl (by rfl) Tryd.underlying3 rfl (by first | assumption | exact cell_of (hst.get 0 rfl) hdArr_0 | exact cell_of (hst.get 0 rfl) rfl | exact cell_of (hst.get 1 rfl) hdArr_0 | exact cell_of (hst.get 1 rfl) rfl | exact cell_of (hst.get 2 rfl) hdArr_0 | exact cell_of (hst.get 2 rfl) rfl | exact cell_of (hst.get 3 rfl) hdArr_0 | exact cell_of (hst.get 3 rfl) rfl) ?_)
  | (refine L_load1 (d := some 21) rfl rfl rfl (by rfl) Tryd.underlying3 rfl (by first | assumption | exact cell_of (hst.get 0 rfl) hdArr_0 | exact cell_of (hst.get 0 rfl) rfl | exact cell_of (hst.get 1 rfl) hdArr_0 | exact cell_of (hst.get 1 rfl) rfl | exact cell_of (hst.get 2 rfl) hdArr_0 | exact cell_of (hst.get 2 rfl) rfl | exact cell_of (hst.get 3 rfl) hdArr_0 | exact cell_of (hst.get 3 rfl) rfl) ?_)
  | (refine L_buildS (d := some 24) rfl rfl rfl [_, _, _, _, _] (bs_5 ev_const (ev_tmp rfl) (ev_tmp rfl) (ev_tmp rfl) (ev_tmp rfl)) rfl Tryd.underlying49 el_uint8 rfl (by first | (simp [Value.cells]; done) | (simp [Value.cells, Dig.size]; done)) (by decide) (by decide) ?_; (try clear hnew); intro g24 W24 hnew; replace hst := hst.trans hnew; simp only [List.cons_append, List.nil_append] at hst; simp only [List.flatMap_cons, List.flatMap_nil, List.append_nil, Value.cells, List.toList_toArray] at hst)
  | fail)
 simp only [List.cons_append, List.nil_append] at hst
 rw [mkHi_cells] at hst
 clear hnew
 go_upto_region 3 with (first
  | (go_at_call 51; (try clear hnew); refine (four_any n _).mono ?_; rintro e Wk1 ⟨A28, rfl, hnew⟩; replace hst := hst.trans hnew; simp only [List.cons_append, List.nil_append] at hst)
  | (refine L_load1 (d := some 27) rfl rfl rfl (by rfl) Tryd.underlying3 rfl (by first | assumption | exact cell_of (hst.get 0 rfl) hdArr_0 | exact cell_of (hst.get 0 rfl) rfl | exact cell_of (hst.get 1 rfl) hdArr_0 | exact cell_of (hst.get 1 rfl) rfl | exact cell_of (hst.get 2 rfl) hdArr_0 | exact cell_of (hst.get 2 rfl) rfl | exact cell_of (hst.get 3 rfl) hdArr_0 | exact cell_of (hst.get 3 rfl) rfl) ?_)
  | (refine L_appendO (d := some 29) rfl rfl hst rfl (by rfl) (by rfl) Tryd.underlying49 el_uint8 rfl (by decide) (by decide) 0 rfl (by first | rfl | omega) (by first | exact hst.sl 0 rfl | exact hst.sl 1 rfl | exact hst.sl 2 rfl | exact hst.sl 3 rfl | assumption | exact hst.old (by decide) (by assumption)) (by first | exact oneCell_bytes | (simp [Value.oneCell']; done)) (by omega) ?_; clear hst; intro A29 c29 W29 hst; simp only [List.set_cons_zero, List.set_cons_succ, List.nil_append, Nat.zero_add] at hst)
  | (refine L_appendO (d := some 29) rfl rfl hst rfl (by rfl) (by rfl) Tryd.underlying49 el_uint8 rfl (by decide) (by decide) 1 rfl (by first | rfl | omega) (by first | exact hst.sl 0 rfl | exact hst.sl 1 rfl | exact hst.sl 2 rfl | exact hst.sl 3 rfl | assumption | exact hst.old (by decide) (by assumption)) (by first | exact oneCell_bytes | (simp [Value.oneCell']; done)) (by omega) ?_; clear hst; intro A29 c29 W29 hst; simp only [List.set_cons_zero, List.set_cons_succ, List.nil_append, Nat.zero_add] at hst)
  | (refine L_appendO (d := some 29) rfl rfl hst rfl (by rfl) (by rfl) Tryd.underlying49 el_uint8 rfl (by decide) (by decide) 2 rfl (by first | rfl | omega) (by first | exact hst.sl 0 rfl | exact hst.sl 1 rfl | exact hst.sl 2 rfl | exact hst.sl 3 rfl | assumption | exact hst.old (by decide) (by assumption)) (by first | exact oneCell_bytes | (simp [Value.oneCell']; done)) (by omega) ?_; clear hst; intro A29 c29 W29 hst; simp only [List.set_cons_zero, List.set_cons_succ, List.nil_append, Nat.zero_add] at hst)
  | (refine L_appendO (d := some 29) rfl rfl hst rfl (by rfl) (by rfl) Tryd.underlying49 el_uint8 rfl (by decide) (by decide) 3 rfl (by first | rfl | omega) (by first | exact hst.sl 0 rfl | exact hst.sl 1 rfl | exact hst.sl 2 rfl | exact hst.sl 3 rfl | assumption | exact hst.old (by decide) (by assumption)) (by first | exact oneCell_bytes | (simp [Value.oneCell']; done)) (by omega) ?_; clear hst; intro A29 c29 W29 hst; simp only [List.set_cons_zero, List.set_cons_succ, List.nil_append, Nat.zero_add] at hst)
  | (refine L_appendF (d := some 29) rfl rfl rfl (by rfl) (by rfl) Tryd.underlying49 el_uint8 rfl (by decide) (by assumption) (by first | assumption | exact hst.sl 0 rfl | exact hst.sl 1 rfl | exact hst.sl 2 rfl | exact hst.sl 3 rfl | assumption | exact hst.old (by decide) (by assumption)) (by omega) (by omega) (by omega) ?_; (try clear hnew); intro A29 c29 W29 hnew; replace hst := hst.trans hnew; simp only [List.cons_append, List.nil_append] at hst)
  | fail)
 (try clear hnew)
 replace hst := hst.tail
 rw [← bytesL_append, show mkHi n ++ sz4 n = List.cons 13 (sz8 n) from rfl] at hst
 have HB := Lib.hid (show bytesL (List.cons 13 (sz8 n)) ++ x.arr.toList ++ y.arr.toList = bytesL (List.cons 13 (sz8 n ++ (x.l ++ y.l))) by
  rw [Dig.toList, Dig.toList, ← bytesL_append, ← bytesL_append, List.cons_append, List.cons_append, List.append_assoc])
 generalize bytesL (List.cons 13 (sz8 n)) = hd at *
 go_upto_region 4 with (first
  | (first | (refine L_loadA (d := some 31) rfl rfl rfl (by rfl) Tryd.underlying23 rfl el_api_Digest (by first | exact hst.get 0 rfl | exact hst.get 1 rfl | exact hst.get 2 rfl | exact hst.get 3 rfl | exact hst.get 4 rfl) (by first | rfl | exact Dig.size _ | (simp; done)) ?_) | (refine L_loadM (d := some 31) rfl rfl rfl (by rfl) Tryd.underlying23 rfl el_api_Digest (by first | assumption | exact hdArr_root (hst.get 2 rfl) | exact hdArr_map (hst.get 3 rfl)) (by first | rfl | exact Dig.size _ | (simp; done)) ?_))
  | (refine L_allocA (d := some 6) rfl rfl rfl el_api_Digest ?_; (try clear hnew); intro g6 W6 hnew; replace hst := hst.trans hnew; simp only [List.cons_append, List.nil_append] at hst)
  | (refine wpl_at (.store 23 (.tmp 6) (.tmp 31)) rfl ?_; first | (refine L_storeA rfl rfl hst rfl (by rfl) (ev_tmp rfl) (by first | rfl | exact Dig.one _ | (simp; done)) el_api_Digest (by first | rfl | exact Dig.size _ | (simp; done)) 0 rfl (by first | rfl | exact Dig.size _ | (simp; done)) ?_; clear hst; intro WS3 hst; simp only [List.set_cons_zero, List.set_cons_succ] at hst) | (refine L_storeA rfl rfl hst rfl (by rfl) (ev_tmp rfl) (by first | rfl | exact Dig.one _ | (simp; done)) el_api_Digest (by first | rfl | exact Dig.size _ | (simp; done)) 1 rfl (by first | rfl | exact Dig.size _ | (simp; done)) ?_; clear hst; intro WS3 hst; simp only [List.set_cons_zero, List.set_cons_succ] at hst) | (refine L_storeA rfl rfl hst rfl (by rfl) (ev_tmp rfl) (by first | rfl | exact Dig.one _ | (simp; done)) el_api_Digest (by first | rfl | exact Dig.size _ | (simp; done)) 2 rfl (by first | rfl | exact Dig.size _ | (simp; done)) ?_; clear hst; intro WS3 hst; simp only [List.set_cons_zero, List.set_cons_succ] at hst) | (refine L_storeA rfl rfl hst rfl (by rfl) (ev_tmp rfl) (by first | rfl | exact Dig.one _ | (simp; done)) el_api_Digest (by first | rfl | exact Dig.size _ | (simp; done)) 3 rfl (by first | rfl | exact Dig.size _ | (simp; done)) ?_; clear hst; intro WS3 hst; simp only [List.set_cons_zero, List.set_cons_succ] at hst) | (refine L_storeA rfl rfl hst rfl (by rfl) (ev_tmp rfl) (by first | rfl | exact Dig.one _ | (simp; done)) el_api_Digest (by first | rfl | exact Dig.size _ | (simp; done)) 4 rfl (by first | rfl | exact Dig.size _ | (simp; done)) ?_; clear hst; intro WS3 hst; simp only [List.set_cons_zero, List.set_cons_succ] at hst) | (refine L_storeM rfl rfl hst rfl (by rfl) (ev_tmp rfl) (by first | rfl | exact Dig.one _ | (simp; done)) el_api_Digest (by first | rfl | exact Dig.size _ | (simp; done)) 0 rfl (by first | exact of_decide_eq_true rfl | (simp; done)) ?_; clear hst; intro WS3 hst; simp only [List.set_cons_zero, List.set_cons_succ] at hst)  | (refine L_storeM rfl rfl hst rfl (by rfl) (ev_tmp rfl) (by first | rfl | exact Dig.one _ | (simp; done)) el_api_Digest (by first | rfl | exact Dig.size _ | (simp; done)) 1 rfl (by first | exact of_decide_eq_true rfl | (simp; done)) ?_; clear hst; intro WS3 hst; simp only [List.set_cons_zero, List.set_cons_succ] at hst)  | (refine L_storeM rfl rfl hst rfl (by rfl) (ev_tmp rfl) (by first | rfl | exact Dig.one _ | (simp; done)) el_api_Digest (by first | rfl | exact Dig.size _ | (simp; done)) 2 rfl (by first | exact of_decide_eq_true rfl | (simp; done)) ?_; clear hst; intro WS3 hst; simp only [List.set_cons_zero, List.set_cons_succ] at hst)  | (refine L_storeM rfl rfl hst rfl (by rfl) (ev_tmp rfl) (by first | rfl | exact Dig.one _ | (simp; done)) el_api_Digest (by first | rfl | exact Dig.size _ | (simp; done)) 3 rfl (by first | exact of_decide_eq_true rfl | (simp; done)) ?_; clear hst; intro WS3 hst; simp only [List.set_cons_zero, List.set_cons_succ] at hst)  | (refine L_storeM rfl rfl hst rfl (by rfl) (ev_tmp rfl) (by first | rfl | exact Dig.one _ | (simp; done)) el_api_Digest (by first | rfl | exact Dig.size _ | (simp; done)) 4 rfl (by first | exact of_decide_eq_true rfl | (simp; done)) ?_; clear hst; intro WS3 hst; simp only [List.set_cons_zero, List.set_cons_succ] at hst))
  | fail)
 go_upto_region 5 with (first
  | (first | (refine L_loadA (d := some 33) rfl rfl rfl (by rfl) Tryd.underlying23 rfl el_api_Digest (by first | exact hst.get 0 rfl | exact hst.get 1 rfl | exact hst.get 2 rfl | exact hst.get 3 rfl | exact hst.get 4 rfl) (by first | rfl | exact Dig.size _ | (simp; done)) ?_) | (refine L_loadM (d := some 33) rfl rfl rfl (by rfl) Tryd.underlying23 rfl el_api_Digest (by first | assumption | exact hdArr_root (hst.get 2 rfl) | exact hdArr_map (hst.get 3 rfl)) (by first | rfl | exact Dig.size _ | (simp; done)) ?_))
  | (refine L_allocA (d := some 7) rfl rfl rfl el_api_Digest ?_; (try clear hnew); intro g7 W7 hnew; replace hst := hst.trans hnew; simp only [List.cons_append, List.nil_append] at hst)
  | (refine wpl_at (.store 23 (.tmp 7) (.tmp 33)) rfl ?_; first | (refine L_storeA rfl rfl hst rfl (by rfl) (ev_tmp rfl) (by first | rfl | exact Dig.one _ | (simp; done)) el_api_Digest (by first | rfl | exact Dig.size _ | (simp; done)) 0 rfl (by first | rfl | exact Dig.size _ | (simp; done)) ?_; clear hst; intro WS3 hst; simp only [List.set_cons_zero, List.set_cons_succ] at hst) | (refine L_storeA rfl rfl hst rfl (by rfl) (ev_tmp rfl) (by first | rfl | exact Dig.one _ | (simp; done)) el_api_Digest (by first | rfl | exact Dig.size _ | (simp; done)) 1 rfl (by first | rfl | exact Dig.size _ | (simp; done)) ?_; clear hst; intro WS3 hst; simp only [List.set_cons_zero, List.set_cons_succ] at hst) | (refine L_storeA rfl rfl hst rfl (by rfl) (ev_tmp rfl) (by first | rfl | exact Dig.one _ | (simp; done)) el_api_Digest (by first | rfl | exact Dig.size _ | (simp; done)) 2 rfl (by first | rfl | exact Dig.size _ | (simp; done)) ?_; clear hst; intro WS3 hst; simp only [List.set_cons_zero, List.set_cons_succ] at hst) | (refine L_storeA rfl rfl hst rfl (by rfl) (ev_tmp rfl) (by first | rfl | exact Dig.one _ | (simp; done)) el_api_Digest (by first | rfl | exact Dig.size _ | (simp; done)) 3 rfl (by first | rfl | exact Dig.size _ | (simp; done)) ?_; clear hst; intro WS3 hst; simp only [List.set_cons_zero, List.set_cons_succ] at hst) | (refine L_storeA rfl rfl hst rfl (by rfl) (ev_tmp rfl) (by first | rfl | exact Dig.one _ | (simp; done)) el_api_Digest (by first | rfl | exact Dig.size _ | (simp; done)) 4 rfl (by first | rfl | exact Dig.size _ | (simp; done)) ?_; clear hst; intro WS3 hst; simp only [List.set_cons_zero, List.set_cons_succ] at hst) | (refine L_storeM rfl rfl hst rfl (by rfl) (ev_tmp rfl) (by first | rfl | exact Dig.one _ | (simp; done)) el_api_Digest (by first | rfl | exact Dig.size _ | (simp; done)) 0 rfl (by first | exact of_decide_eq_true rfl | (simp; done)) ?_; clear hst; intro WS3 hst; simp only [List.set_cons_zero, List.set_cons_succ] at hst)  | (refine L_storeM rfl rfl hst rfl (by rfl) (ev_tmp rfl) (by first | rfl | exact Dig.one _ | (simp; done)) el_api_Digest (by first | rfl | exact Dig.size _ | (simp; done)) 1 rfl (by first | exact of_decide_eq_true rfl | (simp; done)) ?_; clear hst; intro WS3 hst; simp only [List.set_cons_zero, List.set_cons_succ] at hst)  | (refine L_storeM rfl rfl hst rfl (by rfl) (ev_tmp rfl) (by first | rfl | exact Dig.one _ | (simp; done)) el_api_Digest (by first | rfl | exact Dig.size _ | (simp; done)) 2 rfl (by first | exact of_decide_eq_true rfl | (simp; done)) ?_; clear hst; intro WS3 hst; simp only [List.set_cons_zero, List.set_cons_succ] at hst)  | (refine L_storeM rfl rfl hst rfl (by rfl) (ev_tmp rfl) (by first | rfl | exact Dig.one _ | (simp; done)) el_api_Digest (by first | rfl | exact Dig.size _ | (simp; done)) 3 rfl (by first | exact of_decide_eq_true rfl | (simp; done)) ?_; clear hst; intro WS3 hst; simp only [List.set_cons_zero, List.set_cons_succ] at hst)  | (refine L_storeM rfl rfl hst rfl (by rfl) (ev_tmp rfl) (by first | rfl | exact Dig.one _ | (simp; done)) el_api_Digest (by first | rfl | exact Dig.size _ | (simp; done)) 4 rfl (by first | exact of_decide_eq_true rfl | (simp; done)) ?_; clear hst; intro WS3 hst; simp only [List.set_cons_zero, List.set_cons_succ] at hst))
  | fail)
 go_upto_region 6 with (first
  | (refine L_sliceAll (d := some 35) rfl rfl rfl (by rfl) Tryd.underlying23 el_uint8 (by first | exact hst.get 0 rfl | exact hst.get 1 rfl | exact hst.get 2 rfl | exact hst.get 3 rfl | exact hst.get 4 rfl) (by first | rfl | exact Dig.size _ | (simp; done)) (by decide) ?_; intro hs35)
  | (refine L_appendO (d := some 36) rfl rfl hst rfl (by rfl) (by rfl) Tryd.underlying49 el_uint8 rfl (by decide) (by decide) 0 rfl (by first | rfl | omega) (by first | exact hst.sl 0 rfl | exact hst.sl 1 rfl | exact hst.sl 2 rfl | exact hst.sl 3 rfl | exact hst.sl 4 rfl | assumption | exact hst.old (by decide) (by assumption)) (by first | exact oneCell_bytes | (simp [Value.oneCell']; done) | exact Dig.oneR _) (by omega) ?_; clear hst; intro A36 c36 W36 hst; simp only [List.set_cons_zero, List.set_cons_succ, List.nil_append, Nat.zero_add] at hst)
  | (refine L_appendO (d := some 36) rfl rfl hst rfl (by rfl) (by rfl) Tryd.underlying49 el_uint8 rfl (by decide) (by decide) 1 rfl (by first | rfl | omega) (by first | exact hst.sl 0 rfl | exact hst.sl 1 rfl | exact hst.sl 2 rfl | exact hst.sl 3 rfl | exact hst.sl 4 rfl | assumption | exact hst.old (by decide) (by assumption)) (by first | exact oneCell_bytes | (simp [Value.oneCell']; done) | exact Dig.oneR _) (by omega) ?_; clear hst; intro A36 c36 W36 hst; simp only [List.set_cons_zero, List.set_cons_succ, List.nil_append, Nat.zero_add] at hst)
  | (refine L_appendO (d := some 36) rfl rfl hst rfl (by rfl) (by rfl) Tryd.underlying49 el_uint8 rfl (by decide) (by decide) 2 rfl (by first | rfl | omega) (by first | exact hst.sl 0 rfl | exact hst.sl 1 rfl | exact hst.sl 2 rfl | exact hst.sl 3 rfl | exact hst.sl 4 rfl | assumption | exact hst.old (by decide) (by assumption)) (by first | exact oneCell_bytes | (simp [Value.oneCell']; done) | exact Dig.oneR _) (by omega) ?_; clear hst; intro A36 c36 W36 hst; simp only [List.set_cons_zero, List.set_cons_succ, List.nil_append, Nat.zero_add] at hst)
  | (refine L_appendO (d := some 36) rfl rfl hst rfl (by rfl) (by rfl) Tryd.underlying49 el_uint8 rfl (by decide) (by decide) 3 rfl (by first | rfl | omega) (by first | exact hst.sl 0 rfl | exact hst.sl 1 rfl | exact hst.sl 2 rfl | exact hst.sl 3 rfl | exact hst.sl 4 rfl | assumption | exact hst.old (by decide) (by assumption)) (by first | exact oneCell_bytes | (simp [Value.oneCell']; done) | exact Dig.oneR _) (by omega) ?_; clear hst; intro A36 c36 W36 hst; simp only [List.set_cons_zero, List.set_cons_succ, List.nil_append, Nat.zero_add] at hst)
  | (refine L_appendO (d := some 36) rfl rfl hst rfl (by rfl) (by rfl) Tryd.underlying49 el_uint8 rfl (by decide) (by decide) 4 rfl (by first | rfl | omega) (by first | exact hst.sl 0 rfl | exact hst.sl 1 rfl | exact hst.sl 2 rfl | exact hst.sl 3 rfl | exact hst.sl 4 rfl | assumption | exact hst.old (by decide) (by assumption)) (by first | exact oneCell_bytes | (simp [Value.oneCell']; done) | exact Dig.oneR _) (by omega) ?_; clear hst; intro A36 c36 W36 hst; simp only [List.set_cons_zero, List.set_cons_succ, List.nil_append, Nat.zero_add] at hst)
  | (refine L_appendF (d := some 36) rfl rfl rfl (by rfl) (by rfl) Tryd.underlying49 el_uint8 rfl (by decide) (by assumption) (by first | assumption | exact hst.sl 0 rfl | exact hst.sl 1 rfl | exact hst.sl 2 rfl | exact hst.sl 3 rfl | exact hst.sl 4 rfl | assumption | exact hst.old (by decide) (by assumption)) (by omega) (by omega) (by omega) ?_; (try clear hnew); intro A36 c36 W36 hnew; replace hst := hst.trans hnew; simp only [List.cons_append, List.nil_append] at hst)
  | fail)
 go_wp2_with (first
  | (go_at_call 52; (try clear hnew); with_reducible refine (rmac_any key (List.cons 13 (sz8 n ++ (x.l ++ y.l))) _ _ _ _ _ _ _ (hst.old (by decide) hk) (by rw [← HB.out]; exact hst.sl 2 rfl) hm (by omega)).mono ?_; rintro e Wk2 ⟨rfl, hnew⟩; replace hst := hst.keep hnew)
  | (refine L_sliceAll (d := some 39) rfl rfl rfl (by rfl) Tryd.underlying23 el_uint8 (by first | exact hst.get 0 rfl | exact hst.get 1 rfl | exact hst.get 2 rfl | exact hst.get 3 rfl | exact hst.get 4 rfl) (by first | rfl | exact Dig.size _ | (simp; done)) (by decide) ?_; intro hs39)
  | (refine L_appendO (d := some 40) rfl rfl hst rfl (by rfl) (by rfl) Tryd.underlying49 el_uint8 rfl (by decide) (by decide) 0 rfl (by first | rfl | omega) (by first | exact hst.sl 0 rfl | exact hst.sl 1 rfl | exact hst.sl 2 rfl | exact hst.sl 3 rfl | exact hst.sl 4 rfl | assumption | exact hst.old (by decide) (by assumption)) (by first | exact oneCell_bytes | (simp [Value.oneCell']; done) | exact Dig.oneR _) (by omega) ?_; clear hst; intro A40 c40 W40 hst; simp only [List.set_cons_zero, List.set_cons_succ, List.nil_append, Nat.zero_add] at hst)
  | (refine L_appendO (d := some 40) rfl rfl hst rfl (by rfl) (by rfl) Tryd.underlying49 el_uint8 rfl (by decide) (by decide) 1 rfl (by first | rfl | omega) (by first | exact hst.sl 0 rfl | exact hst.sl 1 rfl | exact hst.sl 2 rfl | exact hst.sl 3 rfl | exact hst.sl 4 rfl | assumption | exact hst.old (by decide) (by assumption)) (by first | exact oneCell_bytes | (simp [Value.oneCell']; done) | exact Dig.oneR _) (by omega) ?_; clear hst; intro A40 c40 W40 hst; simp only [List.set_cons_zero, List.set_cons_succ, List.nil_append, Nat.zero_add] at hst)
  | (refine L_appendO (d := some 40) rfl rfl hst rfl (by rfl) (by rfl) Tryd.underlying49 el_uint8 rfl (by decide) (by decide) 2 rfl (by first | rfl | omega) (by first | exact hst.sl 0 rfl | exact hst.sl 1 rfl | exact hst.sl 2 rfl | exact hst.sl 3 rfl | exact hst.sl 4 rfl | assumption | exact hst.old (by decide) (by assumption)) (by first | exact oneCell_bytes | (simp [Value.oneCell']; done) | exact Dig.oneR _) (by omega) ?_; clear hst; intro A40 c40 W40 hst; simp only [List.set_cons_zero, List.set_cons_succ, List.nil_append, Nat.zero_add] at hst)
  | (refine L_appendO (d := some 40) rfl rfl hst rfl (by rfl) (by rfl) Tryd.underlying49 el_uint8 rfl (by decide) (by decide) 3 rfl (by first | rfl | omega) (by first | exact hst.sl 0 rfl | exact hst.sl 1 rfl | exact hst.sl 2 rfl | exact hst.sl 3 rfl | exact hst.sl 4 rfl | assumption | exact hst.old (by decide) (by assumption)) (by first | exact oneCell_bytes | (simp [Value.oneCell']; done) | exact Dig.oneR _) (by omega) ?_; clear hst; intro A40 c40 W40 hst; simp only [List.set_cons_zero, List.set_cons_succ, List.nil_append, Nat.zero_add] at hst)
  | (refine L_appendO (d := some 40) rfl rfl hst rfl (by rfl) (by rfl) Tryd.underlying49 el_uint8 rfl (by decide) (by decide) 4 rfl (by first | rfl | omega) (by first | exact hst.sl 0 rfl | exact hst.sl 1 rfl | exact hst.sl 2 rfl | exact hst.sl 3 rfl | exact hst.sl 4 rfl | assumption | exact hst.old (by decide) (by assumption)) (by first | exact oneCell_bytes | (simp [Value.oneCell']; done) | exact Dig.oneR _) (by omega) ?_; clear hst; intro A40 c40 W40 hst; simp only [List.set_cons_zero, List.set_cons_succ, List.nil_append, Nat.zero_add] at hst)
  | (refine L_appendF (d := some 40) rfl rfl rfl (by rfl) (by rfl) Tryd.underlying49 el_uint8 rfl (by decide) (by assumption) (by first | assumption | exact hst.sl 0 rfl | exact hst.sl 1 rfl | exact hst.sl 2 rfl | exact hst.sl 3 rfl | exact hst.sl 4 rfl | assumption | exact hst.old (by decide) (by assumption)) (by omega) (by omega) (by omega) ?_; (try clear hnew); intro A40 c40 W40 hnew; replace hst := hst.trans hnew; simp only [List.cons_append, List.nil_append] at hst)
  | (refine wpl_at (.store 23 (.tmp 4) (.tmp 41)) rfl ?_; first | (refine L_storeA rfl rfl hst rfl (by rfl) (ev_tmp rfl) (by first | rfl | exact Dig.one _ | exact Dig.oneR _ | (simp; done)) el_api_Digest (by first | rfl | exact Dig.size _ | (simp; done)) 0 rfl (by first | rfl | exact Dig.size _ | (simp; done)) ?_; clear hst; intro WS5 hst; simp only [List.set_cons_zero, List.set_cons_succ] at hst) | (refine L_storeA rfl rfl hst rfl (by rfl) (ev_tmp rfl) (by first | rfl | exact Dig.one _ | exact Dig.oneR _ | (simp; done)) el_api_Digest (by first | rfl | exact Dig.size _ | (simp; done)) 1 rfl (by first | rfl | exact Dig.size _ | (simp; done)) ?_; clear hst; intro WS5 hst; simp only [List.set_cons_zero, List.set_cons_succ] at hst) | (refine L_storeA rfl rfl hst rfl (by rfl) (ev_tmp rfl) (by first | rfl | exact Dig.one _ | exact Dig.oneR _ | (simp; done)) el_api_Digest (by first | rfl | exact Dig.size _ | (simp; done)) 2 rfl (by first | rfl | exact Dig.size _ | (simp; done)) ?_; clear hst; intro WS5 hst; simp only [List.set_cons_zero, List.set_cons_succ] at hst) | (refine L_storeA rfl rfl hst rfl (by rfl) (ev_tmp rfl) (by first | rfl | exact Dig.one _ | exact Dig.oneR _ | (simp; done)) el_api_Digest (by first | rfl | exact Dig.size _ | (simp; done)) 3 rfl (by first | rfl | exact Dig.size _ | (simp; done)) ?_; clear hst; intro WS5 hst; simp only [List.set_cons_zero, List.set_cons_succ] at hst) | (refine L_storeA rfl rfl hst rfl (by rfl) (ev_tmp rfl) (by first | rfl | exact Dig.one _ | exact Dig.oneR _ | (simp; done)) el_api_Digest (by first | rfl | exact Dig.size _ | (simp; done)) 4 rfl (by first | rfl | exact Dig.size _ | (simp; done)) ?_; clear hst; intro WS5 hst; simp only [List.set_cons_zero, List.set_cons_succ] at hst) | (refine L_storeM rfl rfl hst rfl (by rfl) (ev_tmp rfl) (by first | rfl | exact Dig.one _ | exact Dig.oneR _ | (simp; done)) el_api_Digest (by first | rfl | exact Dig.size _ | (simp; done)) 0 rfl (by first | exact of_decide_eq_true rfl | (simp; done)) ?_; clear hst; intro WS5 hst; simp only [List.set_cons_zero, List.set_cons_succ] at hst)  | (refine L_storeM rfl rfl hst rfl (by rfl) (ev_tmp rfl) (by first | rfl | exact Dig.one _ | exact Dig.oneR _ | (simp; done)) el_api_Digest (by first | rfl | exact Dig.size _ | (simp; done)) 1 rfl (by first | exact of_decide_eq_true rfl | (simp; done)) ?_; clear hst; intro WS5 hst; simp only [List.set_cons_zero, List.set_cons_succ] at hst)  | (refine L_storeM rfl rfl hst rfl (by rfl) (ev_tmp rfl) (by first | rfl | exact Dig.one _ | exact Dig.oneR _ | (simp; done)) el_api_Digest (by first | rfl | exact Dig.size _ | (simp; done)) 2 rfl (by first | exact of_decide_eq_true rfl | (simp; done)) ?_; clear hst; intro WS5 hst; simp only [List.set_cons_zero, List.set_cons_succ] at hst)  | (refine L_storeM rfl rfl hst rfl (by rfl) (ev_tmp rfl) (by first | rfl | exact Dig.one _ | exact Dig.oneR _ | (simp; done)) el_api_Digest (by first | rfl | exact Dig.size _ | (simp; done)) 3 rfl (by first | exact of_decide_eq_true rfl | (simp; done)) ?_; clear hst; intro WS5 hst; simp only [List.set_cons_zero, List.set_cons_succ] at hst)  | (refine L_storeM rfl rfl hst rfl (by rfl) (ev_tmp rfl) (by first | rfl | exact Dig.one _ | exact Dig.oneR _ | (simp; done)) el_api_Digest (by first | rfl | exact Dig.size _ | (simp; done)) 4 rfl (by first | exact of_decide_eq_true rfl | (simp; done)) ?_; clear hst; intro WS5 hst; simp only [List.set_cons_zero, List.set_cons_succ] at hst))
  | fail)
 refine bp_cell rfl rfl rfl (hst.get 3 rfl) Tryd.underlying23 rfl el_api_Digest (by first | rfl | exact Dig.size _ | (simp; done)) ?_
 exact ⟨rfl, hst.forget⟩
end Go.Proofs.YtkbleigmfcleaaaDoor

set_option maxRecDepth 20000
set_option linter.unusedSimpArgs false
set_option linter.unusedVariables false
namespace Go.Proofs.YtkbleigmfcleaaaDoor
open Go.RowKit
theorem el_S_int : ElemIs Tryd.prog 44 (.slice none 0 0) 1 24 := by unfold ElemIs; kernel_rfl
structure Keys (w : World) (kf : Nat → Piece) (K : Option Addr) (k kc : Nat) : Prop where
 row : SlR w K k kc 1 ((List.range k).map fun i => (kf i).v)
 each : ∀ i, i < k → SlR w (kf i).1 (kf i).2.1 (kf i).2.2.1 1 (bytesL (kf i).2.2.2)
 small : ∀ i, i < k → (kf i).2.1 ≤ 140737488355000
theorem Keys.of {w w' : World} {L : List Res} {kf : Nat → Piece} {K : Option Addr} {k kc : Nat} (h : Keys w kf K k kc) (hst : St w w' L) : Keys w' kf K k kc :=
 ⟨hst.old (by decide) h.row, fun i hi => hst.old (by decide) (h.each i hi), h.small⟩
theorem rightK (kf : Nat → Piece) (K : Option Addr) (k kc : Nat) (n : Int) (x y z : Dig) (ss : List (Int × Dig)) (S : Option Addr) (m sc : Nat) (w : World) (hT : Tb w) (hk : Keys w kf K k kc) (hs : SlR w S m sc 33 (pairsL ss)) (h40 : k ≤ 40) :
  Calls Tryd.prog 20 #[.slice K k kc, .agg (hdArr n x y z), .slice S m sc] w fun e w' => ∃ O oc, e = .returned (.slice O (rightL (sealP kf n x y ss) k).length oc) ∧ St w w' [.row O (rightL (sealP kf n x y ss) k).length oc 3 1 (natsL (rightL (sealP kf n x y ss) k))] :=
 right_any kf K k kc n x y z ss S m sc w hT hk.row hk.each hk.small hs h40
set_option maxHeartbeats 1000000 in
theorem enough_any (kf : Nat → Piece) (K : Option Addr) (k kc : Nat) (need n : Int) (x y z : Dig) (ss : List (Int × Dig)) (S : Option Addr) (m sc : Nat) (w : World) (hT : Tb w) (hk : Keys w kf K k kc) (hs : SlR w S m sc 33 (pairsL ss)) (h40 : k ≤ 40) :
  Calls Tryd.prog 27 #[.slice K k kc, .int .i64 need, .agg (hdArr n x y z), .slice S m sc] w fun e w' => e = .returned (.bool (decide (need ≤ ((rightL (sealP kf n x y ss) k).length : Int)))) ∧ St w w' [] := by
 have hst := St.refl w
 have HR := Lib.hid (fun w hT hk hs => rightK kf K k kc n x y z ss S m sc w hT hk hs h40)
 generalize rightL (sealP kf n x y ss) k = l at *
 have HT := Lib.hid hT
 have HK := Lib.hid hk
 clear hT hk
 go_enter Tryd.func27, Tryd.ntmps27
 go_wp2_with (first
  | (go_at_call 20; (try clear hnew); refine (HR.out _ (HT.out.of hst) (HK.out.of hst) (hst.old (by decide) hs)).mono ?_; rintro e Wk1 ⟨A12, c12, rfl, hnew⟩; replace hst := hst.trans hnew; simp only [List.cons_append, List.nil_append] at hst)
  | (refine L_boxA (d := some 6) rfl rfl rfl (ev_tmp rfl) ?_; (try clear hnew); intro g6 W6 hnew; replace hst := hst.trans hnew; simp only [List.cons_append, List.nil_append] at hst)
  | (first | (refine L_loadA (d := some 10) rfl rfl rfl (by rfl) Tryd.underlying39 rfl el_api_Head (by first | exact hst.get 0 rfl) (by first | exact Dig.size _ | exact hdArr_size _ _ _ _ | rfl | (simp; done)) ?_) | (refine L_loadM (d := some 10) rfl rfl rfl (by rfl) Tryd.underlying39 rfl el_api_Head (by first | assumption) (by first | exact Dig.size _ | exact hdArr_size _ _ _ _ | rfl | (simp; done)) ?_))
  | fail)
 go_ret
 exact ⟨rfl, hst.forget⟩
set_option maxHeartbeats 2000000 in
theorem both_any (kf : Nat → Piece) (K : Option Addr) (k kc : Nat) (n : Int) (x y z : Dig) (ss : List (Int × Dig)) (S : Option Addr) (m sc : Nat) (n' : Int) (x' y' z' : Dig) (ts : List (Int × Dig)) (S' : Option Addr) (m' sc' : Nat) (w : World) (hT : Tb w) (hk : Keys w kf K k kc) (hs : SlR w S m sc 33 (pairsL ss)) (hs' : SlR w S' m' sc' 33 (pairsL ts)) (h40 : k ≤ 40) :
  Calls Tryd.prog 26 #[.slice K k kc, .agg (hdArr n x y z), .slice S m sc, .agg (hdArr n' x' y' z'), .slice S' m' sc'] w fun e w' => ∃ O oc, e = .returned (.slice O (rightL (fun i => sealP kf n x y ss i && sealP kf n' x' y' ts i) k).length oc) ∧ St w w' [.row O (rightL (fun i => sealP kf n x y ss i && sealP kf n' x' y' ts i) k).length oc 3 1 (natsL (rightL (fun i => sealP kf n x y ss i && sealP kf n' x' y' ts i) k))] := by
 have hst := St.refl w
 have HB := Lib.hid (rightL_both (sealP kf n x y ss) (sealP kf n' x' y' ts) k)
 have HR := Lib.hid (fun w hT hk hs => rightK kf K k kc n x y z ss S m sc w hT hk hs h40)
 have HR' := Lib.hid (fun w hT hk hs => rightK kf K k kc n' x' y' z' ts S' m' sc' w hT hk hs h40)
 generalize rightL (sealP kf n x y ss) k = l at *
 generalize rightL (sealP kf n' x' y' ts) k = l' at *
 rw [← HB.out]
 have HT := Lib.hid hT
 have HK := Lib.hid hk
 clear hT hk
 go_enter Tryd.func26, Tryd.ntmps26
 go_upto_region 1 with (first
  | (refine L_boxA (d := some 6) rfl rfl rfl (ev_tmp rfl) ?_; (try clear hnew); intro g6 W6 hnew; replace hst := hst.trans hnew; simp only [List.cons_append, List.nil_append] at hst)
  | (refine L_boxA (d := some 8) rfl rfl rfl (ev_tmp rfl) ?_; (try clear hnew); intro g8 W8 hnew; replace hst := hst.trans hnew; simp only [List.cons_append, List.nil_append] at hst)
  | fail)
 go_upto_region 2 with (first
  | (go_at_call 20; (try clear hnew); refine (HR'.out _ (HT.out.of hst) (HK.out.of hst) (hst.old (by decide) hs')).mono ?_; rintro e Wk2 ⟨A15, c15, rfl, hnew⟩; replace hst := hst.trans hnew; simp only [List.cons_append, List.nil_append] at hst)
  | (first | (refine L_loadA (d := some 13) rfl rfl rfl (by rfl) Tryd.underlying39 rfl el_api_Head (by first | exact hst.get 0 rfl | exact hst.get 1 rfl | exact hst.get 2 rfl) (by first | exact Dig.size _ | exact hdArr_size _ _ _ _ | rfl | (simp; done)) ?_) | (refine L_loadM (d := some 13) rfl rfl rfl (by rfl) Tryd.underlying39 rfl el_api_Head (by first | assumption) (by first | exact Dig.size _ | exact hdArr_size _ _ _ _ | rfl | (simp; done)) ?_))
  | (refine L_alloc1 (d := some 11) rfl rfl rfl el_S_int rfl ?_; (try clear hnew); intro g11 W11 hnew; replace hst := hst.trans hnew; simp only [List.cons_append, List.nil_append] at hst)
  | (refine wpl_at (.store 44 (.tmp 11) (.tmp 15)) rfl ?_; first | (refine L_store1 rfl rfl hst rfl (by rfl) (ev_tmp rfl) rfl el_S_int 0 rfl (by first | exact of_decide_eq_true rfl | omega | (simp; done) | (simp; omega)) ?_; clear hst; intro WS5 hst; simp only [List.set_cons_zero, List.set_cons_succ] at hst) | (refine L_store1 rfl rfl hst rfl (by rfl) (ev_tmp rfl) rfl el_S_int 1 rfl (by first | exact of_decide_eq_true rfl | omega | (simp; done) | (simp; omega)) ?_; clear hst; intro WS5 hst; simp only [List.set_cons_zero, List.set_cons_succ] at hst) | (refine L_store1 rfl rfl hst rfl (by rfl) (ev_tmp rfl) rfl el_S_int 2 rfl (by first | exact of_decide_eq_true rfl | omega | (simp; done) | (simp; omega)) ?_; clear hst; intro WS5 hst; simp only [List.set_cons_zero, List.set_cons_succ] at hst))
  | fail)
 (try clear hnew)
 go_wp2_with (first
  | (go_at_call 20; (try clear hnew); refine (HR.out _ (HT.out.of hst) (HK.out.of hst) (hst.old (by decide) hs)).mono ?_; rintro e Wk3 ⟨A19, c19, rfl, hnew⟩; replace hst := hst.trans hnew; simp only [List.cons_append, List.nil_append] at hst)
  | (go_at_call 53; (try clear hnew); refine (delF_any l l' _ _ _ _ hst 0 1 2 (by decide) (by decide) rfl rfl rfl).mono ?_; rintro e Wd ⟨rfl, hst'⟩; clear hst; have hst := hst'; clear hst'; simp only [List.set_cons_zero] at hst)
  | (first | (refine L_loadA (d := some 17) rfl rfl rfl (by rfl) Tryd.underlying39 rfl el_api_Head (by first | exact hst.get 0 rfl | exact hst.get 1 rfl | exact hst.get 2 rfl | exact hst.get 3 rfl) (by first | exact Dig.size _ | exact hdArr_size _ _ _ _ | rfl | (simp; done)) ?_) | (refine L_loadM (d := some 17) rfl rfl rfl (by rfl) Tryd.underlying39 rfl el_api_Head (by first | assumption) (by first | exact Dig.size _ | exact hdArr_size _ _ _ _ | rfl | (simp; done)) ?_))
  | fail)
 go_ret
 exact ⟨_, _, rfl, hst.pick [0] (by decide)⟩
set_option maxHeartbeats 2000000 in
set_option maxRecDepth 100000 in
theorem sealed_any (key : List UInt8) (K : Option Addr) (k kc : Nat) (who n : Int) (x y z : Dig) (ss : List (Int × Dig)) (S : Option Addr) (m sc : Nat) (w : World) (hk : SlR w K k kc 1 (bytesL key)) (hkm : k ≤ 140737488355000) (hs : SlR w S m sc 33 (pairsL ss)) :
  Calls Tryd.prog 24 #[.slice K k kc, .int .i64 who, .agg (hdArr n x y z), .slice S m sc] w fun e w' => e = .returned (.bool (decide ((who, markN key n x y) ∈ ss))) ∧ St w w' [] := by
 have hst := St.refl w
 have hl := hs.1
 rw [length_pairsL] at hl
 have Hl := Lib.hid (show ss.length = m by omega)
 have hcm := hs.2.2.1
 have hnc := hs.2.1
 simp only [maxLen] at hcm
 clear hl
 have HM := Lib.hid (fun w hk => rmark_any key K k kc n x y z w hk hkm)
 generalize markN key n x y = md at HM ⊢
 generalize hb : decide ((who, md) ∈ ss) = b
 replace hb := Lib.hid hb
 go_enter Tryd.func24, Tryd.ntmps24
 go_wp2_with (first
  | (refine L_boxA (d := some 6) rfl rfl rfl (ev_tmp rfl) ?_; (try clear hnew); intro g6 W6 hnew; replace hst := hst.trans hnew; simp only [List.cons_append, List.nil_append] at hst)
  | fail)
 clear hnew
 go_loopg [9] m (fun gk s9 wr => ∃ i : Nat, Hid (i + gk = m) ∧ Hid ((who, md) ∉ ss.take i) ∧ s9 = .int .i64 (i : Int) ∧ St w wr [.blk g6 39 (hdArr n x y z)])
 case atStart => exact ⟨0, Lib.hid (by omega), Lib.hid (by simp), rfl, hst⟩
 case round =>
  clear hst
  obtain ⟨i, HI, HN, rfl, hst⟩ := hrel
  have hi := HI.out
  by_cases hin : i < m
  ·clear hi
   have hil := Lib.hid (show i < ss.length by rw [Hl.out]; exact hin)
   have HC := Lib.hid (fun (W : World) (g off : Nat) h => pair_cells (W := W) (g := g) (off := off) (i := i) (ss := ss) h hil.out)
   have HE : ∃ p : Int × Dig, Hid (p = ss[i]'hil.out) := ⟨_, Lib.hid rfl⟩
   obtain ⟨p, HE⟩ := HE
   rw [← HE.out] at HC
   obtain ⟨pm, pq⟩ := p
   dsimp only at HC
   have HC0 := Lib.hid (fun (W : World) (g off : Nat) h => show W.cell? ⟨g, off + (i : Int).toNat * 33, none⟩ = some (.int .i64 pm) from (HC.out W g off h) 0 _ rfl)
   have HC1 := Lib.hid (fun (W : World) (g off : Nat) h => show W.rangeAt g (off + (i : Int).toNat * 33 + 1) pq.arr.toList from fun j v hv => by
    have := (HC.out W g off h) (j + 1) v (by rw [prArr_list, List.getElem?_cons_succ]; exact hv)
    rwa [show off + (i : Int).toNat * 33 + (j + 1) = off + (i : Int).toNat * 33 + 1 + j by omega] at this)
   go_wp2_with (first
    | fail)
   by_cases hw : pm = who
   ·subst hw
    by_cases hq : pq = md
    ·have hd : decide (pq = md) = true := decide_eq_true hq
     have HF := Lib.hid (show (pm, md) ∈ ss by rw [← hq, HE.out]; exact List.getElem_mem hil.out)
     clear hq
     refine wp_region_idx [(0, 0), (1, 0), (2, 0), (3, 0), (4, 0), (5, 2), (6, 2), (7, 2), (8, 0), (9, 0), (10, 0), (11, 0), (12, 0), (13, 0), (14, 2), (15, 2), (16, 2), (17, 2)] (by kernel_rfl) (by kernel_rfl) ?_
     replace hst := hst.drew
     refine idx_q rfl rfl ?_; go_wp2_with fail
     refine idx_q rfl rfl ?_; go_wp2_with fail
     refine idx_q rfl rfl ?_; go_wp2_with (first | (refine L_idxS (d := some 18) rfl rfl rfl (by rfl) (by rfl) Tryd.underlying40 el_api_Seal (by first | exact hst.old (by decide) hs | assumption | exact hst.sl 0 rfl | exact hst.old (by decide) (by assumption)) (by omega) (by omega) ?_; intro o18 p18 ha18 hr18; (first | subst ha18 | (obtain ⟨h1, h2⟩ := some_addr ha18; subst h1; subst h2; clear ha18) | skip)) | fail)
     refine idx_qf rfl rfl (by kernel_rfl) ?_; go_wp2_with fail
     refine idx_q rfl rfl ?_; go_wp2_with (first | (refine L_load1 (d := some 20) rfl rfl rfl (by rfl) Tryd.underlying3 rfl (HC0.out _ _ _ hr18) ?_) | (refine L_load1 (d := some 20) rfl rfl rfl (by rfl) Tryd.underlying3 rfl (by first | assumption | exact cell_of (hst.get 0 rfl) rfl) ?_) | fail)
     refine idx_g rfl ?_; go_wp2_with fail; refine ⟨by first | exact Below.refl _ _ | exact hnew.below, ?_⟩
     refine idx_g rfl ?_; go_wp2_with (first | (refine L_load1 (d := some 20) rfl rfl rfl (by rfl) Tryd.underlying3 rfl (HC0.out _ _ _ hr18) ?_) | (refine L_loadM (d := some 28) rfl rfl rfl (by rfl) Tryd.underlying23 rfl el_api_Digest (HC1.out _ _ _ hr26) (Dig.size _) ?_) | (go_at_call 23; (try clear hnew); refine (HM.out _ (hst.old (by decide) hk)).mono ?_; rintro e Wk4 ⟨rfl, hnew⟩; replace hst := hst.keep hnew) | fail); refine ⟨by first | exact Below.refl _ _ | exact hnew.below, ?_⟩
     refine idx_g rfl ?_; go_wp2_with fail; refine ⟨by first | exact Below.refl _ _ | exact hnew.below, ?_⟩
     refine idx_q rfl rfl ?_; go_wp2_with fail
     refine idx_q rfl rfl ?_; go_wp2_with fail
     refine idx_q rfl rfl ?_; go_wp2_with (first | (refine L_idxS (d := some 26) rfl rfl rfl (by rfl) (by rfl) Tryd.underlying40 el_api_Seal (by first | exact hst.old (by decide) hs | assumption | exact hst.sl 0 rfl | exact hst.old (by decide) (by assumption)) (by omega) (by omega) ?_; intro o26 p26 ha26 hr26; (first | subst ha26 | (obtain ⟨h1, h2⟩ := some_addr ha26; subst h1; subst h2; clear ha26) | skip)) | fail)
     refine idx_qf rfl rfl (by kernel_rfl) ?_; go_wp2_with fail
     refine idx_q rfl rfl ?_; go_wp2_with (first | (refine L_loadM (d := some 28) rfl rfl rfl (by rfl) Tryd.underlying23 rfl el_api_Digest (HC1.out _ _ _ hr26) (Dig.size _) ?_) | (first | (refine L_loadA (d := some 28) rfl rfl rfl (by rfl) Tryd.underlying23 rfl el_api_Digest (by first | exact hst.get 0 rfl) (by first | exact Dig.size _ | exact hdArr_size _ _ _ _ | rfl | (simp; done)) ?_) | (refine L_loadM (d := some 28) rfl rfl rfl (by rfl) Tryd.underlying23 rfl el_api_Digest (by first | assumption) (by first | exact Dig.size _ | exact hdArr_size _ _ _ _ | rfl | (simp; done)) ?_)) | fail)
     refine idx_q rfl rfl ?_; go_wp2_with fail
     refine idx_g rfl ?_; go_wp2_with (first | (first | (refine L_loadA (d := some 30) rfl rfl rfl (by rfl) Tryd.underlying39 rfl el_api_Head (by first | exact hst.get 0 rfl) (by first | exact Dig.size _ | exact hdArr_size _ _ _ _ | rfl | (simp; done)) ?_) | (refine L_loadM (d := some 30) rfl rfl rfl (by rfl) Tryd.underlying39 rfl el_api_Head (by first | assumption) (by first | exact Dig.size _ | exact hdArr_size _ _ _ _ | rfl | (simp; done)) ?_)) | fail); refine ⟨by first | exact Below.refl _ _ | exact hnew.below, ?_⟩
     refine idx_g rfl ?_; go_wp2_with (first | (refine L_load1 (d := some 20) rfl rfl rfl (by rfl) Tryd.underlying3 rfl (HC0.out _ _ _ hr18) ?_) | (refine L_loadM (d := some 28) rfl rfl rfl (by rfl) Tryd.underlying23 rfl el_api_Digest (HC1.out _ _ _ hr26) (Dig.size _) ?_) | (go_at_call 23; (try clear hnew); refine (HM.out _ (hst.old (by decide) hk)).mono ?_; rintro e Wk4 ⟨rfl, hnew⟩; replace hst := hst.keep hnew) | fail); refine ⟨by first | exact Below.refl _ _ | exact hnew.below, ?_⟩
     refine idx_g rfl ?_; go_wp2_with (first | (refine L_load1 (d := some 20) rfl rfl rfl (by rfl) Tryd.underlying3 rfl (HC0.out _ _ _ hr18) ?_) | (refine L_loadM (d := some 28) rfl rfl rfl (by rfl) Tryd.underlying23 rfl el_api_Digest (HC1.out _ _ _ hr26) (Dig.size _) ?_) | (go_at_call 23; (try clear hnew); refine (HM.out _ (hst.old (by decide) hk)).mono ?_; rintro e Wk4 ⟨rfl, hnew⟩; replace hst := hst.keep hnew) | (refine L_eqD (d := some 32) rfl rfl rfl Tryd.underlying23 Tryd.underlying5 el_uint8 eqG_D (ev_tmp rfl) (ev_tmp rfl) ?_; (try rw [hd])) | fail); refine ⟨by first | exact Below.refl _ _ | exact hnew.below, ?_⟩
     refine idx_g rfl ?_; go_wp2_with (first | (first | (refine L_pickF (d := some 33) rfl rfl rfl (ev_tmp rfl) ev_const ?_) | (refine L_pickT (d := some 33) rfl rfl rfl (ev_tmp rfl) (ev_tmp rfl) ?_)) | fail); refine ⟨by first | exact Below.refl _ _ | exact hnew.below, ?_⟩
     refine idx_nil ?_
     go_wp2_with (first
      | fail)
     go_ret
     refine ⟨?_, hst.forget⟩
     rw [← hb.out, decide_eq_true HF.out]
     rfl
    ·have hd : decide (pq = md) = false := decide_eq_false hq
     have HF := Lib.hid (mem_take_succ hil.out HN.out (by rw [← HE.out]; intro h; exact hq (congrArg Prod.snd h).symm))
     clear hq
     refine wp_region_idx [(0, 0), (1, 0), (2, 0), (3, 0), (4, 0), (5, 2), (6, 2), (7, 2), (8, 0), (9, 0), (10, 0), (11, 0), (12, 0), (13, 0), (14, 2), (15, 2), (16, 2), (17, 2)] (by kernel_rfl) (by kernel_rfl) ?_
     replace hst := hst.drew
     refine idx_q rfl rfl ?_; go_wp2_with fail
     refine idx_q rfl rfl ?_; go_wp2_with fail
     refine idx_q rfl rfl ?_; go_wp2_with (first | (refine L_idxS (d := some 18) rfl rfl rfl (by rfl) (by rfl) Tryd.underlying40 el_api_Seal (by first | exact hst.old (by decide) hs | assumption | exact hst.sl 0 rfl | exact hst.old (by decide) (by assumption)) (by omega) (by omega) ?_; intro o18 p18 ha18 hr18; (first | subst ha18 | (obtain ⟨h1, h2⟩ := some_addr ha18; subst h1; subst h2; clear ha18) | skip)) | fail)
     refine idx_qf rfl rfl (by kernel_rfl) ?_; go_wp2_with fail
     refine idx_q rfl rfl ?_; go_wp2_with (first | (refine L_load1 (d := some 20) rfl rfl rfl (by rfl) Tryd.underlying3 rfl (HC0.out _ _ _ hr18) ?_) | (refine L_load1 (d := some 20) rfl rfl rfl (by rfl) Tryd.underlying3 rfl (by first | assumption | exact cell_of (hst.get 0 rfl) rfl) ?_) | fail)
     refine idx_g rfl ?_; go_wp2_with fail; refine ⟨by first | exact Below.refl _ _ | exact hnew.below, ?_⟩
     refine idx_g rfl ?_; go_wp2_with (first | (refine L_load1 (d := some 20) rfl rfl rfl (by rfl) Tryd.underlying3 rfl (HC0.out _ _ _ hr18) ?_) | (refine L_loadM (d := some 28) rfl rfl rfl (by rfl) Tryd.underlying23 rfl el_api_Digest (HC1.out _ _ _ hr26) (Dig.size _) ?_) | (go_at_call 23; (try clear hnew); refine (HM.out _ (hst.old (by decide) hk)).mono ?_; rintro e Wk5 ⟨rfl, hnew⟩; replace hst := hst.keep hnew) | fail); refine ⟨by first | exact Below.refl _ _ | exact hnew.below, ?_⟩
     refine idx_g rfl ?_; go_wp2_with fail; refine ⟨by first | exact Below.refl _ _ | exact hnew.below, ?_⟩
     refine idx_q rfl rfl ?_; go_wp2_with fail
     refine idx_q rfl rfl ?_; go_wp2_with fail
     refine idx_q rfl rfl ?_; go_wp2_with (first | (refine L_idxS (d := some 26) rfl rfl rfl (by rfl) (by rfl) Tryd.underlying40 el_api_Seal (by first | exact hst.old (by decide) hs | assumption | exact hst.sl 0 rfl | exact hst.old (by decide) (by assumption)) (by omega) (by omega) ?_; intro o26 p26 ha26 hr26; (first | subst ha26 | (obtain ⟨h1, h2⟩ := some_addr ha26; subst h1; subst h2; clear ha26) | skip)) | fail)
     refine idx_qf rfl rfl (by kernel_rfl) ?_; go_wp2_with fail
     refine idx_q rfl rfl ?_; go_wp2_with (first | (refine L_loadM (d := some 28) rfl rfl rfl (by rfl) Tryd.underlying23 rfl el_api_Digest (HC1.out _ _ _ hr26) (Dig.size _) ?_) | (first | (refine L_loadA (d := some 28) rfl rfl rfl (by rfl) Tryd.underlying23 rfl el_api_Digest (by first | exact hst.get 0 rfl) (by first | exact Dig.size _ | exact hdArr_size _ _ _ _ | rfl | (simp; done)) ?_) | (refine L_loadM (d := some 28) rfl rfl rfl (by rfl) Tryd.underlying23 rfl el_api_Digest (by first | assumption) (by first | exact Dig.size _ | exact hdArr_size _ _ _ _ | rfl | (simp; done)) ?_)) | fail)
     refine idx_q rfl rfl ?_; go_wp2_with fail
     refine idx_g rfl ?_; go_wp2_with (first | (first | (refine L_loadA (d := some 30) rfl rfl rfl (by rfl) Tryd.underlying39 rfl el_api_Head (by first | exact hst.get 0 rfl) (by first | exact Dig.size _ | exact hdArr_size _ _ _ _ | rfl | (simp; done)) ?_) | (refine L_loadM (d := some 30) rfl rfl rfl (by rfl) Tryd.underlying39 rfl el_api_Head (by first | assumption) (by first | exact Dig.size _ | exact hdArr_size _ _ _ _ | rfl | (simp; done)) ?_)) | fail); refine ⟨by first | exact Below.refl _ _ | exact hnew.below, ?_⟩
     refine idx_g rfl ?_; go_wp2_with (first | (refine L_load1 (d := some 20) rfl rfl rfl (by rfl) Tryd.underlying3 rfl (HC0.out _ _ _ hr18) ?_) | (refine L_loadM (d := some 28) rfl rfl rfl (by rfl) Tryd.underlying23 rfl el_api_Digest (HC1.out _ _ _ hr26) (Dig.size _) ?_) | (go_at_call 23; (try clear hnew); refine (HM.out _ (hst.old (by decide) hk)).mono ?_; rintro e Wk5 ⟨rfl, hnew⟩; replace hst := hst.keep hnew) | fail); refine ⟨by first | exact Below.refl _ _ | exact hnew.below, ?_⟩
     refine idx_g rfl ?_; go_wp2_with (first | (refine L_load1 (d := some 20) rfl rfl rfl (by rfl) Tryd.underlying3 rfl (HC0.out _ _ _ hr18) ?_) | (refine L_loadM (d := some 28) rfl rfl rfl (by rfl) Tryd.underlying23 rfl el_api_Digest (HC1.out _ _ _ hr26) (Dig.size _) ?_) | (go_at_call 23; (try clear hnew); refine (HM.out _ (hst.old (by decide) hk)).mono ?_; rintro e Wk5 ⟨rfl, hnew⟩; replace hst := hst.keep hnew) | (refine L_eqD (d := some 32) rfl rfl rfl Tryd.underlying23 Tryd.underlying5 el_uint8 eqG_D (ev_tmp rfl) (ev_tmp rfl) ?_; (try rw [hd])) | fail); refine ⟨by first | exact Below.refl _ _ | exact hnew.below, ?_⟩
     refine idx_g rfl ?_; go_wp2_with (first | (first | (refine L_pickF (d := some 33) rfl rfl rfl (ev_tmp rfl) ev_const ?_) | (refine L_pickT (d := some 33) rfl rfl rfl (ev_tmp rfl) (ev_tmp rfl) ?_)) | fail); refine ⟨by first | exact Below.refl _ _ | exact hnew.below, ?_⟩
     refine idx_nil ?_
     go_wp2_with (first
      | fail)
     go_roundg (gk - 1)
     case measure => have hi := HI.out; omega
     case rel =>
      have hi := HI.out
      exact ⟨i + 1, Lib.hid (by omega), HF, by go_num, hst⟩
   ·have HF := Lib.hid (mem_take_succ hil.out HN.out (by rw [← HE.out]; intro h; exact hw (congrArg Prod.fst h).symm))
    refine wp_region_idx [(0, 0), (1, 0), (2, 0), (3, 0), (4, 0), (5, 2), (6, 2), (7, 2), (8, 0), (9, 0), (10, 0), (11, 0), (12, 0), (13, 0), (14, 2), (15, 2), (16, 2), (17, 2)] (by kernel_rfl) (by kernel_rfl) ?_
    replace hst := hst.drew
    refine idx_q rfl rfl ?_; go_wp2_with fail
    refine idx_q rfl rfl ?_; go_wp2_with fail
    refine idx_q rfl rfl ?_; go_wp2_with (first | (refine L_idxS (d := some 18) rfl rfl rfl (by rfl) (by rfl) Tryd.underlying40 el_api_Seal (by first | exact hst.old (by decide) hs | assumption | exact hst.sl 0 rfl | exact hst.old (by decide) (by assumption)) (by omega) (by omega) ?_; intro o18 p18 ha18 hr18; (first | subst ha18 | (obtain ⟨h1, h2⟩ := some_addr ha18; subst h1; subst h2; clear ha18) | skip)) | fail)
    refine idx_qf rfl rfl (by kernel_rfl) ?_; go_wp2_with fail
    refine idx_q rfl rfl ?_; go_wp2_with (first | (refine L_load1 (d := some 20) rfl rfl rfl (by rfl) Tryd.underlying3 rfl (HC0.out _ _ _ hr18) ?_) | (refine L_load1 (d := some 20) rfl rfl rfl (by rfl) Tryd.underlying3 rfl (by first | assumption | exact cell_of (hst.get 0 rfl) rfl) ?_) | fail)
    refine idx_g rfl ?_; go_wp2_with fail; refine ⟨by first | exact Below.refl _ _ | exact hnew.below, ?_⟩
    refine idx_g rfl ?_; go_wp2_with (first | (refine L_load1 (d := some 20) rfl rfl rfl (by rfl) Tryd.underlying3 rfl (HC0.out _ _ _ hr18) ?_) | fail); refine ⟨by first | exact Below.refl _ _ | exact hnew.below, ?_⟩
    refine idx_g rfl ?_; go_wp2_with fail; refine ⟨by first | exact Below.refl _ _ | exact hnew.below, ?_⟩
    refine idx_q rfl rfl ?_; go_wp2_with (first | (refine L_un (t := 24) rfl (by rfl) rfl ?_) | fail)
    refine idx_q rfl rfl ?_; go_wp2_with (first | (refine L_un (t := 25) rfl (by rfl) rfl ?_) | fail)
    refine idx_q rfl rfl ?_; go_wp2_with (first | (refine L_un (t := 26) rfl (by rfl) rfl ?_) | (refine L_idxS (d := some 26) rfl rfl rfl (by rfl) (by rfl) Tryd.underlying40 el_api_Seal (by first | exact hst.old (by decide) hs | assumption | exact hst.sl 0 rfl | exact hst.old (by decide) (by assumption)) (by omega) (by omega) ?_; intro o26 p26 ha26 hr26; (first | subst ha26 | (obtain ⟨h1, h2⟩ := some_addr ha26; subst h1; subst h2; clear ha26) | skip)) | fail)
    refine idx_qf rfl rfl (by kernel_rfl) ?_; go_wp2_with (first | (refine L_un (t := 27) rfl (by rfl) rfl ?_) | fail)
    refine idx_q rfl rfl ?_; go_wp2_with (first | (refine L_un (t := 28) rfl (by rfl) rfl ?_) | (first | (refine L_loadA (d := some 28) rfl rfl rfl (by rfl) Tryd.underlying23 rfl el_api_Digest (by first | exact hst.get 0 rfl) (by first | rfl | exact Dig.size _ | (simp; done)) ?_) | (refine L_loadM (d := some 28) rfl rfl rfl (by rfl) Tryd.underlying23 rfl el_api_Digest (by first | assumption) (by first | rfl | exact Dig.size _ | (simp; done)) ?_)) | fail)
    refine idx_q rfl rfl ?_; go_wp2_with (first | (refine L_un (t := 29) rfl (by rfl) rfl ?_) | fail)
    refine idx_g rfl ?_; go_wp2_with (first | (refine L_un (t := 30) rfl (by rfl) rfl ?_) | (first | (refine L_loadA (d := some 30) rfl rfl rfl (by rfl) Tryd.underlying39 rfl el_api_Head (by first | exact hst.get 0 rfl) (by first | rfl | exact Dig.size _ | (simp; done)) ?_) | (refine L_loadM (d := some 30) rfl rfl rfl (by rfl) Tryd.underlying39 rfl el_api_Head (by first | assumption) (by first | rfl | exact Dig.size _ | (simp; done)) ?_)) | fail); refine ⟨by first | exact Below.refl _ _ | exact hnew.below, ?_⟩
    refine idx_g rfl ?_; go_wp2_with (first | (refine L_un (t := 31) rfl (by rfl) rfl ?_) | (refine L_load1 (d := some 20) rfl rfl rfl (by rfl) Tryd.underlying3 rfl (HC0.out _ _ _ hr18) ?_) | fail); refine ⟨by first | exact Below.refl _ _ | exact hnew.below, ?_⟩
    refine idx_g rfl ?_; go_wp2_with (first | (refine L_un (t := 32) rfl (by rfl) rfl ?_) | (refine L_load1 (d := some 20) rfl rfl rfl (by rfl) Tryd.underlying3 rfl (HC0.out _ _ _ hr18) ?_) | (refine L_eqD (d := some 32) rfl rfl rfl Tryd.underlying23 Tryd.underlying5 el_uint8 eqG_D (ev_tmp rfl) (ev_tmp rfl) ?_) | fail); refine ⟨by first | exact Below.refl _ _ | exact hnew.below, ?_⟩
    refine idx_g rfl ?_; go_wp2_with (first | (first | (refine L_pickF (d := some 33) rfl rfl rfl (ev_tmp rfl) ev_const ?_) | (refine L_pickT (d := some 33) rfl rfl rfl (ev_tmp rfl) (ev_tmp rfl) ?_)) | fail); refine ⟨by first | exact Below.refl _ _ | exact hnew.below, ?_⟩
    refine idx_nil ?_
    go_wp2_with (first
     | fail)
    go_roundg (gk - 1)
    case measure => have hi := HI.out; omega
    case rel =>
     have hi := HI.out
     exact ⟨i + 1, Lib.hid (by omega), HF, by go_num, hst⟩
  ·obtain rfl : i = m := by omega
   clear hi HI
   have HF := Lib.hid (show (who, md) ∉ ss by
    have := HN.out
    rwa [List.take_of_length_le (by rw [Hl.out]; exact Nat.le_refl _)] at this)
   go_wp2_with (first
    | fail)
   go_ret
   refine ⟨?_, hst.forget⟩
   rw [← hb.out, decide_eq_false HF.out]
   rfl
set_option maxHeartbeats 1000000 in
theorem among_any (i : Nat) (ns : List Nat) (A : Option Addr) (n c : Nat) (w : World) (hs : SlR w A n c 1 (natsL ns)) :
  Calls Tryd.prog 21 #[.int .i64 (i : Int), .slice A n c] w fun e w' => e = .returned (.bool (decide (i ∈ ns))) ∧ St w w' [] := by
 have hst := St.refl w
 have hl := hs.1
 simp only [natsL, List.length_map, Nat.mul_one] at hl
 have Hl := Lib.hid hl
 have hcm := hs.2.2.1
 have hnc := hs.2.1
 simp only [maxLen] at hcm
 clear hl
 generalize hb : decide (i ∈ ns) = b
 replace hb := Lib.hid hb
 go_enter Tryd.func21, Tryd.ntmps21
 go_wp2_with (first
  | fail)
 go_loopg [5] n (fun gk s5 wr => ∃ j : Nat, Hid (j + gk = n) ∧ Hid (i ∉ ns.take j) ∧ s5 = .int .i64 (j : Int) ∧ St w wr [])
 case atStart => exact ⟨0, Lib.hid (by omega), Lib.hid (by simp), rfl, hst⟩
 case round =>
  clear hst
  obtain ⟨j, HJ, HN, rfl, hst⟩ := hrel
  have hj := HJ.out
  by_cases hjn : j < n
  ·clear hj
   have hil := Lib.hid (show j < ns.length by rw [Hl.out]; exact hjn)
   have HE : ∃ p : Nat, Hid (p = ns[j]'hil.out) := ⟨_, Lib.hid rfl⟩
   obtain ⟨p, HE⟩ := HE
   have HC := Lib.hid (show (natsL ns)[j]? = some (.int .i64 (p : Int)) by rw [HE.out]; simp [natsL, natV, hil.out])
   by_cases he : p = i
   ·subst he
    have HF := Lib.hid (show p ∈ ns by rw [HE.out]; exact List.getElem_mem hil.out)
    generalize natsL ns = l at *
    go_wp2_with (first
     | (refine L_load1 (d := some 15) rfl rfl rfl (by rfl) Tryd.underlying3 rfl (cell_of_range1 hr14 (k := j) (by omega) HC.out) ?_)
     | (refine L_idxS (d := some 14) rfl rfl rfl (by rfl) (by rfl) Tryd.underlying44 el_int (by first | exact hst.old (by decide) hs | assumption | exact hst.sl 0 rfl | exact hst.old (by decide) (by assumption)) (by omega) (by omega) ?_; intro o14 p14 ha14 hr14; (first | subst ha14 | (obtain ⟨h1, h2⟩ := some_addr ha14; subst h1; subst h2; clear ha14) | skip))
     | (refine L_load1 (d := some 15) rfl rfl rfl (by rfl) Tryd.underlying3 rfl (by first | assumption | exact cell_of (hst.get 0 rfl) rfl) ?_)
     | fail)
    go_ret
    refine ⟨?_, hst⟩
    rw [← hb.out, decide_eq_true HF.out]
    rfl
   ·have HF := Lib.hid (mem_take_succ hil.out HN.out (by rw [← HE.out]; exact fun h => he h.symm))
    have t1 : ¬ (p : Int) = (i : Int) := by omega
    generalize natsL ns = l at *
    go_wp2_with (first
     | (refine L_load1 (d := some 15) rfl rfl rfl (by rfl) Tryd.underlying3 rfl (cell_of_range1 hr14 (k := j) (by omega) HC.out) ?_)
     | (refine L_idxS (d := some 14) rfl rfl rfl (by rfl) (by rfl) Tryd.underlying44 el_int (by first | exact hst.old (by decide) hs | assumption | exact hst.sl 0 rfl | exact hst.old (by decide) (by assumption)) (by omega) (by omega) ?_; intro o14 p14 ha14 hr14; (first | subst ha14 | (obtain ⟨h1, h2⟩ := some_addr ha14; subst h1; subst h2; clear ha14) | skip))
     | (refine L_load1 (d := some 15) rfl rfl rfl (by rfl) Tryd.underlying3 rfl (by first | assumption | exact cell_of (hst.get 0 rfl) rfl) ?_)
     | fail)
    go_roundg (gk - 1)
    case measure => have hj := HJ.out; omega
    case rel =>
     have hj := HJ.out
     exact ⟨j + 1, Lib.hid (by omega), HF, by go_num, hst⟩
  ·obtain rfl : j = n := by omega
   clear hj HJ
   have HF := Lib.hid (show i ∉ ns by
    have := HN.out
    rwa [List.take_of_length_le (by rw [Hl.out]; exact Nat.le_refl _)] at this)
   go_wp2_with (first
    | fail)
   go_ret
   refine ⟨?_, hst⟩
   rw [← hb.out, decide_eq_false HF.out]
   rfl
end Go.Proofs.YtkbleigmfcleaaaDoor

set_option maxRecDepth 20000
set_option linter.unusedSimpArgs false
set_option linter.unusedVariables false
namespace Go.Proofs.YtkbleigmfcleaaaDoor
open Go.RowKit
theorem el_S_S_uint8 : ElemIs Tryd.prog 37 (.slice none 0 0) 1 24 := by unfold ElemIs; kernel_rfl
theorem el_S_api_Seal : ElemIs Tryd.prog 40 (.slice none 0 0) 1 24 := by unfold ElemIs; kernel_rfl
theorem sealP_one (pc : Piece) (n : Int) (x y : Dig) : rightL (sealP (fun _ => pc) n x y [((0 : Int), markN pc.2.2.2 n x y)]) 1 = [0] := by
 rw [rightL_succ, rightL_zero, if_pos]
 ·rfl
 ·simp [sealP]
theorem prArr_flat (n : Int) (d : Dig) : (Value.agg (prArr n d)).cells.toList = pairsL [(n, d)] := (pairsL_one n d).symm
theorem keys_one {w : World} {A B : Option Addr} (hr : SlR w B 1 1 1 [.slice A 1 1]) (he : SlR w A 1 1 1 (bytesL [1])) : Keys w (fun _ => (A, 1, 1, [1])) B 1 1 := ⟨hr, fun _ _ => he, fun _ _ => by show 1 ≤ 140737488355000; decide⟩
theorem hd1 : (hdArr 0 zeroD zeroD zeroD).setIfInBounds 0 (.int .i64 1) = hdArr 1 zeroD zeroD zeroD := rfl
set_option maxHeartbeats 4000000 in
set_option maxRecDepth 100000 in
theorem marked_any (w : World) (hT : Tb w) : Calls Tryd.prog 19 #[] w fun e w' => e = .returned (.bool true) ∧ St w w' [] := by
 have hst := St.refl w
 have HT := Lib.hid hT
 clear hT
 go_enter Tryd.func19, Tryd.ntmps19
 go_upto_region 2 with (first
  | (refine L_buildF (d := some 3) rfl rfl rfl Tryd.underlying39 el_int el_api_Digest el_api_Digest el_api_Digest rfl el_api_Head (by rw [hdArr_size]; decide) ev_const rfl ?_; rw [hd1])
  | (refine L_allocA (d := some 1) rfl rfl rfl el_api_Head ?_; (try clear hnew); intro g1 W1 hnew; replace hst := hst.trans hnew; simp only [List.cons_append, List.nil_append] at hst)
  | (refine wpl_at (.store 39 (.tmp 1) (.tmp 3)) rfl ?_; first | (refine L_storeA rfl rfl hst rfl (by rfl) (ev_tmp rfl) (by first | rfl | exact Dig.one _ | exact hdArr_all _ _ _ _ | (simp; done)) el_api_Head (by first | rfl | exact Dig.size _ | exact hdArr_size _ _ _ _ | (simp; done)) 0 rfl (by first | rfl | exact Dig.size _ | exact hdArr_size _ _ _ _ | (simp; done)) ?_; clear hst; intro WS2 hst; simp only [List.set_cons_zero, List.set_cons_succ] at hst) | (refine L_storeA rfl rfl hst rfl (by rfl) (ev_tmp rfl) (by first | rfl | exact Dig.one _ | exact hdArr_all _ _ _ _ | (simp; done)) el_api_Head (by first | rfl | exact Dig.size _ | exact hdArr_size _ _ _ _ | (simp; done)) 1 rfl (by first | rfl | exact Dig.size _ | exact hdArr_size _ _ _ _ | (simp; done)) ?_; clear hst; intro WS2 hst; simp only [List.set_cons_zero, List.set_cons_succ] at hst) | (refine L_storeM rfl rfl hst rfl (by rfl) (ev_tmp rfl) (by first | rfl | exact Dig.one _ | exact hdArr_all _ _ _ _ | (simp; done)) el_api_Head (by first | rfl | exact Dig.size _ | exact hdArr_size _ _ _ _ | (simp; done)) 0 rfl (by first | exact of_decide_eq_true rfl | (simp; done)) ?_; clear hst; intro WS2 hst; simp only [List.set_cons_zero, List.set_cons_succ] at hst)  | (refine L_storeM rfl rfl hst rfl (by rfl) (ev_tmp rfl) (by first | rfl | exact Dig.one _ | exact hdArr_all _ _ _ _ | (simp; done)) el_api_Head (by first | rfl | exact Dig.size _ | exact hdArr_size _ _ _ _ | (simp; done)) 1 rfl (by first | exact of_decide_eq_true rfl | (simp; done)) ?_; clear hst; intro WS2 hst; simp only [List.set_cons_zero, List.set_cons_succ] at hst))
  | fail)
 clear hnew
 simp only [Act.put, List.setIfInBounds_toArray, List.set_cons_succ, List.set_cons_zero]
 go_cut [2] (fun s2 wx => ∃ (O : Option Addr) (oc : Nat), s2 = .slice O 1 oc ∧ St w wx [.row O 1 oc 3 1 (natsL [0])])
 case first =>
  refine wp_region_pm (.one 2 0 (.one 4 0 (.two 0 2 (.two 1 2 (.one 3 2 (.one 5 2 (.one 6 2 (.one 7 2 (.one 8 2 (.one 9 2 .nil)))))) 3 2 (.two 1 2 (.one 5 2 (.one 6 2 (.one 7 2 (.one 8 2 (.one 9 2 .nil))))) 5 2 (.one 6 0 (.two 1 2 (.one 7 2 (.one 8 2 (.one 9 2 .nil))) 7 2 (.one 1 2 (.one 8 2 (.one 9 2 .nil))))))) 3 2 (.two 0 2 (.two 1 2 (.one 5 2 (.one 6 2 (.one 7 2 (.one 8 2 (.one 9 2 .nil))))) 5 2 (.one 6 0 (.two 1 2 (.one 7 2 (.one 8 2 (.one 9 2 .nil))) 7 2 (.one 1 2 (.one 8 2 (.one 9 2 .nil)))))) 5 2 (.one 6 0 (.two 0 2 (.two 1 2 (.one 7 2 (.one 8 2 (.one 9 2 .nil))) 7 2 (.one 1 2 (.one 8 2 (.one 9 2 .nil)))) 7 2 (.one 0 2 (.one 1 2 (.one 8 2 (.one 9 2 .nil)))))))))) (by kernel_rfl) (by kernel_rfl) ?_
  replace hst := hst.drew
  refine pm_q rfl rfl ?_; go_wp2_with (first | (first | (refine L_loadA (d := some 6) rfl rfl rfl (by rfl) Tryd.underlying39 rfl el_api_Head (by first | exact hst.get 0 rfl | exact hst.get 1 rfl | exact hst.get 2 rfl | exact hst.get 3 rfl | exact hst.get 4 rfl | exact hst.get 5 rfl) (by first | exact Dig.size _ | exact hdArr_size _ _ _ _ | rfl | (simp; done)) ?_) | (refine L_loadM (d := some 6) rfl rfl rfl (by rfl) Tryd.underlying39 rfl el_api_Head (by first | assumption) (by first | exact Dig.size _ | exact hdArr_size _ _ _ _ | rfl | (simp; done)) ?_)) | fail)
  refine pm_q rfl rfl ?_; go_wp2_with (first | (first | (refine L_loadA (d := some 8) rfl rfl rfl (by rfl) Tryd.underlying39 rfl el_api_Head (by first | exact hst.get 0 rfl | exact hst.get 1 rfl | exact hst.get 2 rfl | exact hst.get 3 rfl | exact hst.get 4 rfl | exact hst.get 5 rfl) (by first | exact Dig.size _ | exact hdArr_size _ _ _ _ | rfl | (simp; done)) ?_) | (refine L_loadM (d := some 8) rfl rfl rfl (by rfl) Tryd.underlying39 rfl el_api_Head (by first | assumption) (by first | exact Dig.size _ | exact hdArr_size _ _ _ _ | rfl | (simp; done)) ?_)) | fail)
  refine pm_two (ki := 2) (kj := 2) rfl rfl ?_ ?_
  ·go_wp2_with (first | (refine L_buildS (d := some 4) rfl rfl rfl [_] (bs_1 ev_const) rfl Tryd.underlying49 el_uint8 rfl (by first | (simp [Value.cells]; done) | (simp [Value.cells, Dig.size]; done)) (by decide) (by decide) ?_; (try clear hnew); intro g4 W4 hnew; replace hst := hst.trans hnew; simp only [List.cons_append, List.nil_append] at hst; simp only [List.flatMap_cons, List.flatMap_nil, List.append_nil, Value.cells, List.toList_toArray] at hst) | fail); refine ⟨fun _ => (by first | exact Below.refl _ _ | exact hnew.below), ?_⟩
   refine pm_two (ki := 2) (kj := 2) rfl rfl ?_ ?_
   ·go_wp2_with (first | (refine L_buildS (d := some 5) rfl rfl rfl [_] (bs_1 (ev_tmp rfl)) rfl Tryd.underlying37 el_S_uint8 rfl (by first | (simp [Value.cells]; done) | (simp [Value.cells, Dig.size]; done)) (by decide) (by decide) ?_; (try clear hnew); intro g5 W5 hnew; replace hst := hst.trans hnew; simp only [List.cons_append, List.nil_append] at hst; simp only [List.flatMap_cons, List.flatMap_nil, List.append_nil, Value.cells, List.toList_toArray] at hst) | fail); refine ⟨fun _ => (by first | exact Below.refl _ _ | exact hnew.below), ?_⟩
    refine pm_g rfl ?_; go_wp2_with (first | (refine L_buildS (d := some 7) rfl rfl rfl [_] (bs_1 ev_const) rfl Tryd.underlying49 el_uint8 rfl (by first | (simp [Value.cells]; done) | (simp [Value.cells, Dig.size]; done)) (by decide) (by decide) ?_; (try clear hnew); intro g7 W7 hnew; replace hst := hst.trans hnew; simp only [List.cons_append, List.nil_append] at hst; simp only [List.flatMap_cons, List.flatMap_nil, List.append_nil, Value.cells, List.toList_toArray] at hst) | fail); refine ⟨by first | exact Below.refl _ _ | exact hnew.below, ?_⟩
    refine pm_g rfl ?_; go_wp2_with (first | (refine L_buildP (d := some 10) rfl rfl rfl Tryd.underlying43 el_int el_api_Digest rfl rfl el_api_Seal (prArr_size _ _) ev_const (ev_tmp rfl) ?_) | (refine L_buildS (d := some 11) rfl rfl rfl [.agg (prArr 0 (markN [1] 1 zeroD zeroD))] (bs_1 (ev_tmp rfl)) rfl Tryd.underlying40 el_api_Seal (prArr_size _ _) (fun v hv => by rw [List.mem_singleton.1 hv]; exact prArr_size _ _) (by decide) (by decide) ?_; (try clear hnew); intro g11 W11 hnew; replace hst := hst.trans hnew; simp only [List.cons_append, List.nil_append] at hst; simp only [List.flatMap_cons, List.flatMap_nil, List.append_nil, prArr_flat] at hst) | (go_at_call 22; (try clear hnew); refine (mark_any [1] _ _ _ 1 zeroD zeroD zeroD _ (HT.out.of hst) (by first | exact hst.sl 0 rfl | exact hst.sl 1 rfl | exact hst.sl 2 rfl | exact hst.sl 3 rfl | exact hst.sl 4 rfl) (by decide)).mono ?_; rintro e Wk1 ⟨rfl, hnew⟩; replace hst := hst.keep hnew) | (go_at_call 20; (try clear hnew); refine (rightK (fun _ => (g4, 1, 1, [1])) g5 1 1 1 zeroD zeroD zeroD [((0 : Int), markN [1] 1 zeroD zeroD)] g11 1 1 _ (HT.out.of hst) (keys_one (by first | exact hst.sl 0 rfl | exact hst.sl 1 rfl | exact hst.sl 2 rfl | exact hst.sl 3 rfl | exact hst.sl 4 rfl) (by first | exact hst.sl 0 rfl | exact hst.sl 1 rfl | exact hst.sl 2 rfl | exact hst.sl 3 rfl | exact hst.sl 4 rfl)) (by first | exact hst.sl 0 rfl | exact hst.sl 1 rfl | exact hst.sl 2 rfl | exact hst.sl 3 rfl | exact hst.sl 4 rfl) (by decide)).mono ?_; rw [sealP_one]; rintro e W12 ⟨O12, c12, rfl, hnew⟩; replace hst := hst.trans hnew; simp only [List.cons_append, List.nil_append] at hst) | fail); refine ⟨by first | exact Below.refl _ _ | exact hnew.below, ?_⟩
    refine pm_g rfl ?_; go_wp2_with (first | (refine L_buildP (d := some 10) rfl rfl rfl Tryd.underlying43 el_int el_api_Digest rfl rfl el_api_Seal (prArr_size _ _) ev_const (ev_tmp rfl) ?_) | fail); refine ⟨by first | exact Below.refl _ _ | exact hnew.below, ?_⟩
    refine pm_g rfl ?_; go_wp2_with (first | (refine L_buildS (d := some 11) rfl rfl rfl [.agg (prArr 0 (markN [1] 1 zeroD zeroD))] (bs_1 (ev_tmp rfl)) rfl Tryd.underlying40 el_api_Seal (prArr_size _ _) (fun v hv => by rw [List.mem_singleton.1 hv]; exact prArr_size _ _) (by decide) (by decide) ?_; (try clear hnew); intro g11 W11 hnew; replace hst := hst.trans hnew; simp only [List.cons_append, List.nil_append] at hst; simp only [List.flatMap_cons, List.flatMap_nil, List.append_nil, prArr_flat] at hst) | (refine L_buildS (d := some 11) rfl rfl rfl [_] (bs_1 (ev_tmp rfl)) rfl Tryd.underlying40 el_api_Seal rfl (by first | (simp [Value.cells]; done) | (simp [Value.cells, Dig.size]; done)) (by decide) (by decide) ?_; (try clear hnew); intro g11 W11 hnew; replace hst := hst.trans hnew; simp only [List.cons_append, List.nil_append] at hst; simp only [List.flatMap_cons, List.flatMap_nil, List.append_nil, Value.cells, List.toList_toArray] at hst) | fail); refine ⟨by first | exact Below.refl _ _ | exact hnew.below, ?_⟩
    refine pm_g rfl ?_; go_wp2_with (first | (refine L_buildP (d := some 10) rfl rfl rfl Tryd.underlying43 el_int el_api_Digest rfl rfl el_api_Seal (prArr_size _ _) ev_const (ev_tmp rfl) ?_) | (refine L_buildS (d := some 11) rfl rfl rfl [.agg (prArr 0 (markN [1] 1 zeroD zeroD))] (bs_1 (ev_tmp rfl)) rfl Tryd.underlying40 el_api_Seal (prArr_size _ _) (fun v hv => by rw [List.mem_singleton.1 hv]; exact prArr_size _ _) (by decide) (by decide) ?_; (try clear hnew); intro g11 W11 hnew; replace hst := hst.trans hnew; simp only [List.cons_append, List.nil_append] at hst; simp only [List.flatMap_cons, List.flatMap_nil, List.append_nil, prArr_flat] at hst) | (go_at_call 22; (try clear hnew); refine (mark_any [1] _ _ _ 1 zeroD zeroD zeroD _ (HT.out.of hst) (by first | exact hst.sl 0 rfl | exact hst.sl 1 rfl | exact hst.sl 2 rfl | exact hst.sl 3 rfl | exact hst.sl 4 rfl) (by decide)).mono ?_; rintro e Wk1 ⟨rfl, hnew⟩; replace hst := hst.keep hnew) | (go_at_call 20; (try clear hnew); refine (rightK (fun _ => (g4, 1, 1, [1])) g5 1 1 1 zeroD zeroD zeroD [((0 : Int), markN [1] 1 zeroD zeroD)] g11 1 1 _ (HT.out.of hst) (keys_one (by first | exact hst.sl 0 rfl | exact hst.sl 1 rfl | exact hst.sl 2 rfl | exact hst.sl 3 rfl | exact hst.sl 4 rfl) (by first | exact hst.sl 0 rfl | exact hst.sl 1 rfl | exact hst.sl 2 rfl | exact hst.sl 3 rfl | exact hst.sl 4 rfl)) (by first | exact hst.sl 0 rfl | exact hst.sl 1 rfl | exact hst.sl 2 rfl | exact hst.sl 3 rfl | exact hst.sl 4 rfl) (by decide)).mono ?_; rw [sealP_one]; rintro e W12 ⟨O12, c12, rfl, hnew⟩; replace hst := hst.trans hnew; simp only [List.cons_append, List.nil_append] at hst) | fail); refine ⟨by first | exact Below.refl _ _ | exact hnew.below, ?_⟩
    refine pm_g rfl ?_; go_wp2_with fail; refine ⟨by first | exact Below.refl _ _ | exact hnew.below, ?_⟩
    refine pm_nil ?_
    clear hnew
    have hst : St w W12 [.row O12 1 c12 3 1 (natsL [0])] := hst.pick [0] (by decide)
    go_wp2_with fail
    go_meet
    case rel => exact ⟨_, _, rfl, hst⟩
   ·go_wp2_with (first | (refine L_buildS (d := some 7) rfl rfl rfl [_] (bs_1 ev_const) rfl Tryd.underlying49 el_uint8 rfl (by first | (simp [Value.cells]; done) | (simp [Value.cells, Dig.size]; done)) (by decide) (by decide) ?_; (try clear hnew); intro g7 W7 hnew; replace hst := hst.trans hnew; simp only [List.cons_append, List.nil_append] at hst; simp only [List.flatMap_cons, List.flatMap_nil, List.append_nil, Value.cells, List.toList_toArray] at hst) | fail); refine ⟨fun _ => (by first | exact Below.refl _ _ | exact hnew.below), ?_⟩
    refine pm_two (ki := 2) (kj := 2) rfl rfl ?_ ?_
    ·go_wp2_with (first | (refine L_buildS (d := some 5) rfl rfl rfl [_] (bs_1 (ev_tmp rfl)) rfl Tryd.underlying37 el_S_uint8 rfl (by first | (simp [Value.cells]; done) | (simp [Value.cells, Dig.size]; done)) (by decide) (by decide) ?_; (try clear hnew); intro g5 W5 hnew; replace hst := hst.trans hnew; simp only [List.cons_append, List.nil_append] at hst; simp only [List.flatMap_cons, List.flatMap_nil, List.append_nil, Value.cells, List.toList_toArray] at hst) | fail); refine ⟨fun _ => (by first | exact Below.refl _ _ | exact hnew.below), ?_⟩
     refine pm_g rfl ?_; go_wp2_with (first | (refine L_buildP (d := some 10) rfl rfl rfl Tryd.underlying43 el_int el_api_Digest rfl rfl el_api_Seal (prArr_size _ _) ev_const (ev_tmp rfl) ?_) | (refine L_buildS (d := some 11) rfl rfl rfl [.agg (prArr 0 (markN [1] 1 zeroD zeroD))] (bs_1 (ev_tmp rfl)) rfl Tryd.underlying40 el_api_Seal (prArr_size _ _) (fun v hv => by rw [List.mem_singleton.1 hv]; exact prArr_size _ _) (by decide) (by decide) ?_; (try clear hnew); intro g11 W11 hnew; replace hst := hst.trans hnew; simp only [List.cons_append, List.nil_append] at hst; simp only [List.flatMap_cons, List.flatMap_nil, List.append_nil, prArr_flat] at hst) | (go_at_call 22; (try clear hnew); refine (mark_any [1] _ _ _ 1 zeroD zeroD zeroD _ (HT.out.of hst) (by first | exact hst.sl 0 rfl | exact hst.sl 1 rfl | exact hst.sl 2 rfl | exact hst.sl 3 rfl | exact hst.sl 4 rfl) (by decide)).mono ?_; rintro e Wk1 ⟨rfl, hnew⟩; replace hst := hst.keep hnew) | (go_at_call 20; (try clear hnew); refine (rightK (fun _ => (g4, 1, 1, [1])) g5 1 1 1 zeroD zeroD zeroD [((0 : Int), markN [1] 1 zeroD zeroD)] g11 1 1 _ (HT.out.of hst) (keys_one (by first | exact hst.sl 0 rfl | exact hst.sl 1 rfl | exact hst.sl 2 rfl | exact hst.sl 3 rfl | exact hst.sl 4 rfl) (by first | exact hst.sl 0 rfl | exact hst.sl 1 rfl | exact hst.sl 2 rfl | exact hst.sl 3 rfl | exact hst.sl 4 rfl)) (by first | exact hst.sl 0 rfl | exact hst.sl 1 rfl | exact hst.sl 2 rfl | exact hst.sl 3 rfl | exact hst.sl 4 rfl) (by decide)).mono ?_; rw [sealP_one]; rintro e W12 ⟨O12, c12, rfl, hnew⟩; replace hst := hst.trans hnew; simp only [List.cons_append, List.nil_append] at hst) | fail); refine ⟨by first | exact Below.refl _ _ | exact hnew.below, ?_⟩
     refine pm_g rfl ?_; go_wp2_with (first | (refine L_buildP (d := some 10) rfl rfl rfl Tryd.underlying43 el_int el_api_Digest rfl rfl el_api_Seal (prArr_size _ _) ev_const (ev_tmp rfl) ?_) | fail); refine ⟨by first | exact Below.refl _ _ | exact hnew.below, ?_⟩
     refine pm_g rfl ?_; go_wp2_with (first | (refine L_buildS (d := some 11) rfl rfl rfl [.agg (prArr 0 (markN [1] 1 zeroD zeroD))] (bs_1 (ev_tmp rfl)) rfl Tryd.underlying40 el_api_Seal (prArr_size _ _) (fun v hv => by rw [List.mem_singleton.1 hv]; exact prArr_size _ _) (by decide) (by decide) ?_; (try clear hnew); intro g11 W11 hnew; replace hst := hst.trans hnew; simp only [List.cons_append, List.nil_append] at hst; simp only [List.flatMap_cons, List.flatMap_nil, List.append_nil, prArr_flat] at hst) | (refine L_buildS (d := some 11) rfl rfl rfl [_] (bs_1 (ev_tmp rfl)) rfl Tryd.underlying40 el_api_Seal rfl (by first | (simp [Value.cells]; done) | (simp [Value.cells, Dig.size]; done)) (by decide) (by decide) ?_; (try clear hnew); intro g11 W11 hnew; replace hst := hst.trans hnew; simp only [List.cons_append, List.nil_append] at hst; simp only [List.flatMap_cons, List.flatMap_nil, List.append_nil, Value.cells, List.toList_toArray] at hst) | fail); refine ⟨by first | exact Below.refl _ _ | exact hnew.below, ?_⟩
     refine pm_g rfl ?_; go_wp2_with (first | (refine L_buildP (d := some 10) rfl rfl rfl Tryd.underlying43 el_int el_api_Digest rfl rfl el_api_Seal (prArr_size _ _) ev_const (ev_tmp rfl) ?_) | (refine L_buildS (d := some 11) rfl rfl rfl [.agg (prArr 0 (markN [1] 1 zeroD zeroD))] (bs_1 (ev_tmp rfl)) rfl Tryd.underlying40 el_api_Seal (prArr_size _ _) (fun v hv => by rw [List.mem_singleton.1 hv]; exact prArr_size _ _) (by decide) (by decide) ?_; (try clear hnew); intro g11 W11 hnew; replace hst := hst.trans hnew; simp only [List.cons_append, List.nil_append] at hst; simp only [List.flatMap_cons, List.flatMap_nil, List.append_nil, prArr_flat] at hst) | (go_at_call 22; (try clear hnew); refine (mark_any [1] _ _ _ 1 zeroD zeroD zeroD _ (HT.out.of hst) (by first | exact hst.sl 0 rfl | exact hst.sl 1 rfl | exact hst.sl 2 rfl | exact hst.sl 3 rfl | exact hst.sl 4 rfl) (by decide)).mono ?_; rintro e Wk1 ⟨rfl, hnew⟩; replace hst := hst.keep hnew) | (go_at_call 20; (try clear hnew); refine (rightK (fun _ => (g4, 1, 1, [1])) g5 1 1 1 zeroD zeroD zeroD [((0 : Int), markN [1] 1 zeroD zeroD)] g11 1 1 _ (HT.out.of hst) (keys_one (by first | exact hst.sl 0 rfl | exact hst.sl 1 rfl | exact hst.sl 2 rfl | exact hst.sl 3 rfl | exact hst.sl 4 rfl) (by first | exact hst.sl 0 rfl | exact hst.sl 1 rfl | exact hst.sl 2 rfl | exact hst.sl 3 rfl | exact hst.sl 4 rfl)) (by first | exact hst.sl 0 rfl | exact hst.sl 1 rfl | exact hst.sl 2 rfl | exact hst.sl 3 rfl | exact hst.sl 4 rfl) (by decide)).mono ?_; rw [sealP_one]; rintro e W12 ⟨O12, c12, rfl, hnew⟩; replace hst := hst.trans hnew; simp only [List.cons_append, List.nil_append] at hst) | fail); refine ⟨by first | exact Below.refl _ _ | exact hnew.below, ?_⟩
     refine pm_g rfl ?_; go_wp2_with fail; refine ⟨by first | exact Below.refl _ _ | exact hnew.below, ?_⟩
     refine pm_nil ?_
     clear hnew
     have hst : St w W12 [.row O12 1 c12 3 1 (natsL [0])] := hst.pick [0] (by decide)
     go_wp2_with fail
     go_meet
     case rel => exact ⟨_, _, rfl, hst⟩
    ·go_wp2_with (first | (refine L_buildP (d := some 10) rfl rfl rfl Tryd.underlying43 el_int el_api_Digest rfl rfl el_api_Seal (prArr_size _ _) ev_const (ev_tmp rfl) ?_) | (refine L_buildS (d := some 11) rfl rfl rfl [.agg (prArr 0 (markN [1] 1 zeroD zeroD))] (bs_1 (ev_tmp rfl)) rfl Tryd.underlying40 el_api_Seal (prArr_size _ _) (fun v hv => by rw [List.mem_singleton.1 hv]; exact prArr_size _ _) (by decide) (by decide) ?_; (try clear hnew); intro g11 W11 hnew; replace hst := hst.trans hnew; simp only [List.cons_append, List.nil_append] at hst; simp only [List.flatMap_cons, List.flatMap_nil, List.append_nil, prArr_flat] at hst) | (go_at_call 22; (try clear hnew); refine (mark_any [1] _ _ _ 1 zeroD zeroD zeroD _ (HT.out.of hst) (by first | exact hst.sl 0 rfl | exact hst.sl 1 rfl | exact hst.sl 2 rfl | exact hst.sl 3 rfl | exact hst.sl 4 rfl) (by decide)).mono ?_; rintro e Wk1 ⟨rfl, hnew⟩; replace hst := hst.keep hnew) | (go_at_call 20; (try clear hnew); refine (rightK (fun _ => (g4, 1, 1, [1])) g5 1 1 1 zeroD zeroD zeroD [((0 : Int), markN [1] 1 zeroD zeroD)] g11 1 1 _ (HT.out.of hst) (keys_one (by first | exact hst.sl 0 rfl | exact hst.sl 1 rfl | exact hst.sl 2 rfl | exact hst.sl 3 rfl | exact hst.sl 4 rfl) (by first | exact hst.sl 0 rfl | exact hst.sl 1 rfl | exact hst.sl 2 rfl | exact hst.sl 3 rfl | exact hst.sl 4 rfl)) (by first | exact hst.sl 0 rfl | exact hst.sl 1 rfl | exact hst.sl 2 rfl | exact hst.sl 3 rfl | exact hst.sl 4 rfl) (by decide)).mono ?_; rw [sealP_one]; rintro e W12 ⟨O12, c12, rfl, hnew⟩; replace hst := hst.trans hnew; simp only [List.cons_append, List.nil_append] at hst) | fail); refine ⟨fun _ => (by first | exact Below.refl _ _ | exact hnew.below), ?_⟩
     refine pm_q rfl rfl ?_; go_wp2_with (first | (refine L_buildP (d := some 10) rfl rfl rfl Tryd.underlying43 el_int el_api_Digest rfl rfl el_api_Seal (prArr_size _ _) ev_const (ev_tmp rfl) ?_) | fail)
     refine pm_two (ki := 2) (kj := 2) rfl rfl ?_ ?_
     ·go_wp2_with (first | (refine L_buildS (d := some 5) rfl rfl rfl [_] (bs_1 (ev_tmp rfl)) rfl Tryd.underlying37 el_S_uint8 rfl (by first | (simp [Value.cells]; done) | (simp [Value.cells, Dig.size]; done)) (by decide) (by decide) ?_; (try clear hnew); intro g5 W5 hnew; replace hst := hst.trans hnew; simp only [List.cons_append, List.nil_append] at hst; simp only [List.flatMap_cons, List.flatMap_nil, List.append_nil, Value.cells, List.toList_toArray] at hst) | fail); refine ⟨fun _ => (by first | exact Below.refl _ _ | exact hnew.below), ?_⟩
      refine pm_g rfl ?_; go_wp2_with (first | (refine L_buildS (d := some 11) rfl rfl rfl [.agg (prArr 0 (markN [1] 1 zeroD zeroD))] (bs_1 (ev_tmp rfl)) rfl Tryd.underlying40 el_api_Seal (prArr_size _ _) (fun v hv => by rw [List.mem_singleton.1 hv]; exact prArr_size _ _) (by decide) (by decide) ?_; (try clear hnew); intro g11 W11 hnew; replace hst := hst.trans hnew; simp only [List.cons_append, List.nil_append] at hst; simp only [List.flatMap_cons, List.flatMap_nil, List.append_nil, prArr_flat] at hst) | (refine L_buildS (d := some 11) rfl rfl rfl [_] (bs_1 (ev_tmp rfl)) rfl Tryd.underlying40 el_api_Seal rfl (by first | (simp [Value.cells]; done) | (simp [Value.cells, Dig.size]; done)) (by decide) (by decide) ?_; (try clear hnew); intro g11 W11 hnew; replace hst := hst.trans hnew; simp only [List.cons_append, List.nil_append] at hst; simp only [List.flatMap_cons, List.flatMap_nil, List.append_nil, Value.cells, List.toList_toArray] at hst) | fail); refine ⟨by first | exact Below.refl _ _ | exact hnew.below, ?_⟩
      refine pm_g rfl ?_; go_wp2_with (first | (refine L_buildP (d := some 10) rfl rfl rfl Tryd.underlying43 el_int el_api_Digest rfl rfl el_api_Seal (prArr_size _ _) ev_const (ev_tmp rfl) ?_) | (refine L_buildS (d := some 11) rfl rfl rfl [.agg (prArr 0 (markN [1] 1 zeroD zeroD))] (bs_1 (ev_tmp rfl)) rfl Tryd.underlying40 el_api_Seal (prArr_size _ _) (fun v hv => by rw [List.mem_singleton.1 hv]; exact prArr_size _ _) (by decide) (by decide) ?_; (try clear hnew); intro g11 W11 hnew; replace hst := hst.trans hnew; simp only [List.cons_append, List.nil_append] at hst; simp only [List.flatMap_cons, List.flatMap_nil, List.append_nil, prArr_flat] at hst) | (go_at_call 22; (try clear hnew); refine (mark_any [1] _ _ _ 1 zeroD zeroD zeroD _ (HT.out.of hst) (by first | exact hst.sl 0 rfl | exact hst.sl 1 rfl | exact hst.sl 2 rfl | exact hst.sl 3 rfl | exact hst.sl 4 rfl) (by decide)).mono ?_; rintro e Wk1 ⟨rfl, hnew⟩; replace hst := hst.keep hnew) | (go_at_call 20; (try clear hnew); refine (rightK (fun _ => (g4, 1, 1, [1])) g5 1 1 1 zeroD zeroD zeroD [((0 : Int), markN [1] 1 zeroD zeroD)] g11 1 1 _ (HT.out.of hst) (keys_one (by first | exact hst.sl 0 rfl | exact hst.sl 1 rfl | exact hst.sl 2 rfl | exact hst.sl 3 rfl | exact hst.sl 4 rfl) (by first | exact hst.sl 0 rfl | exact hst.sl 1 rfl | exact hst.sl 2 rfl | exact hst.sl 3 rfl | exact hst.sl 4 rfl)) (by first | exact hst.sl 0 rfl | exact hst.sl 1 rfl | exact hst.sl 2 rfl | exact hst.sl 3 rfl | exact hst.sl 4 rfl) (by decide)).mono ?_; rw [sealP_one]; rintro e W12 ⟨O12, c12, rfl, hnew⟩; replace hst := hst.trans hnew; simp only [List.cons_append, List.nil_append] at hst) | fail); refine ⟨by first | exact Below.refl _ _ | exact hnew.below, ?_⟩
      refine pm_g rfl ?_; go_wp2_with fail; refine ⟨by first | exact Below.refl _ _ | exact hnew.below, ?_⟩
      refine pm_nil ?_
      clear hnew
      have hst : St w W12 [.row O12 1 c12 3 1 (natsL [0])] := hst.pick [0] (by decide)
      go_wp2_with fail
      go_meet
      case rel => exact ⟨_, _, rfl, hst⟩
     ·go_wp2_with (first | (refine L_buildS (d := some 11) rfl rfl rfl [.agg (prArr 0 (markN [1] 1 zeroD zeroD))] (bs_1 (ev_tmp rfl)) rfl Tryd.underlying40 el_api_Seal (prArr_size _ _) (fun v hv => by rw [List.mem_singleton.1 hv]; exact prArr_size _ _) (by decide) (by decide) ?_; (try clear hnew); intro g11 W11 hnew; replace hst := hst.trans hnew; simp only [List.cons_append, List.nil_append] at hst; simp only [List.flatMap_cons, List.flatMap_nil, List.append_nil, prArr_flat] at hst) | (refine L_buildS (d := some 11) rfl rfl rfl [_] (bs_1 (ev_tmp rfl)) rfl Tryd.underlying40 el_api_Seal rfl (by first | (simp [Value.cells]; done) | (simp [Value.cells, Dig.size]; done)) (by decide) (by decide) ?_; (try clear hnew); intro g11 W11 hnew; replace hst := hst.trans hnew; simp only [List.cons_append, List.nil_append] at hst; simp only [List.flatMap_cons, List.flatMap_nil, List.append_nil, Value.cells, List.toList_toArray] at hst) | fail); refine ⟨fun _ => (by first | exact Below.refl _ _ | exact hnew.below), ?_⟩
      refine pm_g rfl ?_; go_wp2_with (first | (refine L_buildS (d := some 5) rfl rfl rfl [_] (bs_1 (ev_tmp rfl)) rfl Tryd.underlying37 el_S_uint8 rfl (by first | (simp [Value.cells]; done) | (simp [Value.cells, Dig.size]; done)) (by decide) (by decide) ?_; (try clear hnew); intro g5 W5 hnew; replace hst := hst.trans hnew; simp only [List.cons_append, List.nil_append] at hst; simp only [List.flatMap_cons, List.flatMap_nil, List.append_nil, Value.cells, List.toList_toArray] at hst) | fail); refine ⟨by first | exact Below.refl _ _ | exact hnew.below, ?_⟩
      refine pm_g rfl ?_; go_wp2_with (first | (refine L_buildP (d := some 10) rfl rfl rfl Tryd.underlying43 el_int el_api_Digest rfl rfl el_api_Seal (prArr_size _ _) ev_const (ev_tmp rfl) ?_) | (refine L_buildS (d := some 11) rfl rfl rfl [.agg (prArr 0 (markN [1] 1 zeroD zeroD))] (bs_1 (ev_tmp rfl)) rfl Tryd.underlying40 el_api_Seal (prArr_size _ _) (fun v hv => by rw [List.mem_singleton.1 hv]; exact prArr_size _ _) (by decide) (by decide) ?_; (try clear hnew); intro g11 W11 hnew; replace hst := hst.trans hnew; simp only [List.cons_append, List.nil_append] at hst; simp only [List.flatMap_cons, List.flatMap_nil, List.append_nil, prArr_flat] at hst) | (go_at_call 22; (try clear hnew); refine (mark_any [1] _ _ _ 1 zeroD zeroD zeroD _ (HT.out.of hst) (by first | exact hst.sl 0 rfl | exact hst.sl 1 rfl | exact hst.sl 2 rfl | exact hst.sl 3 rfl | exact hst.sl 4 rfl) (by decide)).mono ?_; rintro e Wk1 ⟨rfl, hnew⟩; replace hst := hst.keep hnew) | (go_at_call 20; (try clear hnew); refine (rightK (fun _ => (g4, 1, 1, [1])) g5 1 1 1 zeroD zeroD zeroD [((0 : Int), markN [1] 1 zeroD zeroD)] g11 1 1 _ (HT.out.of hst) (keys_one (by first | exact hst.sl 0 rfl | exact hst.sl 1 rfl | exact hst.sl 2 rfl | exact hst.sl 3 rfl | exact hst.sl 4 rfl) (by first | exact hst.sl 0 rfl | exact hst.sl 1 rfl | exact hst.sl 2 rfl | exact hst.sl 3 rfl | exact hst.sl 4 rfl)) (by first | exact hst.sl 0 rfl | exact hst.sl 1 rfl | exact hst.sl 2 rfl | exact hst.sl 3 rfl | exact hst.sl 4 rfl) (by decide)).mono ?_; rw [sealP_one]; rintro e W12 ⟨O12, c12, rfl, hnew⟩; replace hst := hst.trans hnew; simp only [List.cons_append, List.nil_append] at hst) | fail); refine ⟨by first | exact Below.refl _ _ | exact hnew.below, ?_⟩
      refine pm_g rfl ?_; go_wp2_with fail; refine ⟨by first | exact Below.refl _ _ | exact hnew.below, ?_⟩
      refine pm_nil ?_
      clear hnew
      have hst : St w W12 [.row O12 1 c12 3 1 (natsL [0])] := hst.pick [0] (by decide)
      go_wp2_with fail
      go_meet
      case rel => exact ⟨_, _, rfl, hst⟩
  ·go_wp2_with (first | (refine L_buildS (d := some 7) rfl rfl rfl [_] (bs_1 ev_const) rfl Tryd.underlying49 el_uint8 rfl (by first | (simp [Value.cells]; done) | (simp [Value.cells, Dig.size]; done)) (by decide) (by decide) ?_; (try clear hnew); intro g7 W7 hnew; replace hst := hst.trans hnew; simp only [List.cons_append, List.nil_append] at hst; simp only [List.flatMap_cons, List.flatMap_nil, List.append_nil, Value.cells, List.toList_toArray] at hst) | fail); refine ⟨fun _ => (by first | exact Below.refl _ _ | exact hnew.below), ?_⟩
   refine pm_two (ki := 2) (kj := 2) rfl rfl ?_ ?_
   ·go_wp2_with (first | (refine L_buildS (d := some 4) rfl rfl rfl [_] (bs_1 ev_const) rfl Tryd.underlying49 el_uint8 rfl (by first | (simp [Value.cells]; done) | (simp [Value.cells, Dig.size]; done)) (by decide) (by decide) ?_; (try clear hnew); intro g4 W4 hnew; replace hst := hst.trans hnew; simp only [List.cons_append, List.nil_append] at hst; simp only [List.flatMap_cons, List.flatMap_nil, List.append_nil, Value.cells, List.toList_toArray] at hst) | fail); refine ⟨fun _ => (by first | exact Below.refl _ _ | exact hnew.below), ?_⟩
    refine pm_two (ki := 2) (kj := 2) rfl rfl ?_ ?_
    ·go_wp2_with (first | (refine L_buildS (d := some 5) rfl rfl rfl [_] (bs_1 (ev_tmp rfl)) rfl Tryd.underlying37 el_S_uint8 rfl (by first | (simp [Value.cells]; done) | (simp [Value.cells, Dig.size]; done)) (by decide) (by decide) ?_; (try clear hnew); intro g5 W5 hnew; replace hst := hst.trans hnew; simp only [List.cons_append, List.nil_append] at hst; simp only [List.flatMap_cons, List.flatMap_nil, List.append_nil, Value.cells, List.toList_toArray] at hst) | fail); refine ⟨fun _ => (by first | exact Below.refl _ _ | exact hnew.below), ?_⟩
     refine pm_g rfl ?_; go_wp2_with (first | (refine L_buildP (d := some 10) rfl rfl rfl Tryd.underlying43 el_int el_api_Digest rfl rfl el_api_Seal (prArr_size _ _) ev_const (ev_tmp rfl) ?_) | (refine L_buildS (d := some 11) rfl rfl rfl [.agg (prArr 0 (markN [1] 1 zeroD zeroD))] (bs_1 (ev_tmp rfl)) rfl Tryd.underlying40 el_api_Seal (prArr_size _ _) (fun v hv => by rw [List.mem_singleton.1 hv]; exact prArr_size _ _) (by decide) (by decide) ?_; (try clear hnew); intro g11 W11 hnew; replace hst := hst.trans hnew; simp only [List.cons_append, List.nil_append] at hst; simp only [List.flatMap_cons, List.flatMap_nil, List.append_nil, prArr_flat] at hst) | (go_at_call 22; (try clear hnew); refine (mark_any [1] _ _ _ 1 zeroD zeroD zeroD _ (HT.out.of hst) (by first | exact hst.sl 0 rfl | exact hst.sl 1 rfl | exact hst.sl 2 rfl | exact hst.sl 3 rfl | exact hst.sl 4 rfl) (by decide)).mono ?_; rintro e Wk1 ⟨rfl, hnew⟩; replace hst := hst.keep hnew) | (go_at_call 20; (try clear hnew); refine (rightK (fun _ => (g4, 1, 1, [1])) g5 1 1 1 zeroD zeroD zeroD [((0 : Int), markN [1] 1 zeroD zeroD)] g11 1 1 _ (HT.out.of hst) (keys_one (by first | exact hst.sl 0 rfl | exact hst.sl 1 rfl | exact hst.sl 2 rfl | exact hst.sl 3 rfl | exact hst.sl 4 rfl) (by first | exact hst.sl 0 rfl | exact hst.sl 1 rfl | exact hst.sl 2 rfl | exact hst.sl 3 rfl | exact hst.sl 4 rfl)) (by first | exact hst.sl 0 rfl | exact hst.sl 1 rfl | exact hst.sl 2 rfl | exact hst.sl 3 rfl | exact hst.sl 4 rfl) (by decide)).mono ?_; rw [sealP_one]; rintro e W12 ⟨O12, c12, rfl, hnew⟩; replace hst := hst.trans hnew; simp only [List.cons_append, List.nil_append] at hst) | fail); refine ⟨by first | exact Below.refl _ _ | exact hnew.below, ?_⟩
     refine pm_g rfl ?_; go_wp2_with (first | (refine L_buildP (d := some 10) rfl rfl rfl Tryd.underlying43 el_int el_api_Digest rfl rfl el_api_Seal (prArr_size _ _) ev_const (ev_tmp rfl) ?_) | fail); refine ⟨by first | exact Below.refl _ _ | exact hnew.below, ?_⟩
     refine pm_g rfl ?_; go_wp2_with (first | (refine L_buildS (d := some 11) rfl rfl rfl [.agg (prArr 0 (markN [1] 1 zeroD zeroD))] (bs_1 (ev_tmp rfl)) rfl Tryd.underlying40 el_api_Seal (prArr_size _ _) (fun v hv => by rw [List.mem_singleton.1 hv]; exact prArr_size _ _) (by decide) (by decide) ?_; (try clear hnew); intro g11 W11 hnew; replace hst := hst.trans hnew; simp only [List.cons_append, List.nil_append] at hst; simp only [List.flatMap_cons, List.flatMap_nil, List.append_nil, prArr_flat] at hst) | (refine L_buildS (d := some 11) rfl rfl rfl [_] (bs_1 (ev_tmp rfl)) rfl Tryd.underlying40 el_api_Seal rfl (by first | (simp [Value.cells]; done) | (simp [Value.cells, Dig.size]; done)) (by decide) (by decide) ?_; (try clear hnew); intro g11 W11 hnew; replace hst := hst.trans hnew; simp only [List.cons_append, List.nil_append] at hst; simp only [List.flatMap_cons, List.flatMap_nil, List.append_nil, Value.cells, List.toList_toArray] at hst) | fail); refine ⟨by first | exact Below.refl _ _ | exact hnew.below, ?_⟩
     refine pm_g rfl ?_; go_wp2_with (first | (refine L_buildP (d := some 10) rfl rfl rfl Tryd.underlying43 el_int el_api_Digest rfl rfl el_api_Seal (prArr_size _ _) ev_const (ev_tmp rfl) ?_) | (refine L_buildS (d := some 11) rfl rfl rfl [.agg (prArr 0 (markN [1] 1 zeroD zeroD))] (bs_1 (ev_tmp rfl)) rfl Tryd.underlying40 el_api_Seal (prArr_size _ _) (fun v hv => by rw [List.mem_singleton.1 hv]; exact prArr_size _ _) (by decide) (by decide) ?_; (try clear hnew); intro g11 W11 hnew; replace hst := hst.trans hnew; simp only [List.cons_append, List.nil_append] at hst; simp only [List.flatMap_cons, List.flatMap_nil, List.append_nil, prArr_flat] at hst) | (go_at_call 22; (try clear hnew); refine (mark_any [1] _ _ _ 1 zeroD zeroD zeroD _ (HT.out.of hst) (by first | exact hst.sl 0 rfl | exact hst.sl 1 rfl | exact hst.sl 2 rfl | exact hst.sl 3 rfl | exact hst.sl 4 rfl) (by decide)).mono ?_; rintro e Wk1 ⟨rfl, hnew⟩; replace hst := hst.keep hnew) | (go_at_call 20; (try clear hnew); refine (rightK (fun _ => (g4, 1, 1, [1])) g5 1 1 1 zeroD zeroD zeroD [((0 : Int), markN [1] 1 zeroD zeroD)] g11 1 1 _ (HT.out.of hst) (keys_one (by first | exact hst.sl 0 rfl | exact hst.sl 1 rfl | exact hst.sl 2 rfl | exact hst.sl 3 rfl | exact hst.sl 4 rfl) (by first | exact hst.sl 0 rfl | exact hst.sl 1 rfl | exact hst.sl 2 rfl | exact hst.sl 3 rfl | exact hst.sl 4 rfl)) (by first | exact hst.sl 0 rfl | exact hst.sl 1 rfl | exact hst.sl 2 rfl | exact hst.sl 3 rfl | exact hst.sl 4 rfl) (by decide)).mono ?_; rw [sealP_one]; rintro e W12 ⟨O12, c12, rfl, hnew⟩; replace hst := hst.trans hnew; simp only [List.cons_append, List.nil_append] at hst) | fail); refine ⟨by first | exact Below.refl _ _ | exact hnew.below, ?_⟩
     refine pm_g rfl ?_; go_wp2_with fail; refine ⟨by first | exact Below.refl _ _ | exact hnew.below, ?_⟩
     refine pm_nil ?_
     clear hnew
     have hst : St w W12 [.row O12 1 c12 3 1 (natsL [0])] := hst.pick [0] (by decide)
     go_wp2_with fail
     go_meet
     case rel => exact ⟨_, _, rfl, hst⟩
    ·go_wp2_with (first | (refine L_buildP (d := some 10) rfl rfl rfl Tryd.underlying43 el_int el_api_Digest rfl rfl el_api_Seal (prArr_size _ _) ev_const (ev_tmp rfl) ?_) | (refine L_buildS (d := some 11) rfl rfl rfl [.agg (prArr 0 (markN [1] 1 zeroD zeroD))] (bs_1 (ev_tmp rfl)) rfl Tryd.underlying40 el_api_Seal (prArr_size _ _) (fun v hv => by rw [List.mem_singleton.1 hv]; exact prArr_size _ _) (by decide) (by decide) ?_; (try clear hnew); intro g11 W11 hnew; replace hst := hst.trans hnew; simp only [List.cons_append, List.nil_append] at hst; simp only [List.flatMap_cons, List.flatMap_nil, List.append_nil, prArr_flat] at hst) | (go_at_call 22; (try clear hnew); refine (mark_any [1] _ _ _ 1 zeroD zeroD zeroD _ (HT.out.of hst) (by first | exact hst.sl 0 rfl | exact hst.sl 1 rfl | exact hst.sl 2 rfl | exact hst.sl 3 rfl | exact hst.sl 4 rfl) (by decide)).mono ?_; rintro e Wk1 ⟨rfl, hnew⟩; replace hst := hst.keep hnew) | (go_at_call 20; (try clear hnew); refine (rightK (fun _ => (g4, 1, 1, [1])) g5 1 1 1 zeroD zeroD zeroD [((0 : Int), markN [1] 1 zeroD zeroD)] g11 1 1 _ (HT.out.of hst) (keys_one (by first | exact hst.sl 0 rfl | exact hst.sl 1 rfl | exact hst.sl 2 rfl | exact hst.sl 3 rfl | exact hst.sl 4 rfl) (by first | exact hst.sl 0 rfl | exact hst.sl 1 rfl | exact hst.sl 2 rfl | exact hst.sl 3 rfl | exact hst.sl 4 rfl)) (by first | exact hst.sl 0 rfl | exact hst.sl 1 rfl | exact hst.sl 2 rfl | exact hst.sl 3 rfl | exact hst.sl 4 rfl) (by decide)).mono ?_; rw [sealP_one]; rintro e W12 ⟨O12, c12, rfl, hnew⟩; replace hst := hst.trans hnew; simp only [List.cons_append, List.nil_append] at hst) | fail); refine ⟨fun _ => (by first | exact Below.refl _ _ | exact hnew.below), ?_⟩
     refine pm_q rfl rfl ?_; go_wp2_with (first | (refine L_buildP (d := some 10) rfl rfl rfl Tryd.underlying43 el_int el_api_Digest rfl rfl el_api_Seal (prArr_size _ _) ev_const (ev_tmp rfl) ?_) | fail)
     refine pm_two (ki := 2) (kj := 2) rfl rfl ?_ ?_
     ·go_wp2_with (first | (refine L_buildS (d := some 5) rfl rfl rfl [_] (bs_1 (ev_tmp rfl)) rfl Tryd.underlying37 el_S_uint8 rfl (by first | (simp [Value.cells]; done) | (simp [Value.cells, Dig.size]; done)) (by decide) (by decide) ?_; (try clear hnew); intro g5 W5 hnew; replace hst := hst.trans hnew; simp only [List.cons_append, List.nil_append] at hst; simp only [List.flatMap_cons, List.flatMap_nil, List.append_nil, Value.cells, List.toList_toArray] at hst) | fail); refine ⟨fun _ => (by first | exact Below.refl _ _ | exact hnew.below), ?_⟩
      refine pm_g rfl ?_; go_wp2_with (first | (refine L_buildS (d := some 11) rfl rfl rfl [.agg (prArr 0 (markN [1] 1 zeroD zeroD))] (bs_1 (ev_tmp rfl)) rfl Tryd.underlying40 el_api_Seal (prArr_size _ _) (fun v hv => by rw [List.mem_singleton.1 hv]; exact prArr_size _ _) (by decide) (by decide) ?_; (try clear hnew); intro g11 W11 hnew; replace hst := hst.trans hnew; simp only [List.cons_append, List.nil_append] at hst; simp only [List.flatMap_cons, List.flatMap_nil, List.append_nil, prArr_flat] at hst) | (refine L_buildS (d := some 11) rfl rfl rfl [_] (bs_1 (ev_tmp rfl)) rfl Tryd.underlying40 el_api_Seal rfl (by first | (simp [Value.cells]; done) | (simp [Value.cells, Dig.size]; done)) (by decide) (by decide) ?_; (try clear hnew); intro g11 W11 hnew; replace hst := hst.trans hnew; simp only [List.cons_append, List.nil_append] at hst; simp only [List.flatMap_cons, List.flatMap_nil, List.append_nil, Value.cells, List.toList_toArray] at hst) | fail); refine ⟨by first | exact Below.refl _ _ | exact hnew.below, ?_⟩
      refine pm_g rfl ?_; go_wp2_with (first | (refine L_buildP (d := some 10) rfl rfl rfl Tryd.underlying43 el_int el_api_Digest rfl rfl el_api_Seal (prArr_size _ _) ev_const (ev_tmp rfl) ?_) | (refine L_buildS (d := some 11) rfl rfl rfl [.agg (prArr 0 (markN [1] 1 zeroD zeroD))] (bs_1 (ev_tmp rfl)) rfl Tryd.underlying40 el_api_Seal (prArr_size _ _) (fun v hv => by rw [List.mem_singleton.1 hv]; exact prArr_size _ _) (by decide) (by decide) ?_; (try clear hnew); intro g11 W11 hnew; replace hst := hst.trans hnew; simp only [List.cons_append, List.nil_append] at hst; simp only [List.flatMap_cons, List.flatMap_nil, List.append_nil, prArr_flat] at hst) | (go_at_call 22; (try clear hnew); refine (mark_any [1] _ _ _ 1 zeroD zeroD zeroD _ (HT.out.of hst) (by first | exact hst.sl 0 rfl | exact hst.sl 1 rfl | exact hst.sl 2 rfl | exact hst.sl 3 rfl | exact hst.sl 4 rfl) (by decide)).mono ?_; rintro e Wk1 ⟨rfl, hnew⟩; replace hst := hst.keep hnew) | (go_at_call 20; (try clear hnew); refine (rightK (fun _ => (g4, 1, 1, [1])) g5 1 1 1 zeroD zeroD zeroD [((0 : Int), markN [1] 1 zeroD zeroD)] g11 1 1 _ (HT.out.of hst) (keys_one (by first | exact hst.sl 0 rfl | exact hst.sl 1 rfl | exact hst.sl 2 rfl | exact hst.sl 3 rfl | exact hst.sl 4 rfl) (by first | exact hst.sl 0 rfl | exact hst.sl 1 rfl | exact hst.sl 2 rfl | exact hst.sl 3 rfl | exact hst.sl 4 rfl)) (by first | exact hst.sl 0 rfl | exact hst.sl 1 rfl | exact hst.sl 2 rfl | exact hst.sl 3 rfl | exact hst.sl 4 rfl) (by decide)).mono ?_; rw [sealP_one]; rintro e W12 ⟨O12, c12, rfl, hnew⟩; replace hst := hst.trans hnew; simp only [List.cons_append, List.nil_append] at hst) | fail); refine ⟨by first | exact Below.refl _ _ | exact hnew.below, ?_⟩
      refine pm_g rfl ?_; go_wp2_with fail; refine ⟨by first | exact Below.refl _ _ | exact hnew.below, ?_⟩
      refine pm_nil ?_
      clear hnew
      have hst : St w W12 [.row O12 1 c12 3 1 (natsL [0])] := hst.pick [0] (by decide)
      go_wp2_with fail
      go_meet
      case rel => exact ⟨_, _, rfl, hst⟩
     ·go_wp2_with (first | (refine L_buildS (d := some 11) rfl rfl rfl [.agg (prArr 0 (markN [1] 1 zeroD zeroD))] (bs_1 (ev_tmp rfl)) rfl Tryd.underlying40 el_api_Seal (prArr_size _ _) (fun v hv => by rw [List.mem_singleton.1 hv]; exact prArr_size _ _) (by decide) (by decide) ?_; (try clear hnew); intro g11 W11 hnew; replace hst := hst.trans hnew; simp only [List.cons_append, List.nil_append] at hst; simp only [List.flatMap_cons, List.flatMap_nil, List.append_nil, prArr_flat] at hst) | (refine L_buildS (d := some 11) rfl rfl rfl [_] (bs_1 (ev_tmp rfl)) rfl Tryd.underlying40 el_api_Seal rfl (by first | (simp [Value.cells]; done) | (simp [Value.cells, Dig.size]; done)) (by decide) (by decide) ?_; (try clear hnew); intro g11 W11 hnew; replace hst := hst.trans hnew; simp only [List.cons_append, List.nil_append] at hst; simp only [List.flatMap_cons, List.flatMap_nil, List.append_nil, Value.cells, List.toList_toArray] at hst) | fail); refine ⟨fun _ => (by first | exact Below.refl _ _ | exact hnew.below), ?_⟩
      refine pm_g rfl ?_; go_wp2_with (first | (refine L_buildS (d := some 5) rfl rfl rfl [_] (bs_1 (ev_tmp rfl)) rfl Tryd.underlying37 el_S_uint8 rfl (by first | (simp [Value.cells]; done) | (simp [Value.cells, Dig.size]; done)) (by decide) (by decide) ?_; (try clear hnew); intro g5 W5 hnew; replace hst := hst.trans hnew; simp only [List.cons_append, List.nil_append] at hst; simp only [List.flatMap_cons, List.flatMap_nil, List.append_nil, Value.cells, List.toList_toArray] at hst) | fail); refine ⟨by first | exact Below.refl _ _ | exact hnew.below, ?_⟩
      refine pm_g rfl ?_; go_wp2_with (first | (refine L_buildP (d := some 10) rfl rfl rfl Tryd.underlying43 el_int el_api_Digest rfl rfl el_api_Seal (prArr_size _ _) ev_const (ev_tmp rfl) ?_) | (refine L_buildS (d := some 11) rfl rfl rfl [.agg (prArr 0 (markN [1] 1 zeroD zeroD))] (bs_1 (ev_tmp rfl)) rfl Tryd.underlying40 el_api_Seal (prArr_size _ _) (fun v hv => by rw [List.mem_singleton.1 hv]; exact prArr_size _ _) (by decide) (by decide) ?_; (try clear hnew); intro g11 W11 hnew; replace hst := hst.trans hnew; simp only [List.cons_append, List.nil_append] at hst; simp only [List.flatMap_cons, List.flatMap_nil, List.append_nil, prArr_flat] at hst) | (go_at_call 22; (try clear hnew); refine (mark_any [1] _ _ _ 1 zeroD zeroD zeroD _ (HT.out.of hst) (by first | exact hst.sl 0 rfl | exact hst.sl 1 rfl | exact hst.sl 2 rfl | exact hst.sl 3 rfl | exact hst.sl 4 rfl) (by decide)).mono ?_; rintro e Wk1 ⟨rfl, hnew⟩; replace hst := hst.keep hnew) | (go_at_call 20; (try clear hnew); refine (rightK (fun _ => (g4, 1, 1, [1])) g5 1 1 1 zeroD zeroD zeroD [((0 : Int), markN [1] 1 zeroD zeroD)] g11 1 1 _ (HT.out.of hst) (keys_one (by first | exact hst.sl 0 rfl | exact hst.sl 1 rfl | exact hst.sl 2 rfl | exact hst.sl 3 rfl | exact hst.sl 4 rfl) (by first | exact hst.sl 0 rfl | exact hst.sl 1 rfl | exact hst.sl 2 rfl | exact hst.sl 3 rfl | exact hst.sl 4 rfl)) (by first | exact hst.sl 0 rfl | exact hst.sl 1 rfl | exact hst.sl 2 rfl | exact hst.sl 3 rfl | exact hst.sl 4 rfl) (by decide)).mono ?_; rw [sealP_one]; rintro e W12 ⟨O12, c12, rfl, hnew⟩; replace hst := hst.trans hnew; simp only [List.cons_append, List.nil_append] at hst) | fail); refine ⟨by first | exact Below.refl _ _ | exact hnew.below, ?_⟩
      refine pm_g rfl ?_; go_wp2_with fail; refine ⟨by first | exact Below.refl _ _ | exact hnew.below, ?_⟩
      refine pm_nil ?_
      clear hnew
      have hst : St w W12 [.row O12 1 c12 3 1 (natsL [0])] := hst.pick [0] (by decide)
      go_wp2_with fail
      go_meet
      case rel => exact ⟨_, _, rfl, hst⟩
   ·go_wp2_with (first | (refine L_buildP (d := some 10) rfl rfl rfl Tryd.underlying43 el_int el_api_Digest rfl rfl el_api_Seal (prArr_size _ _) ev_const (ev_tmp rfl) ?_) | (refine L_buildS (d := some 11) rfl rfl rfl [.agg (prArr 0 (markN [1] 1 zeroD zeroD))] (bs_1 (ev_tmp rfl)) rfl Tryd.underlying40 el_api_Seal (prArr_size _ _) (fun v hv => by rw [List.mem_singleton.1 hv]; exact prArr_size _ _) (by decide) (by decide) ?_; (try clear hnew); intro g11 W11 hnew; replace hst := hst.trans hnew; simp only [List.cons_append, List.nil_append] at hst; simp only [List.flatMap_cons, List.flatMap_nil, List.append_nil, prArr_flat] at hst) | (go_at_call 22; (try clear hnew); refine (mark_any [1] _ _ _ 1 zeroD zeroD zeroD _ (HT.out.of hst) (by first | exact hst.sl 0 rfl | exact hst.sl 1 rfl | exact hst.sl 2 rfl | exact hst.sl 3 rfl | exact hst.sl 4 rfl) (by decide)).mono ?_; rintro e Wk1 ⟨rfl, hnew⟩; replace hst := hst.keep hnew) | (go_at_call 20; (try clear hnew); refine (rightK (fun _ => (g4, 1, 1, [1])) g5 1 1 1 zeroD zeroD zeroD [((0 : Int), markN [1] 1 zeroD zeroD)] g11 1 1 _ (HT.out.of hst) (keys_one (by first | exact hst.sl 0 rfl | exact hst.sl 1 rfl | exact hst.sl 2 rfl | exact hst.sl 3 rfl | exact hst.sl 4 rfl) (by first | exact hst.sl 0 rfl | exact hst.sl 1 rfl | exact hst.sl 2 rfl | exact hst.sl 3 rfl | exact hst.sl 4 rfl)) (by first | exact hst.sl 0 rfl | exact hst.sl 1 rfl | exact hst.sl 2 rfl | exact hst.sl 3 rfl | exact hst.sl 4 rfl) (by decide)).mono ?_; rw [sealP_one]; rintro e W12 ⟨O12, c12, rfl, hnew⟩; replace hst := hst.trans hnew; simp only [List.cons_append, List.nil_append] at hst) | fail); refine ⟨fun _ => (by first | exact Below.refl _ _ | exact hnew.below), ?_⟩
    refine pm_q rfl rfl ?_; go_wp2_with (first | (refine L_buildP (d := some 10) rfl rfl rfl Tryd.underlying43 el_int el_api_Digest rfl rfl el_api_Seal (prArr_size _ _) ev_const (ev_tmp rfl) ?_) | fail)
    refine pm_two (ki := 2) (kj := 2) rfl rfl ?_ ?_
    ·go_wp2_with (first | (refine L_buildS (d := some 4) rfl rfl rfl [_] (bs_1 ev_const) rfl Tryd.underlying49 el_uint8 rfl (by first | (simp [Value.cells]; done) | (simp [Value.cells, Dig.size]; done)) (by decide) (by decide) ?_; (try clear hnew); intro g4 W4 hnew; replace hst := hst.trans hnew; simp only [List.cons_append, List.nil_append] at hst; simp only [List.flatMap_cons, List.flatMap_nil, List.append_nil, Value.cells, List.toList_toArray] at hst) | fail); refine ⟨fun _ => (by first | exact Below.refl _ _ | exact hnew.below), ?_⟩
     refine pm_two (ki := 2) (kj := 2) rfl rfl ?_ ?_
     ·go_wp2_with (first | (refine L_buildS (d := some 5) rfl rfl rfl [_] (bs_1 (ev_tmp rfl)) rfl Tryd.underlying37 el_S_uint8 rfl (by first | (simp [Value.cells]; done) | (simp [Value.cells, Dig.size]; done)) (by decide) (by decide) ?_; (try clear hnew); intro g5 W5 hnew; replace hst := hst.trans hnew; simp only [List.cons_append, List.nil_append] at hst; simp only [List.flatMap_cons, List.flatMap_nil, List.append_nil, Value.cells, List.toList_toArray] at hst) | fail); refine ⟨fun _ => (by first | exact Below.refl _ _ | exact hnew.below), ?_⟩
      refine pm_g rfl ?_; go_wp2_with (first | (refine L_buildS (d := some 11) rfl rfl rfl [.agg (prArr 0 (markN [1] 1 zeroD zeroD))] (bs_1 (ev_tmp rfl)) rfl Tryd.underlying40 el_api_Seal (prArr_size _ _) (fun v hv => by rw [List.mem_singleton.1 hv]; exact prArr_size _ _) (by decide) (by decide) ?_; (try clear hnew); intro g11 W11 hnew; replace hst := hst.trans hnew; simp only [List.cons_append, List.nil_append] at hst; simp only [List.flatMap_cons, List.flatMap_nil, List.append_nil, prArr_flat] at hst) | (refine L_buildS (d := some 11) rfl rfl rfl [_] (bs_1 (ev_tmp rfl)) rfl Tryd.underlying40 el_api_Seal rfl (by first | (simp [Value.cells]; done) | (simp [Value.cells, Dig.size]; done)) (by decide) (by decide) ?_; (try clear hnew); intro g11 W11 hnew; replace hst := hst.trans hnew; simp only [List.cons_append, List.nil_append] at hst; simp only [List.flatMap_cons, List.flatMap_nil, List.append_nil, Value.cells, List.toList_toArray] at hst) | fail); refine ⟨by first | exact Below.refl _ _ | exact hnew.below, ?_⟩
      refine pm_g rfl ?_; go_wp2_with (first | (refine L_buildP (d := some 10) rfl rfl rfl Tryd.underlying43 el_int el_api_Digest rfl rfl el_api_Seal (prArr_size _ _) ev_const (ev_tmp rfl) ?_) | (refine L_buildS (d := some 11) rfl rfl rfl [.agg (prArr 0 (markN [1] 1 zeroD zeroD))] (bs_1 (ev_tmp rfl)) rfl Tryd.underlying40 el_api_Seal (prArr_size _ _) (fun v hv => by rw [List.mem_singleton.1 hv]; exact prArr_size _ _) (by decide) (by decide) ?_; (try clear hnew); intro g11 W11 hnew; replace hst := hst.trans hnew; simp only [List.cons_append, List.nil_append] at hst; simp only [List.flatMap_cons, List.flatMap_nil, List.append_nil, prArr_flat] at hst) | (go_at_call 22; (try clear hnew); refine (mark_any [1] _ _ _ 1 zeroD zeroD zeroD _ (HT.out.of hst) (by first | exact hst.sl 0 rfl | exact hst.sl 1 rfl | exact hst.sl 2 rfl | exact hst.sl 3 rfl | exact hst.sl 4 rfl) (by decide)).mono ?_; rintro e Wk1 ⟨rfl, hnew⟩; replace hst := hst.keep hnew) | (go_at_call 20; (try clear hnew); refine (rightK (fun _ => (g4, 1, 1, [1])) g5 1 1 1 zeroD zeroD zeroD [((0 : Int), markN [1] 1 zeroD zeroD)] g11 1 1 _ (HT.out.of hst) (keys_one (by first | exact hst.sl 0 rfl | exact hst.sl 1 rfl | exact hst.sl 2 rfl | exact hst.sl 3 rfl | exact hst.sl 4 rfl) (by first | exact hst.sl 0 rfl | exact hst.sl 1 rfl | exact hst.sl 2 rfl | exact hst.sl 3 rfl | exact hst.sl 4 rfl)) (by first | exact hst.sl 0 rfl | exact hst.sl 1 rfl | exact hst.sl 2 rfl | exact hst.sl 3 rfl | exact hst.sl 4 rfl) (by decide)).mono ?_; rw [sealP_one]; rintro e W12 ⟨O12, c12, rfl, hnew⟩; replace hst := hst.trans hnew; simp only [List.cons_append, List.nil_append] at hst) | fail); refine ⟨by first | exact Below.refl _ _ | exact hnew.below, ?_⟩
      refine pm_g rfl ?_; go_wp2_with fail; refine ⟨by first | exact Below.refl _ _ | exact hnew.below, ?_⟩
      refine pm_nil ?_
      clear hnew
      have hst : St w W12 [.row O12 1 c12 3 1 (natsL [0])] := hst.pick [0] (by decide)
      go_wp2_with fail
      go_meet
      case rel => exact ⟨_, _, rfl, hst⟩
     ·go_wp2_with (first | (refine L_buildS (d := some 11) rfl rfl rfl [.agg (prArr 0 (markN [1] 1 zeroD zeroD))] (bs_1 (ev_tmp rfl)) rfl Tryd.underlying40 el_api_Seal (prArr_size _ _) (fun v hv => by rw [List.mem_singleton.1 hv]; exact prArr_size _ _) (by decide) (by decide) ?_; (try clear hnew); intro g11 W11 hnew; replace hst := hst.trans hnew; simp only [List.cons_append, List.nil_append] at hst; simp only [List.flatMap_cons, List.flatMap_nil, List.append_nil, prArr_flat] at hst) | (refine L_buildS (d := some 11) rfl rfl rfl [_] (bs_1 (ev_tmp rfl)) rfl Tryd.underlying40 el_api_Seal rfl (by first | (simp [Value.cells]; done) | (simp [Value.cells, Dig.size]; done)) (by decide) (by decide) ?_; (try clear hnew); intro g11 W11 hnew; replace hst := hst.trans hnew; simp only [List.cons_append, List.nil_append] at hst; simp only [List.flatMap_cons, List.flatMap_nil, List.append_nil, Value.cells, List.toList_toArray] at hst) | fail); refine ⟨fun _ => (by first | exact Below.refl _ _ | exact hnew.below), ?_⟩
      refine pm_g rfl ?_; go_wp2_with (first | (refine L_buildS (d := some 5) rfl rfl rfl [_] (bs_1 (ev_tmp rfl)) rfl Tryd.underlying37 el_S_uint8 rfl (by first | (simp [Value.cells]; done) | (simp [Value.cells, Dig.size]; done)) (by decide) (by decide) ?_; (try clear hnew); intro g5 W5 hnew; replace hst := hst.trans hnew; simp only [List.cons_append, List.nil_append] at hst; simp only [List.flatMap_cons, List.flatMap_nil, List.append_nil, Value.cells, List.toList_toArray] at hst) | fail); refine ⟨by first | exact Below.refl _ _ | exact hnew.below, ?_⟩
      refine pm_g rfl ?_; go_wp2_with (first | (refine L_buildP (d := some 10) rfl rfl rfl Tryd.underlying43 el_int el_api_Digest rfl rfl el_api_Seal (prArr_size _ _) ev_const (ev_tmp rfl) ?_) | (refine L_buildS (d := some 11) rfl rfl rfl [.agg (prArr 0 (markN [1] 1 zeroD zeroD))] (bs_1 (ev_tmp rfl)) rfl Tryd.underlying40 el_api_Seal (prArr_size _ _) (fun v hv => by rw [List.mem_singleton.1 hv]; exact prArr_size _ _) (by decide) (by decide) ?_; (try clear hnew); intro g11 W11 hnew; replace hst := hst.trans hnew; simp only [List.cons_append, List.nil_append] at hst; simp only [List.flatMap_cons, List.flatMap_nil, List.append_nil, prArr_flat] at hst) | (go_at_call 22; (try clear hnew); refine (mark_any [1] _ _ _ 1 zeroD zeroD zeroD _ (HT.out.of hst) (by first | exact hst.sl 0 rfl | exact hst.sl 1 rfl | exact hst.sl 2 rfl | exact hst.sl 3 rfl | exact hst.sl 4 rfl) (by decide)).mono ?_; rintro e Wk1 ⟨rfl, hnew⟩; replace hst := hst.keep hnew) | (go_at_call 20; (try clear hnew); refine (rightK (fun _ => (g4, 1, 1, [1])) g5 1 1 1 zeroD zeroD zeroD [((0 : Int), markN [1] 1 zeroD zeroD)] g11 1 1 _ (HT.out.of hst) (keys_one (by first | exact hst.sl 0 rfl | exact hst.sl 1 rfl | exact hst.sl 2 rfl | exact hst.sl 3 rfl | exact hst.sl 4 rfl) (by first | exact hst.sl 0 rfl | exact hst.sl 1 rfl | exact hst.sl 2 rfl | exact hst.sl 3 rfl | exact hst.sl 4 rfl)) (by first | exact hst.sl 0 rfl | exact hst.sl 1 rfl | exact hst.sl 2 rfl | exact hst.sl 3 rfl | exact hst.sl 4 rfl) (by decide)).mono ?_; rw [sealP_one]; rintro e W12 ⟨O12, c12, rfl, hnew⟩; replace hst := hst.trans hnew; simp only [List.cons_append, List.nil_append] at hst) | fail); refine ⟨by first | exact Below.refl _ _ | exact hnew.below, ?_⟩
      refine pm_g rfl ?_; go_wp2_with fail; refine ⟨by first | exact Below.refl _ _ | exact hnew.below, ?_⟩
      refine pm_nil ?_
      clear hnew
      have hst : St w W12 [.row O12 1 c12 3 1 (natsL [0])] := hst.pick [0] (by decide)
      go_wp2_with fail
      go_meet
      case rel => exact ⟨_, _, rfl, hst⟩
    ·go_wp2_with (first | (refine L_buildS (d := some 11) rfl rfl rfl [.agg (prArr 0 (markN [1] 1 zeroD zeroD))] (bs_1 (ev_tmp rfl)) rfl Tryd.underlying40 el_api_Seal (prArr_size _ _) (fun v hv => by rw [List.mem_singleton.1 hv]; exact prArr_size _ _) (by decide) (by decide) ?_; (try clear hnew); intro g11 W11 hnew; replace hst := hst.trans hnew; simp only [List.cons_append, List.nil_append] at hst; simp only [List.flatMap_cons, List.flatMap_nil, List.append_nil, prArr_flat] at hst) | (refine L_buildS (d := some 11) rfl rfl rfl [_] (bs_1 (ev_tmp rfl)) rfl Tryd.underlying40 el_api_Seal rfl (by first | (simp [Value.cells]; done) | (simp [Value.cells, Dig.size]; done)) (by decide) (by decide) ?_; (try clear hnew); intro g11 W11 hnew; replace hst := hst.trans hnew; simp only [List.cons_append, List.nil_append] at hst; simp only [List.flatMap_cons, List.flatMap_nil, List.append_nil, Value.cells, List.toList_toArray] at hst) | fail); refine ⟨fun _ => (by first | exact Below.refl _ _ | exact hnew.below), ?_⟩
     refine pm_g rfl ?_; go_wp2_with (first | (refine L_buildS (d := some 4) rfl rfl rfl [_] (bs_1 ev_const) rfl Tryd.underlying49 el_uint8 rfl (by first | (simp [Value.cells]; done) | (simp [Value.cells, Dig.size]; done)) (by decide) (by decide) ?_; (try clear hnew); intro g4 W4 hnew; replace hst := hst.trans hnew; simp only [List.cons_append, List.nil_append] at hst; simp only [List.flatMap_cons, List.flatMap_nil, List.append_nil, Value.cells, List.toList_toArray] at hst) | fail); refine ⟨by first | exact Below.refl _ _ | exact hnew.below, ?_⟩
     refine pm_g rfl ?_; go_wp2_with (first | (refine L_buildS (d := some 5) rfl rfl rfl [_] (bs_1 (ev_tmp rfl)) rfl Tryd.underlying37 el_S_uint8 rfl (by first | (simp [Value.cells]; done) | (simp [Value.cells, Dig.size]; done)) (by decide) (by decide) ?_; (try clear hnew); intro g5 W5 hnew; replace hst := hst.trans hnew; simp only [List.cons_append, List.nil_append] at hst; simp only [List.flatMap_cons, List.flatMap_nil, List.append_nil, Value.cells, List.toList_toArray] at hst) | fail); refine ⟨by first | exact Below.refl _ _ | exact hnew.below, ?_⟩
     refine pm_g rfl ?_; go_wp2_with (first | (refine L_buildP (d := some 10) rfl rfl rfl Tryd.underlying43 el_int el_api_Digest rfl rfl el_api_Seal (prArr_size _ _) ev_const (ev_tmp rfl) ?_) | (refine L_buildS (d := some 11) rfl rfl rfl [.agg (prArr 0 (markN [1] 1 zeroD zeroD))] (bs_1 (ev_tmp rfl)) rfl Tryd.underlying40 el_api_Seal (prArr_size _ _) (fun v hv => by rw [List.mem_singleton.1 hv]; exact prArr_size _ _) (by decide) (by decide) ?_; (try clear hnew); intro g11 W11 hnew; replace hst := hst.trans hnew; simp only [List.cons_append, List.nil_append] at hst; simp only [List.flatMap_cons, List.flatMap_nil, List.append_nil, prArr_flat] at hst) | (go_at_call 22; (try clear hnew); refine (mark_any [1] _ _ _ 1 zeroD zeroD zeroD _ (HT.out.of hst) (by first | exact hst.sl 0 rfl | exact hst.sl 1 rfl | exact hst.sl 2 rfl | exact hst.sl 3 rfl | exact hst.sl 4 rfl) (by decide)).mono ?_; rintro e Wk1 ⟨rfl, hnew⟩; replace hst := hst.keep hnew) | (go_at_call 20; (try clear hnew); refine (rightK (fun _ => (g4, 1, 1, [1])) g5 1 1 1 zeroD zeroD zeroD [((0 : Int), markN [1] 1 zeroD zeroD)] g11 1 1 _ (HT.out.of hst) (keys_one (by first | exact hst.sl 0 rfl | exact hst.sl 1 rfl | exact hst.sl 2 rfl | exact hst.sl 3 rfl | exact hst.sl 4 rfl) (by first | exact hst.sl 0 rfl | exact hst.sl 1 rfl | exact hst.sl 2 rfl | exact hst.sl 3 rfl | exact hst.sl 4 rfl)) (by first | exact hst.sl 0 rfl | exact hst.sl 1 rfl | exact hst.sl 2 rfl | exact hst.sl 3 rfl | exact hst.sl 4 rfl) (by decide)).mono ?_; rw [sealP_one]; rintro e W12 ⟨O12, c12, rfl, hnew⟩; replace hst := hst.trans hnew; simp only [List.cons_append, List.nil_append] at hst) | fail); refine ⟨by first | exact Below.refl _ _ | exact hnew.below, ?_⟩
     refine pm_g rfl ?_; go_wp2_with fail; refine ⟨by first | exact Below.refl _ _ | exact hnew.below, ?_⟩
     refine pm_nil ?_
     clear hnew
     have hst : St w W12 [.row O12 1 c12 3 1 (natsL [0])] := hst.pick [0] (by decide)
     go_wp2_with fail
     go_meet
     case rel => exact ⟨_, _, rfl, hst⟩
 case rest =>
  clear hst
  obtain ⟨O, oc, rfl, hst⟩ := hcut
  have hs := hst.sl 0 rfl
  go_wp2_with (first
   | (refine L_load1 (d := some 19) rfl rfl rfl (by rfl) Tryd.underlying3 rfl (v := .int .i64 0) (hr18 0 _ rfl) ?_)
   | (refine L_idxS (d := some 18) rfl rfl rfl (by rfl) (by rfl) Tryd.underlying44 el_int (by first | assumption | exact hst.sl 0 rfl | exact hst.old (by decide) (by assumption)) (by omega) (by omega) ?_; intro o18 p18 ha18 hr18; (first | subst ha18 | (obtain ⟨h1, h2⟩ := some_addr ha18; subst h1; subst h2; clear ha18) | skip))
   | (refine L_load1 (d := some 19) rfl rfl rfl (by rfl) Tryd.underlying3 rfl (by first | assumption | exact cell_of (hst.get 0 rfl) rfl) ?_)
   | fail)
  go_ret
  exact ⟨rfl, hst.forget⟩
end Go.Proofs.YtkbleigmfcleaaaDoor

set_option maxRecDepth 20000
set_option linter.unusedSimpArgs false
set_option linter.unusedVariables false
namespace Go.Proofs.YtkbleigmfcleaaaDoor
open Go.RowKit
def twiceR (ss : List (Int × Dig)) : Nat → List (Int × Dig)
 | 0 => []
 | j + 1 => twiceR ss j ++ (match ss[ss.length - (j + 1)]? with | some p => [p, p] | none => [])
theorem mem_twiceR (ss : List (Int × Dig)) (x : Int × Dig) : ∀ j, j ≤ ss.length → (x ∈ twiceR ss j ↔ x ∈ ss.drop (ss.length - j)) := by
 intro j
 induction j with
 | zero => intro _; simp [twiceR]
 | succ j ih =>
  intro hj
  have hlt : ss.length - (j + 1) < ss.length := by omega
  have hd : ss.drop (ss.length - (j + 1)) = ss[ss.length - (j + 1)] :: ss.drop (ss.length - j) := by
   rw [List.drop_eq_getElem_cons hlt, show ss.length - (j + 1) + 1 = ss.length - j by omega]
  rw [hd, twiceR, List.getElem?_eq_getElem hlt, List.mem_append, ih (by omega), List.mem_cons]
  simp only [List.mem_cons, List.not_mem_nil, or_false, or_self]
  exact Or.comm
theorem length_twiceR (ss : List (Int × Dig)) : ∀ j, j ≤ ss.length → (twiceR ss j).length = 2 * j := by
 intro j
 induction j with
 | zero => intro _; rfl
 | succ j ih =>
  intro hj
  rw [twiceR, List.getElem?_eq_getElem (show ss.length - (j + 1) < ss.length by omega), List.length_append, ih (by omega)]
  simp
  omega
theorem sealP_more (kf : Nat → Piece) (n : Int) (x y : Dig) (ss more : List (Int × Dig)) : sealP kf n x y (more ++ twiceR ss ss.length) = fun i => sealP kf n x y ss i || sealP kf n x y more i := by
 funext i
 unfold sealP
 rw [Bool.eq_iff_iff]
 simp only [List.mem_append, mem_twiceR ss _ ss.length (Nat.le_refl _), Nat.sub_self, List.drop_zero, decide_eq_true_eq, Bool.or_eq_true]
 exact Or.comm
theorem pairs_ones (l : List (Int × Dig)) : ∀ u ∈ pairsL l, u.oneCell' = true := by
 intro u hu
 obtain ⟨p, _, hp⟩ := List.mem_flatMap.1 hu
 exact prArr_one p.1 p.2 u (by rw [prArr_list]; exact hp)
theorem mem_right {p : Nat → Bool} {k i : Nat} (h : i < k) : decide (i ∈ rightL p k) = p i := by
 rw [Bool.eq_iff_iff, decide_eq_true_eq, mem_rightL]
 exact ⟨fun h => h.2, fun h' => ⟨h, h'⟩⟩
set_option maxHeartbeats 8000000 in
set_option maxRecDepth 100000 in
theorem teamMore_any (w : World) (hT : Tb w) (kf : Nat → Piece) (K : Option Addr) (k kc : Nat) (hk : Keys w kf K k kc) (n : Int) (x y z : Dig) (ss : List (Int × Dig)) (S : Option Addr) (m sc : Nat) (hs : SlR w S m sc 33 (pairsL ss)) (more : List (Int × Dig)) (M : Option Addr) (q qc : Nat) (hq : SlR w M q qc 33 (pairsL more)) :
  Calls Tryd.prog 4 #[.slice K k kc, .agg (hdArr n x y z), .slice S m sc, .slice M q qc] w fun e w' => e = .returned (.bool true) ∧ St w w' [] := by
 have hst := St.refl w
 have HT := Lib.hid hT
 have HK := Lib.hid hk
 clear hT hk
 by_cases hbig : 40 < k ∨ 40 < m ∨ 40 < q
 ·have hb : (40 : Int) < (k : Int) ∨ ¬ (40 : Int) < (k : Int) ∧ (40 : Int) < (m : Int) ∨ ¬ (40 : Int) < (k : Int) ∧ ¬ (40 : Int) < (m : Int) ∧ (40 : Int) < (q : Int) := by omega
  clear hbig
  rcases hb with h1 | ⟨h1, h2⟩ | ⟨h1, h2, h3⟩
  all_goals
   go_enter Tryd.func4, Tryd.ntmps4
   go_wp2_with (first
    | (go_at_call 19; (try clear hnew); refine (marked_any _ (HT.out.of hst)).mono ?_; rintro e Wk1 ⟨rfl, hnew⟩; replace hst := hst.keep hnew)
    | (refine L_boxA (d := some 5) rfl rfl rfl (ev_tmp rfl) ?_; (try clear hnew); intro g5 W5 hnew; replace hst := hst.trans hnew; simp only [List.cons_append, List.nil_append] at hst)
    | fail)
   go_ret
   exact ⟨rfl, hst.forget⟩
 ·have h1 : ¬ (40 : Int) < (k : Int) := by omega
  have h2 : ¬ (40 : Int) < (m : Int) := by omega
  have h3 : ¬ (40 : Int) < (q : Int) := by omega
  have h40 : k ≤ 40 := by omega
  have m40 : m ≤ 40 := by omega
  have q40 : q ≤ 40 := by omega
  clear hbig
  have hml := hs.1
  rw [length_pairsL] at hml
  have Hml := Lib.hid (show ss.length = m by omega)
  clear hml
  go_enter Tryd.func4, Tryd.ntmps4
  go_upto_region 1 with (first
   | (refine L_boxA (d := some 5) rfl rfl rfl (ev_tmp rfl) ?_; (try clear hnew); intro g5 W5 hnew; replace hst := hst.trans hnew; simp only [List.cons_append, List.nil_append] at hst)
   | fail)
  go_upto_region 2 with (first
   | (go_at_call 19; (try clear hnew); refine (marked_any _ (HT.out.of hst)).mono ?_; rintro e Wk2 ⟨rfl, hnew⟩; replace hst := hst.keep hnew)
   | fail)
  go_upto_region 4 with (first
   | fail)
  go_upto_region 6 with (first
   | fail)
  go_upto_region 7 with (first
   | fail)
  clear hnew
  replace hst := hst.nilRow 43 33
  go_upto_region 8 with (first
   | (refine L_appendO (d := some 38) rfl rfl hst rfl (by rfl) (by rfl) Tryd.underlying40 el_api_Seal rfl (by decide) (by decide) 0 rfl (by first | rfl | omega) (by first | exact hst.old (by decide) hq | exact hst.sl 0 rfl | exact hst.sl 1 rfl | assumption | exact hst.old (by decide) (by assumption)) (by first | exact oneCell_bytes | (simp [Value.oneCell']; done) | exact pairs_ones _) (by omega) ?_; clear hst; intro A38 c38 W38 hst; simp only [List.set_cons_zero, List.set_cons_succ, List.nil_append, Nat.zero_add] at hst)
   | (refine L_appendO (d := some 38) rfl rfl hst rfl (by rfl) (by rfl) Tryd.underlying40 el_api_Seal rfl (by decide) (by decide) 1 rfl (by first | rfl | omega) (by first | exact hst.old (by decide) hq | exact hst.sl 0 rfl | exact hst.sl 1 rfl | assumption | exact hst.old (by decide) (by assumption)) (by first | exact oneCell_bytes | (simp [Value.oneCell']; done) | exact pairs_ones _) (by omega) ?_; clear hst; intro A38 c38 W38 hst; simp only [List.set_cons_zero, List.set_cons_succ, List.nil_append, Nat.zero_add] at hst)
   | (refine L_appendF (d := some 38) rfl rfl rfl (by rfl) (by rfl) Tryd.underlying40 el_api_Seal rfl (by decide) (by assumption) (by first | assumption | exact hst.old (by decide) hq | exact hst.sl 0 rfl | exact hst.sl 1 rfl | assumption | exact hst.old (by decide) (by assumption)) (by omega) (by omega) (by omega) ?_; (try clear hnew); intro A38 c38 W38 hnew; replace hst := hst.trans hnew; simp only [List.cons_append, List.nil_append] at hst)
   | fail)
  go_wp2_with (first
   | fail)
  clear h1 h2 h3
  have hst : St w W38 [.row A38 (q + 2 * 0) c38 43 33 (pairsL (more ++ twiceR ss 0)), .blk g5 39 (hdArr n x y z)] := by
   rw [twiceR, List.append_nil]
   exact hst
  go_loopg [10, 11] m (fun gk s10 s11 wr => ∃ (j oc : Nat) (O : Option Addr), Hid (j + gk = m) ∧ s10 = .slice O (q + 2 * j) oc ∧ s11 = .int .i64 ((gk : Int) - 1) ∧ St w wr [.row O (q + 2 * j) oc 43 33 (pairsL (more ++ twiceR ss j)), .blk g5 39 (hdArr n x y z)])
  case atStart => exact ⟨0, _, _, Lib.hid (by omega), rfl, rfl, hst⟩
  case round =>
   clear hst
   obtain ⟨j, oc, O, HJ, rfl, rfl, hst⟩ := hrel
   have hj := HJ.out
   by_cases hp : 0 < gk
   ·obtain ⟨g, rfl⟩ : ∃ g, gk = g + 1 := ⟨gk - 1, by omega⟩
    have e1 : ((g + 1 : Nat) : Int) - 1 = (g : Int) := by omega
    rw [e1]
    have hgm : g < m := by omega
    have hj40 : j ≤ 40 := by omega
    have hil := Lib.hid (show g < ss.length by rw [Hml.out]; exact hgm)
    have HC := Lib.hid (fun (W : World) (g' off : Nat) h => pair_cells (W := W) (g := g') (off := off) (i := g) (ss := ss) h hil.out)
    have HE : ∃ p : Int × Dig, Hid (p = ss[g]'hil.out) := ⟨_, Lib.hid rfl⟩
    obtain ⟨p, HE⟩ := HE
    rw [← HE.out] at HC
    have HTw := Lib.hid (show twiceR ss (j + 1) = twiceR ss j ++ [p, p] by
     have e : ss.length - (j + 1) = g := by rw [Hml.out]; omega
     rw [twiceR, e, List.getElem?_eq_getElem hil.out, ← HE.out])
    obtain ⟨pm, pq⟩ := p
    dsimp only at HC
    clear hj e1 hp
    go_wp2_with (first
     | fail)
    refine wp_region_idxT [(0, 0), (1, 0), (2, 0), (3, 0), (4, 0), (5, 0), (6, 2), (7, 2), (8, 2), (9, 2), (10, 1), (11, 2)] (by kernel_rfl) (by kernel_rfl) ?_
    replace hst := hst.drew
    refine idx_q rfl rfl ?_; go_wp2_with fail
    refine idx_q rfl rfl ?_; go_wp2_with fail
    refine idx_q rfl rfl ?_; go_wp2_with fail
    refine idx_q rfl rfl ?_; go_wp2_with (first | (refine L_idxS (d := some 49) rfl rfl rfl (by rfl) (by rfl) Tryd.underlying40 el_api_Seal (by first | exact hst.old (by decide) hs | assumption | exact hst.sl 0 rfl | exact hst.sl 1 rfl | exact hst.sl 2 rfl | exact hst.old (by decide) (by assumption)) (by omega) (by omega) ?_; intro o49 p49 ha49 hr49; (first | subst ha49 | (obtain ⟨h1, h2⟩ := some_addr ha49; subst h1; subst h2; clear ha49) | skip)) | fail)
    refine idx_q rfl rfl ?_; go_wp2_with (first | (refine L_loadM (d := some 50) rfl rfl rfl (by rfl) Tryd.underlying43 rfl el_api_Seal (HC.out _ _ _ hr49) (prArr_size _ _) ?_) | (first | (refine L_loadA (d := some 50) rfl rfl rfl (by rfl) Tryd.underlying43 rfl el_api_Seal (by first | exact hst.get 0 rfl | exact hst.get 1 rfl | exact hst.get 2 rfl) (by first | rfl | exact Dig.size _ | (simp; done)) ?_) | (refine L_loadM (d := some 50) rfl rfl rfl (by rfl) Tryd.underlying43 rfl el_api_Seal (by first | assumption) (by first | rfl | exact Dig.size _ | (simp; done)) ?_)) | fail)
    refine idx_q rfl rfl ?_; go_wp2_with fail
    refine idx_g rfl ?_; go_wp2_with fail; refine ⟨by first | exact Below.refl _ _ | exact hnew.below, ?_⟩
    refine idx_g rfl ?_; go_wp2_with (first | (refine L_idxS (d := some 53) rfl rfl rfl (by rfl) (by rfl) Tryd.underlying40 el_api_Seal (by first | exact hst.old (by decide) hs | assumption | exact hst.sl 0 rfl | exact hst.sl 1 rfl | exact hst.sl 2 rfl | exact hst.old (by decide) (by assumption)) (by omega) (by omega) ?_; intro o53 p53 ha53 hr53; (first | subst ha53 | (obtain ⟨h1, h2⟩ := some_addr ha53; subst h1; subst h2; clear ha53) | skip)) | fail); refine ⟨by first | exact Below.refl _ _ | exact hnew.below, ?_⟩
    refine idx_g rfl ?_; go_wp2_with (first | (refine L_loadM (d := some 54) rfl rfl rfl (by rfl) Tryd.underlying43 rfl el_api_Seal (HC.out _ _ _ hr53) (prArr_size _ _) ?_) | (first | (refine L_loadA (d := some 54) rfl rfl rfl (by rfl) Tryd.underlying43 rfl el_api_Seal (by first | exact hst.get 0 rfl | exact hst.get 1 rfl | exact hst.get 2 rfl) (by first | rfl | exact Dig.size _ | (simp; done)) ?_) | (refine L_loadM (d := some 54) rfl rfl rfl (by rfl) Tryd.underlying43 rfl el_api_Seal (by first | assumption) (by first | rfl | exact Dig.size _ | (simp; done)) ?_)) | fail); refine ⟨by first | exact Below.refl _ _ | exact hnew.below, ?_⟩
    refine idx_g rfl ?_; go_wp2_with (first | (refine L_buildS (d := some 55) rfl rfl rfl [.agg (prArr pm pq), .agg (prArr pm pq)] (bs_2 (ev_tmp rfl) (ev_tmp rfl)) rfl Tryd.underlying40 el_api_Seal (prArr_size _ _) (fun v hv => by simp only [List.mem_cons, List.not_mem_nil, or_false, or_self] at hv; rw [hv]; exact prArr_size _ _) (by decide) (by decide) ?_; (try clear hnew); intro g55 W55 hnew; replace hst := hst.trans hnew; simp only [List.cons_append, List.nil_append] at hst; simp only [List.flatMap_cons, List.flatMap_nil, List.append_nil, prArr_flat, ← pairsL_app, List.cons_append, List.nil_append] at hst) | (refine L_buildS (d := some 55) rfl rfl rfl [_, _] (bs_2 (ev_tmp rfl) (ev_tmp rfl)) rfl Tryd.underlying40 el_api_Seal rfl (by first | (simp [Value.cells]; done) | (simp [Value.cells, Dig.size]; done)) (by decide) (by decide) ?_; (try clear hnew); intro g55 W55 hnew; replace hst := hst.trans hnew; simp only [List.cons_append, List.nil_append] at hst; simp only [List.flatMap_cons, List.flatMap_nil, List.append_nil, Value.cells, List.toList_toArray] at hst) | fail); refine ⟨by first | exact Below.refl _ _ | exact hnew.below, ?_⟩
    refine idx_e rfl ?_; go_wp2_with (first | (refine L_loadM (d := some 50) rfl rfl rfl (by rfl) Tryd.underlying43 rfl el_api_Seal (HC.out _ _ _ hr49) (prArr_size _ _) ?_) | (refine L_loadM (d := some 54) rfl rfl rfl (by rfl) Tryd.underlying43 rfl el_api_Seal (HC.out _ _ _ hr53) (prArr_size _ _) ?_) | (refine L_buildS (d := some 55) rfl rfl rfl [.agg (prArr pm pq), .agg (prArr pm pq)] (bs_2 (ev_tmp rfl) (ev_tmp rfl)) rfl Tryd.underlying40 el_api_Seal (prArr_size _ _) (fun v hv => by simp only [List.mem_cons, List.not_mem_nil, or_false, or_self] at hv; rw [hv]; exact prArr_size _ _) (by decide) (by decide) ?_; (try clear hnew); intro g55 W55 hnew; replace hst := hst.trans hnew; simp only [List.cons_append, List.nil_append] at hst; simp only [List.flatMap_cons, List.flatMap_nil, List.append_nil, prArr_flat, ← pairsL_app, List.cons_append, List.nil_append] at hst) | (refine L_appendO (d := some 56) rfl rfl hst rfl (by rfl) (by rfl) Tryd.underlying40 el_api_Seal rfl (by decide) (by decide) 0 rfl (by first | rfl | omega) (by first | exact hst.old (by decide) hs | exact hst.sl 0 rfl | exact hst.sl 1 rfl | exact hst.sl 2 rfl | assumption | exact hst.old (by decide) (by assumption)) (by first | exact oneCell_bytes | (simp [Value.oneCell']; done) | exact pairs_ones _) (by omega) ?_; clear hst; intro A56 c56 W56 hst; simp only [List.set_cons_zero, List.set_cons_succ, List.nil_append, Nat.zero_add] at hst) | (refine L_appendO (d := some 56) rfl rfl hst rfl (by rfl) (by rfl) Tryd.underlying40 el_api_Seal rfl (by decide) (by decide) 1 rfl (by first | rfl | omega) (by first | exact hst.old (by decide) hs | exact hst.sl 0 rfl | exact hst.sl 1 rfl | exact hst.sl 2 rfl | assumption | exact hst.old (by decide) (by assumption)) (by first | exact oneCell_bytes | (simp [Value.oneCell']; done) | exact pairs_ones _) (by omega) ?_; clear hst; intro A56 c56 W56 hst; simp only [List.set_cons_zero, List.set_cons_succ, List.nil_append, Nat.zero_add] at hst) | (refine L_appendO (d := some 56) rfl rfl hst rfl (by rfl) (by rfl) Tryd.underlying40 el_api_Seal rfl (by decide) (by decide) 2 rfl (by first | rfl | omega) (by first | exact hst.old (by decide) hs | exact hst.sl 0 rfl | exact hst.sl 1 rfl | exact hst.sl 2 rfl | assumption | exact hst.old (by decide) (by assumption)) (by first | exact oneCell_bytes | (simp [Value.oneCell']; done) | exact pairs_ones _) (by omega) ?_; clear hst; intro A56 c56 W56 hst; simp only [List.set_cons_zero, List.set_cons_succ, List.nil_append, Nat.zero_add] at hst) | (refine L_appendF (d := some 56) rfl rfl rfl (by rfl) (by rfl) Tryd.underlying40 el_api_Seal rfl (by decide) (by assumption) (by first | assumption | exact hst.old (by decide) hs | exact hst.sl 0 rfl | exact hst.sl 1 rfl | exact hst.sl 2 rfl | assumption | exact hst.old (by decide) (by assumption)) (by omega) (by omega) (by omega) ?_; (try clear hnew); intro A56 c56 W56 hnew; replace hst := hst.trans hnew; simp only [List.cons_append, List.nil_append] at hst) | fail)
    refine idx_g rfl ?_; go_wp2_with fail; refine ⟨by first | exact Below.refl _ _ | exact hnew.below, ?_⟩
    refine idx_nil ?_
    go_wp2_with (first
     | fail)
    go_roundg g
    case measure => omega
    case rel =>
     have hj := HJ.out
     refine ⟨j + 1, _, _, Lib.hid (by omega), by rw [show q + 2 * (j + 1) = q + 2 * j + 2 by omega], rfl, ?_⟩
     rw [HTw.out, ← List.append_assoc, pairsL_app _ [(pm, pq), (pm, pq)], show q + 2 * (j + 1) = q + 2 * j + 2 by omega]
     exact hst.tail
   ·obtain rfl : gk = 0 := by omega
    obtain rfl : j = m := by omega
    clear hj HJ hp
    have hall := Lib.hid (show sealP kf n x y (more ++ twiceR ss j) = fun i => sealP kf n x y ss i || sealP kf n x y more i by rw [← Hml.out]; exact sealP_more kf n x y ss more)
    have HR1 := Lib.hid (fun w hT hk hs => rightK kf K k kc n x y z ss S j sc w hT hk hs h40)
    have HR2 := Lib.hid (fun w hT hk hs => rightK kf K k kc n x y z more M q qc w hT hk hs h40)
    have HR3 := Lib.hid (fun w O oc hT hk hs => rightK kf K k kc n x y z (more ++ twiceR ss j) O (q + 2 * j) oc w hT hk hs h40)
    rw [hall.out] at HR3
    have HA1 := Lib.hid (fun i (h : i < k) => mem_right (p := sealP kf n x y ss) h)
    have HA2 := Lib.hid (fun i (h : i < k) => mem_right (p := sealP kf n x y more) h)
    generalize sealP kf n x y ss = P at HR1 HR3 HA1
    generalize sealP kf n x y more = Q at HR2 HR3 HA2
    generalize more ++ twiceR ss j = al at HR3 hst
    have HF := Lib.hid (fun i (h : i < k) => rightL_find (fun i => P i || Q i) k i h)
    have HS := Lib.hid (fun i => rightL_succ (fun i => P i || Q i) i)
    have HLe := Lib.hid (fun i => length_rightL_le (fun i => P i || Q i) i)
    generalize rightL P k = l1 at HR1 HA1
    generalize rightL Q k = l2 at HR2 HA2
    obtain ⟨l3, hl3⟩ : ∃ l3, l3 = rightL (fun i => P i || Q i) k := ⟨_, rfl⟩
    rw [← hl3] at HR3
    replace hl3 := Lib.hid hl3
    obtain ⟨r, hr⟩ : ∃ r, l3.length = r := ⟨_, rfl⟩
    have hr40 : r ≤ 40 := by rw [← hr, hl3.out]; have := HLe.out k; omega
    rw [hr] at HR3
    replace hr := Lib.hid hr
    go_upto_region 12 with (first
     | fail)
    go_upto_region 13 with (first
     | (go_at_call 20; (try clear hnew); refine (HR1.out _ (HT.out.of hst) (HK.out.of hst) (hst.old (by decide) hs)).mono ?_; rintro e Wk3 ⟨A60, c60, rfl, hnew⟩; replace hst := hst.trans hnew; simp only [List.cons_append, List.nil_append] at hst)
     | (first | (refine L_loadA (d := some 58) rfl rfl rfl (by rfl) Tryd.underlying39 rfl el_api_Head (by first | exact hst.get 0 rfl | exact hst.get 1 rfl) (by first | exact Dig.size _ | exact hdArr_size _ _ _ _ | rfl | (simp; done)) ?_) | (refine L_loadM (d := some 58) rfl rfl rfl (by rfl) Tryd.underlying39 rfl el_api_Head (by first | assumption) (by first | exact Dig.size _ | exact hdArr_size _ _ _ _ | rfl | (simp; done)) ?_))
     | fail)
    (try clear hnew)
    go_upto_region 14 with (first
     | (go_at_call 20; (try clear hnew); refine (HR2.out _ (HT.out.of hst) (HK.out.of hst) (hst.old (by decide) hq)).mono ?_; rintro e Wk4 ⟨A64, c64, rfl, hnew⟩; replace hst := hst.trans hnew; simp only [List.cons_append, List.nil_append] at hst)
     | (first | (refine L_loadA (d := some 62) rfl rfl rfl (by rfl) Tryd.underlying39 rfl el_api_Head (by first | exact hst.get 0 rfl | exact hst.get 1 rfl | exact hst.get 2 rfl) (by first | exact Dig.size _ | exact hdArr_size _ _ _ _ | rfl | (simp; done)) ?_) | (refine L_loadM (d := some 62) rfl rfl rfl (by rfl) Tryd.underlying39 rfl el_api_Head (by first | assumption) (by first | exact Dig.size _ | exact hdArr_size _ _ _ _ | rfl | (simp; done)) ?_))
     | fail)
    (try clear hnew)
    go_upto_region 15 with (first
     | (go_at_call 20; (try clear hnew); refine (HR3.out _ _ _ (HT.out.of hst) (HK.out.of hst) (hst.sl 2 rfl)).mono ?_; rintro e Wk5 ⟨A68, c68, rfl, hnew⟩; replace hst := hst.trans hnew; simp only [List.cons_append, List.nil_append] at hst)
     | (first | (refine L_loadA (d := some 66) rfl rfl rfl (by rfl) Tryd.underlying39 rfl el_api_Head (by first | exact hst.get 0 rfl | exact hst.get 1 rfl | exact hst.get 2 rfl | exact hst.get 3 rfl) (by first | exact Dig.size _ | exact hdArr_size _ _ _ _ | rfl | (simp; done)) ?_) | (refine L_loadM (d := some 66) rfl rfl rfl (by rfl) Tryd.underlying39 rfl el_api_Head (by first | assumption) (by first | exact Dig.size _ | exact hdArr_size _ _ _ _ | rfl | (simp; done)) ?_))
     | fail)
    go_upto_region 16 with (first
     | fail)
    go_wp2_with (first
     | fail)
    (try clear hnew)
    go_loopg [15, 16] k (fun gk s15 s16 wr => ∃ (i a : Nat), Hid (i + gk = k) ∧ Hid ((rightL (fun i => P i || Q i) i).length = a) ∧ s15 = .int .i64 (a : Int) ∧ s16 = .int .i64 (i : Int) ∧ St w wr [.row A68 r c68 3 1 (natsL l3), .row A64 l2.length c64 3 1 (natsL l2), .row A60 l1.length c60 3 1 (natsL l1)])
    case atStart => exact ⟨0, 0, Lib.hid (by omega), Lib.hid rfl, rfl, rfl, hst.pick [0, 1, 2] (by decide)⟩
    case round =>
     clear hst
     obtain ⟨i, a, HI, HAt, rfl, rfl, hst⟩ := hrel
     have hi := HI.out
     by_cases hin : i < k
     ·clear hi
      have ha40 : a ≤ 40 := by rw [← HAt.out]; have := HLe.out i; omega
      have HAm1 := Lib.hid (fun w hs => among_any i l1 A60 l1.length c60 w hs)
      have HAm2 := Lib.hid (fun w hs => among_any i l2 A64 l2.length c64 w hs)
      rw [HA1.out i hin] at HAm1
      rw [HA2.out i hin] at HAm2
      have hf := HF.out i hin
      rw [← hl3.out, HAt.out, hr.out] at hf
      have hsu := HS.out i
      have hpq : ∃ p q : Bool, P i = p ∧ Q i = q := ⟨_, _, rfl, rfl⟩
      obtain ⟨p, q', hp, hq'⟩ := hpq
      rw [hp] at HAm1
      rw [hq'] at HAm2
      simp only [hp, hq'] at hf hsu
      clear hp hq'
      by_cases har : a < r
      ·have hal := Lib.hid (show a < l3.length by rw [hr.out]; exact har)
       have HE : ∃ v : Nat, Hid (v = l3[a]'hal.out) := ⟨_, Lib.hid rfl⟩
       obtain ⟨v, HV⟩ := HE
       have HC := Lib.hid (show (natsL l3)[a]? = some (.int .i64 (v : Int)) by rw [HV.out]; simp [natsL, natV, hal.out])
       have hg : l3[a]? = some v := by rw [HV.out]; exact List.getElem?_eq_getElem hal.out
       rw [hg] at hf
       clear hg HV
       by_cases hv : v = i
       ·subst hv
        have hor : (p || q') = true := hf.1 ⟨har, rfl⟩
        clear hf
        generalize natsL l3 = ll at *
        have HSu := Lib.hid (show (rightL (fun i => P i || Q i) (v + 1)).length = a + 1 by rw [hsu, if_pos hor, List.length_append, HAt.out]; rfl)
        clear hsu
        cases p <;> cases q'
        case false.false => cases hor
        all_goals
         clear hor
         go_upto_region 19 with (first
          | fail)
         go_upto_region 20 with (first
          | (go_at_call 21; (try clear hnew); refine (HAm1.out _ (hst.sl 2 rfl)).mono ?_; rintro e Wk6 ⟨rfl, hnew⟩; replace hst := hst.keep hnew)
          | fail)
         clear hnew
         go_upto_region 21 with (first
          | (go_at_call 21; (try clear hnew); refine (HAm2.out _ (hst.sl 1 rfl)).mono ?_; rintro e Wk7 ⟨rfl, hnew⟩; replace hst := hst.keep hnew)
          | fail)
         clear hnew
         go_wp2_with (first
          | (refine L_load1 (d := some 89) rfl rfl rfl (by rfl) Tryd.underlying3 rfl (cell_of_range1 hr88 (k := a) (by omega) HC.out) ?_)
          | (refine L_idxS (d := some 88) rfl rfl rfl (by rfl) (by rfl) Tryd.underlying44 el_int (by first | assumption | exact hst.sl 0 rfl | exact hst.old (by decide) (by assumption)) (by omega) (by omega) ?_; intro o88 p88 ha88 hr88; (first | subst ha88 | (obtain ⟨h1, h2⟩ := some_addr ha88; subst h1; subst h2; clear ha88) | skip))
          | (refine L_load1 (d := some 89) rfl rfl rfl (by rfl) Tryd.underlying3 rfl (by first | assumption | exact cell_of (hst.get 0 rfl) rfl) ?_)
          | (first | (refine L_pickF (d := some 92) rfl rfl rfl (ev_tmp rfl) ev_const ?_) | (refine L_pickT (d := some 92) rfl rfl rfl (ev_tmp rfl) (ev_tmp rfl) ?_))
          | (first | (refine L_pickF (d := some 100) rfl rfl rfl (ev_tmp rfl) (ev_tmp rfl) ?_) | (refine L_pickT (d := some 100) rfl rfl rfl (ev_tmp rfl) ev_const ?_))
          | fail)
         go_roundg (gk - 1)
         case measure => have hi := HI.out; omega
         case rel =>
          have hi := HI.out
          exact ⟨v + 1, a + 1, Lib.hid (by omega), HSu, by go_num, by go_num, hst⟩
       ·have hor : ¬ (p || q') = true := fun h => hv (Option.some.inj (hf.2 h).2)
        clear hf
        generalize natsL l3 = ll at *
        have HSu := Lib.hid (show (rightL (fun i => P i || Q i) (i + 1)).length = a by rw [hsu, if_neg hor, List.append_nil, HAt.out])
        clear hsu
        have t1 : ¬ (v : Int) = (i : Int) := by omega
        cases p <;> cases q'
        case false.true => exact absurd rfl hor
        case true.false => exact absurd rfl hor
        case true.true => exact absurd rfl hor
        case false.false =>
         clear hor
         go_upto_region 19 with (first
          | fail)
         go_upto_region 20 with (first
          | (go_at_call 21; (try clear hnew); refine (HAm1.out _ (hst.sl 2 rfl)).mono ?_; rintro e Wk8 ⟨rfl, hnew⟩; replace hst := hst.keep hnew)
          | fail)
         clear hnew
         go_upto_region 21 with (first
          | (go_at_call 21; (try clear hnew); refine (HAm2.out _ (hst.sl 1 rfl)).mono ?_; rintro e Wk9 ⟨rfl, hnew⟩; replace hst := hst.keep hnew)
          | fail)
         clear hnew
         go_wp2_with (first
          | (refine L_load1 (d := some 89) rfl rfl rfl (by rfl) Tryd.underlying3 rfl (cell_of_range1 hr88 (k := a) (by omega) HC.out) ?_)
          | (refine L_idxS (d := some 88) rfl rfl rfl (by rfl) (by rfl) Tryd.underlying44 el_int (by first | assumption | exact hst.sl 0 rfl | exact hst.old (by decide) (by assumption)) (by omega) (by omega) ?_; intro o88 p88 ha88 hr88; (first | subst ha88 | (obtain ⟨h1, h2⟩ := some_addr ha88; subst h1; subst h2; clear ha88) | skip))
          | (refine L_load1 (d := some 89) rfl rfl rfl (by rfl) Tryd.underlying3 rfl (by first | assumption | exact cell_of (hst.get 0 rfl) rfl) ?_)
          | (first | (refine L_pickF (d := some 92) rfl rfl rfl (ev_tmp rfl) ev_const ?_) | (refine L_pickT (d := some 92) rfl rfl rfl (ev_tmp rfl) (ev_tmp rfl) ?_))
          | (first | (refine L_pickF (d := some 100) rfl rfl rfl (ev_tmp rfl) (ev_tmp rfl) ?_) | (refine L_pickT (d := some 100) rfl rfl rfl (ev_tmp rfl) ev_const ?_))
          | fail)
         go_roundg (gk - 1)
         case measure => have hi := HI.out; omega
         case rel =>
          have hi := HI.out
          exact ⟨i + 1, a, Lib.hid (by omega), HSu, by go_num, by go_num, hst⟩
      ·have hor : ¬ (p || q') = true := fun h => har (hf.2 h).1
       clear hf
       generalize natsL l3 = ll at *
       have HSu := Lib.hid (show (rightL (fun i => P i || Q i) (i + 1)).length = a by rw [hsu, if_neg hor, List.append_nil, HAt.out])
       clear hsu
       have t1 : ¬ (a : Int) < (r : Int) := by omega
       cases p <;> cases q'
       case false.true => exact absurd rfl hor
       case true.false => exact absurd rfl hor
       case true.true => exact absurd rfl hor
       case false.false =>
        clear hor
        go_upto_region 19 with (first
         | fail)
        go_upto_region 20 with (first
         | (go_at_call 21; (try clear hnew); refine (HAm1.out _ (hst.sl 2 rfl)).mono ?_; rintro e Wk10 ⟨rfl, hnew⟩; replace hst := hst.keep hnew)
         | fail)
        clear hnew
        go_upto_region 21 with (first
         | (go_at_call 21; (try clear hnew); refine (HAm2.out _ (hst.sl 1 rfl)).mono ?_; rintro e Wk11 ⟨rfl, hnew⟩; replace hst := hst.keep hnew)
         | fail)
        clear hnew
        go_wp2_with (first
         | (refine L_idxS (d := some 88) rfl rfl rfl (by rfl) (by rfl) Tryd.underlying44 el_int (by first | assumption | exact hst.sl 0 rfl | exact hst.old (by decide) (by assumption)) (by omega) (by omega) ?_; intro o88 p88 ha88 hr88; (first | subst ha88 | (obtain ⟨h1, h2⟩ := some_addr ha88; subst h1; subst h2; clear ha88) | skip))
         | (refine L_load1 (d := some 89) rfl rfl rfl (by rfl) Tryd.underlying3 rfl (by first | assumption | exact cell_of (hst.get 0 rfl) rfl) ?_)
         | (first | (refine L_pickF (d := some 92) rfl rfl rfl (ev_tmp rfl) ev_const ?_) | (refine L_pickT (d := some 92) rfl rfl rfl (ev_tmp rfl) (ev_tmp rfl) ?_))
         | (first | (refine L_pickF (d := some 100) rfl rfl rfl (ev_tmp rfl) (ev_tmp rfl) ?_) | (refine L_pickT (d := some 100) rfl rfl rfl (ev_tmp rfl) ev_const ?_))
         | fail)
        go_roundg (gk - 1)
        case measure => have hi := HI.out; omega
        case rel =>
         have hi := HI.out
         exact ⟨i + 1, a, Lib.hid (by omega), HSu, by go_num, by go_num, hst⟩
     ·obtain rfl : i = k := by omega
      clear hi HI
      obtain rfl : r = a := by rw [← HAt.out, ← hl3.out, hr.out]
      clear HAt
      go_wp2_with (first
       | fail)
      go_ret
      exact ⟨rfl, hst.forget⟩
end Go.Proofs.YtkbleigmfcleaaaDoor

namespace Go.Proofs.YtkbleigmfcleaaaDoor.teamMore
open Go.ChangeShapes Go.WideShapes Go.ChangeAt Go.RowKit
theorem own : ownKnob Tryd.prog.godebug = none := by kernel_rfl
theorem laidOut : laidOutB Tryd.prog = true := by kernel_rfl
theorem cellsD : Tryd.prog.cellsOf 23 = 32 := by kernel_rfl
theorem cells8 : Tryd.prog.cellsOf 5 = 1 := by kernel_rfl
set_option maxRecDepth 100000 in
theorem contract (H : Type) (enc : TypeId × Value → H) (W : World) (base : Nat) (args : Array Value) (ds gs : List (DataW H)) (before : List MemPlace)
  (hval : ∀ (j : Nat) t v, Tryd.f4.params[j]? = some t → args[j]? = some v → Value.okWide Tryd.prog W .any base t v)
  (hW : DataW.Whole enc Tryd.prog Tryd.f4.params.toList Rows.teamMoreSpec.vars false W args.toList ds gs before) (hT : Tb W)
  (hz : (DataW.weightsEach Tryd.prog (Tryd.f4.params.toList ++ (OpenSpec.ofChange Rows.teamMoreSpec).bare.plain.varTypes Tryd.prog) (ds ++ gs)).all (· ≤ reachBytes) = true) :
  Calls Tryd.prog 4 args W fun e W' => ∃ v, e = .returned v ∧ Rows.teamMoreSpec.post enc Tryd.prog Tryd.f4 false true false false W args v W' := by
 have hW' := hW
 obtain ⟨p, q, hA0, hV, rfl, hfz, hnd⟩ := hW
 have hA : DataW.TrodAll enc Tryd.prog W 0 (fun _ => true) true Tryd.f4.params.toList args.toList ds p := hA0
 rw [Tryd.params4] at hA hval hz
 obtain ⟨v0, vs0, d0, ds0, p0, q0, hargs, rfl, rfl, h0, r0⟩ := trodAll_cons hA
 obtain ⟨v1, vs1, d1, ds1, p1, q1, rfl, rfl, rfl, h1, r1⟩ := trodAll_cons r0
 obtain ⟨v2, vs2, d2, ds2, p2, q2, rfl, rfl, rfl, h2, r2⟩ := trodAll_cons r1
 obtain ⟨v3, vs3, d3, ds3, p3, q3, rfl, rfl, rfl, h3, r3⟩ := trodAll_cons r2
 obtain ⟨rfl, rfl, rfl⟩ := trodAll_nil r3
 obtain rfl : args = #[v0, v1, v2, v3] := by cases args; simp_all
 obtain ⟨rfl, rfl⟩ := trodVars_none hV
 obtain ⟨A0, n0, c0, a0, rfl, hs0, hp0, hd0⟩ := open_bytess Tryd.underlying37 Tryd.underlying49 Tryd.underlying5 cells8 (by kernel_rfl) (hval 0 _ v0 rfl rfl) h0
 have hq0 := pieces_small (f := a0) hz (j := 0) rfl rfl Tryd.underlying37 Tryd.underlying49 (show Tryd.prog.bytesOf 5 = 1 from by kernel_rfl) hd0
 obtain ⟨n1, x1, y1, z1, rfl, wa1⟩ := open_head Tryd.underlying39 Tryd.underlying3 rfl rfl rfl Tryd.underlying23 Tryd.underlying5 cells8 cellsD rfl rfl rfl rfl (by kernel_rfl) (by kernel_rfl) (hval 1 _ v1 rfl rfl) h1
 obtain ⟨A2, n2, c2, a2, rfl, hs2, hw2, hd2⟩ := open_pairsS Tryd.underlying40 Tryd.underlying43 Tryd.underlying3 rfl Tryd.underlying23 Tryd.underlying5 cells8 cellsD rfl rfl (by kernel_rfl) (by kernel_rfl) (hval 2 _ v2 rfl rfl) h2
 obtain ⟨A3, n3, c3, a3, rfl, hs3, hw3, hd3⟩ := open_pairsS Tryd.underlying40 Tryd.underlying43 Tryd.underlying3 rfl Tryd.underlying23 Tryd.underlying5 cells8 cellsD rfl rfl (by kernel_rfl) (by kernel_rfl) (hval 3 _ v3 rfl rfl) h3
 have lt0 : ∀ x ∈ p0, x.block < W.heap.size := by obtain ⟨m, hm⟩ := h0; exact DataW.trod_lt m _ _ _ hm
 have lt1 : ∀ x ∈ p1, x.block < W.heap.size := by obtain ⟨m, hm⟩ := h1; exact DataW.trod_lt m _ _ _ hm
 have lt2 : ∀ x ∈ p2, x.block < W.heap.size := by obtain ⟨m, hm⟩ := h2; exact DataW.trod_lt m _ _ _ hm
 have lt3 : ∀ x ∈ p3, x.block < W.heap.size := by obtain ⟨m, hm⟩ := h3; exact DataW.trod_lt m _ _ _ hm
 clear hA0
 refine (teamMore_any W hT a0 A0 n0 c0 ⟨hs0, hp0, fun i hi => Nat.le_trans (hq0 i hi) (by decide)⟩ n1 x1 y1 z1 a2 A2 n2 c2 hs2 a3 A3 n3 c3 hs3).mono fun e W' ⟨he, hst⟩ => ?_
 have bel := hst.below
 subst he
 exact ⟨_, rfl, _, _, _, [], _, [], hW', trodAll_mk1 (shut_bool Tryd.underlying4 _),
  (trodAll_cons_mk (Below.trod laidOut (by kernel_rfl) (of_decide_eq_true (by kernel_rfl)) h0 bel lt0) (trodAll_cons_mk (Below.trod laidOut (by kernel_rfl) (of_decide_eq_true (by kernel_rfl)) h1 bel lt1) (trodAll_cons_mk (Below.trod laidOut (by kernel_rfl) (of_decide_eq_true (by kernel_rfl)) h2 bel lt2) (trodAll_cons_mk (Below.trod laidOut (by kernel_rfl) (of_decide_eq_true (by kernel_rfl)) h3 bel lt3) trodAll_mk0)))), rfl, bel.frame _, fun h => by cases h⟩
noncomputable def laidWorld (os : Os) : World :=
 { World.holding Tryd.prog os ⟨#[], #[], []⟩ with heap := (World.holding Tryd.prog os ⟨#[], #[], []⟩).heap.modify 1 fun
   | .cells _ t frozen => .cells tblArr t frozen
   | o => o }
theorem laid_met (os : Os) : laidMet Tryd.prog Rows.teamMoreRow.laid ((laidWorld os).forCall (fun _ _ => 0) ⟨#[], #[.slice none 0 0, .agg (hdCells 0 zeroD zeroD zeroD).toArray, .slice none 0 0, .slice none 0 0], []⟩).memory :=
 laidMet_of_run' 8 (by kernel_rfl) (by kernel_rfl)
theorem reads (os : Os) {H : Type} (enc : TypeId × Value → H) : ∃ places, DataW.whole enc Tryd.prog ((laidWorld os).forCall (fun _ _ => 0) ⟨#[], #[.slice none 0 0, .agg (hdCells 0 zeroD zeroD zeroD).toArray, .slice none 0 0, .slice none 0 0], []⟩).memory Tryd.f4.params.toList Rows.teamMoreSpec.vars false (#[.slice none 0 0, .agg (hdCells 0 zeroD zeroD zeroD).toArray, .slice none 0 0, .slice none 0 0] : Array Value).toList 8 = some ([.nil, .agg [.lit (.int .i64 0), .agg (List.replicate 32 (.lit (.int .u8 0))), .agg (List.replicate 32 (.lit (.int .u8 0))), .agg (List.replicate 32 (.lit (.int .u8 0)))], .nil, .nil], [], places) :=
 ⟨[], by kernel_rfl⟩
set_option maxRecDepth 100000 in
theorem lifted (os : Os) (started : os.Started) (H : Type) (enc : TypeId × Value → H) (F : Stop.Interp) :
  ReturnsInHanded {} Tryd.checked os 4 .any ((OpenSpec.ofChange Rows.teamMoreSpec).preRow enc Tryd.prog Tryd.f4 Rows.teamMoreRow.domain false Rows.teamMoreRow.laid) (((OpenSpec.ofChange Rows.teamMoreSpec).at F).post enc Tryd.prog Tryd.f4 false true false false) := by
 obtain ⟨places, hx⟩ := reads os enc
 refine returnsInHanded_of_row (C := Tryd.checked) (s := (OpenSpec.ofChange Rows.teamMoreSpec)) own started (by kernel_rfl) Tryd.func4
  (witness_row_at (enc := enc) (C := Tryd.checked) false (laidWorld os) #[.slice none 0 0, .agg (hdCells 0 zeroD zeroD zeroD).toArray, .slice none 0 0, .slice none 0 0] rfl (by kernel_rfl) (by kernel_rfl) (by kernel_rfl)
   (OpenSpec.preRow_of_cond 8 hx (by kernel_rfl) (fun k hk => by cases hk) (by kernel_rfl) (laid_met os))) ?_
 intro W base args ds gs before hval hW _ _ hz hL _ _
 exact contract H enc W base args ds gs before hval hW (tb_of hL) hz
theorem said : Rows.TeamMoreSaid :=
 OpenClaim.holds_of_cond 4 Tryd.f4 rfl rfl rfl rfl rfl rfl rfl ⟨rfl, rfl, rfl, rfl, rfl⟩ rfl rfl rfl rfl rfl (by kernel_rfl) Tryd.func4 (by kernel_rfl)
  (of_decide_eq_true (by kernel_rfl)) (by unfold Func.isWrapper; first | (rw [if_pos (by decide +kernel)]; kernel_rfl) | (rw [if_neg (by decide +kernel)]; exact ⟨rfl, rfl⟩))
  (fun os started H enc _ F => by rw [OpenClaim.pre_eq_preRow]; exact lifted os started H enc F)
theorem plain (f : FuncId) (fn : Func) (hf : Tryd.pinned.checked.prog.funcNamed "oathbook/oathbooklaw3.TeamMore" = some f) (hfn : Tryd.pinned.checked.prog.funcs[f]? = some fn) :
  true = Tryd.pinned.checked.prog.looks [] ∧ ∀ (j : Nat) t, fn.params[j]? = some t → Tryd.pinned.checked.prog.wantsStandIn t = false := by
 obtain rfl : f = 4 := Option.some.inj ((show Tryd.prog.funcNamed "oathbook/oathbooklaw3.TeamMore" = some 4 by kernel_rfl).symm.trans hf) |>.symm
 obtain rfl : fn = Tryd.f4 := (Option.some.inj (Tryd.func4.symm.trans hfn)).symm
 refine ⟨by kernel_rfl, fun j t ht => ?_⟩
 rw [Tryd.params4] at ht
 have hm := Array.mem_of_getElem? ht
 have ha : ∀ t ∈ #[37, 39, 40, 40], Tryd.prog.wantsStandIn t = false := by
  intro t ht
  simp only [List.mem_toArray, List.mem_cons, List.not_mem_nil, or_false] at ht
  rcases ht with rfl | rfl | rfl | rfl <;> kernel_rfl
 exact ha t hm
theorem proved : Rows.TeamMoreCardSaid :=
 Claim7.holds_tied_plain_at .later [] _ _ _ _ said (fun _ h => by cases h) (by kernel_rfl) (fun _ h => by cases h) teamMore_row_tie rfl ⟨rfl, rfl⟩ (by kernel_rfl) rfl plain (by kernel_rfl)
#print axioms proved
end Go.Proofs.YtkbleigmfcleaaaDoor.teamMore
