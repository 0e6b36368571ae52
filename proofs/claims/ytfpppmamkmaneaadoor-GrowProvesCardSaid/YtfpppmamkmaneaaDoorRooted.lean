/-
  Proved here: the verifier's fact of a tree holds: a root that is told is the node of two, and is not bytes 0. Condition: the table of round constants stands.
-/
import Derived.Test.YtfpppmamkmaneaaDoorTree
import Derived.Test.YtfpppmamkmaneaaDoorLawC
import Derived.Test.YtfpppmamkmaneaaDoorFacts
set_option maxRecDepth 20000
set_option linter.unusedSimpArgs false
set_option linter.unusedVariables false
namespace Go.Proofs.YtfpppmamkmaneaaDoor
open Go.RowKit

def tagD (k : UInt8) : Dig := ⟨k :: List.replicate 31 0, by simp⟩
theorem tag_1 : zeroD.arr.setIfInBounds 0 (.int .u8 1) = (tagD 1).arr := by rfl
theorem tag_2 : zeroD.arr.setIfInBounds 0 (.int .u8 2) = (tagD 2).arr := by rfl
theorem node_of (a b : List Nat) (ha : small a) (hb : small b) (d e : Dig) (hd : d.l = ofNs a) (he : e.l = ofNs b) : (nodeN d e).l = ofNs (fSha (1 :: (a ++ b))) := by
  have h : (1 : UInt8) :: allB [d, e] = ofNs (1 :: (a ++ b)) := by simp [allB, hd, he, ofNs]
  unfold nodeN ofN
  rw [h]
  exact fSha_eq _ (fun x hx => by
    rcases List.mem_cons.1 hx with rfl | hx
    · omega
    · exact small_app ha hb x hx)
theorem tag_of (k : Nat) : (tagD (UInt8.ofNat k)).l = ofNs (k :: List.replicate 31 0) := by simp [tagD, ofNs]
theorem small_tag (k : Nat) (h : k < 256) : small (k :: List.replicate 31 0) := fun x hx => by
  rcases List.mem_cons.1 hx with rfl | hx
  · exact h
  · exact small_rep 31 0 (by omega) x hx
theorem node12_ne : nodeN (tagD 1) (tagD 2) ≠ zeroD :=
  ne_zero_of (node_of _ _ (small_tag 1 (by omega)) (small_tag 2 (by omega)) (tagD 1) (tagD 2) (tag_of 1) (tag_of 2)) (small_fSha _) (by decide +kernel)
theorem root12 : rootN [tagD 1, tagD 2] = nodeN (tagD 1) (tagD 2) := by
  rw [rootN_more _ (by decide), show halfN [tagD 1, tagD 2].length = 1 by decide]
  show nodeN (rootN [tagD 1]) (rootN [tagD 2]) = _
  rw [rootN_one, rootN_one]

set_option maxHeartbeats 1000000 in
theorem rooted_any (w : World) (hT : Tb w) : Calls Tryd.prog 15 #[] w fun e w' => e = .returned (.bool true) ∧ St w w' [] := by
  have hst := St.refl w
  have HT := Lib.hid hT
  have he : decide (rootN [tagD 1, tagD 2] = nodeN (tagD 1) (tagD 2)) = true := by rw [root12]; simp
  have hz : decide (rootN [tagD 1, tagD 2] = zeroD) = false := by rw [root12]; simpa using node12_ne
  have HE := Lib.hid he
  have HZ := Lib.hid hz
  have HD := Lib.hid (show digsL [tagD 1, tagD 2] = (tagD 1).arr.toList ++ (tagD 2).arr.toList by simp [digsL, Dig.toList])
  clear hT he hz
  go_enter Tryd.func15, Tryd.ntmps15
  go_wp2_with (first
    | (refine L_build1 (d := some 4) rfl rfl rfl Tryd.underlying25 el_uint8 el_api_Digest ev_const rfl (by decide) ?_; rw [tag_1])
    | (refine L_build1 (d := some 5) rfl rfl rfl Tryd.underlying25 el_uint8 el_api_Digest ev_const rfl (by decide) ?_; rw [tag_2])
    | (go_at_call 16; (try clear hnew); refine (tRoot_any [tagD 1, tagD 2] _ _ _ _ (HT.out.of hst) (by rw [HD.out]; exact hst.sl 0 rfl) (by decide)).mono ?_; rintro e W7 ⟨rfl, hnew⟩; replace hst := hst.keep hnew)
    | (refine L_build1 (d := some 4) rfl rfl rfl Tryd.underlying25 el_uint8 el_api_Digest ev_const rfl (by decide) ?_)
    | (refine L_build1 (d := some 5) rfl rfl rfl Tryd.underlying25 el_uint8 el_api_Digest ev_const rfl (by decide) ?_)
    | (refine L_buildS (d := some 6) rfl rfl rfl [_, _] (bs_2 (ev_tmp rfl) (ev_tmp rfl)) rfl Tryd.underlying22 el_api_Digest rfl (by first | (simp [Value.cells]; done) | (simp [Value.cells, Dig.size]; done)) (by decide) (by decide) ?_; (try clear hnew); intro g6 W6 hnew; replace hst := hst.trans hnew; simp only [List.cons_append, List.nil_append] at hst; simp only [List.flatMap_cons, List.flatMap_nil, List.append_nil, Value.cells, List.toList_toArray] at hst)
    | (refine L_allocA (d := some 1) rfl rfl rfl el_api_Digest ?_; (try clear hnew); intro g1 W1 hnew; replace hst := hst.trans hnew; simp only [List.cons_append, List.nil_append] at hst)
    | (refine wpl_at (.store 25 (.tmp 1) (.tmp 8)) rfl ?_; first | (refine L_storeA rfl rfl hst rfl (by rfl) (ev_tmp rfl) (by first | rfl | exact Dig.one _ | (simp; done)) el_api_Digest (by first | rfl | exact Dig.size _ | (simp; done)) 0 rfl (by first | rfl | exact Dig.size _ | (simp; done)) ?_; clear hst; intro WS8 hst; simp only [List.set_cons_zero, List.set_cons_succ] at hst) | (refine L_storeA rfl rfl hst rfl (by rfl) (ev_tmp rfl) (by first | rfl | exact Dig.one _ | (simp; done)) el_api_Digest (by first | rfl | exact Dig.size _ | (simp; done)) 1 rfl (by first | rfl | exact Dig.size _ | (simp; done)) ?_; clear hst; intro WS8 hst; simp only [List.set_cons_zero, List.set_cons_succ] at hst) | (refine L_storeA rfl rfl hst rfl (by rfl) (ev_tmp rfl) (by first | rfl | exact Dig.one _ | (simp; done)) el_api_Digest (by first | rfl | exact Dig.size _ | (simp; done)) 2 rfl (by first | rfl | exact Dig.size _ | (simp; done)) ?_; clear hst; intro WS8 hst; simp only [List.set_cons_zero, List.set_cons_succ] at hst) | (refine L_storeM rfl rfl hst rfl (by rfl) (ev_tmp rfl) (by first | rfl | exact Dig.one _ | (simp; done)) el_api_Digest (by first | rfl | exact Dig.size _ | (simp; done)) 0 rfl (by first | exact of_decide_eq_true rfl | (simp; done)) ?_; clear hst; intro WS8 hst; simp only [List.set_cons_zero, List.set_cons_succ] at hst)  | (refine L_storeM rfl rfl hst rfl (by rfl) (ev_tmp rfl) (by first | rfl | exact Dig.one _ | (simp; done)) el_api_Digest (by first | rfl | exact Dig.size _ | (simp; done)) 1 rfl (by first | exact of_decide_eq_true rfl | (simp; done)) ?_; clear hst; intro WS8 hst; simp only [List.set_cons_zero, List.set_cons_succ] at hst)  | (refine L_storeM rfl rfl hst rfl (by rfl) (ev_tmp rfl) (by first | rfl | exact Dig.one _ | (simp; done)) el_api_Digest (by first | rfl | exact Dig.size _ | (simp; done)) 2 rfl (by first | exact of_decide_eq_true rfl | (simp; done)) ?_; clear hst; intro WS8 hst; simp only [List.set_cons_zero, List.set_cons_succ] at hst))
    | fail)
  clear hnew
  refine wp_region_idx [(0, 2), (1, 2), (2, 2), (3, 0), (4, 0), (5, 2), (6, 2), (7, 2), (8, 2), (9, 2), (10, 0), (11, 2), (12, 2), (13, 2), (14, 2)] (by kernel_rfl) (by kernel_rfl) ?_
  replace hst := hst.drew
  refine idx_g rfl ?_; go_wp2_with fail; refine ⟨by first | exact Below.refl _ _ | exact hnew.below, ?_⟩
  refine idx_g rfl ?_; go_wp2_with (first | (refine L_build1 (d := some 14) rfl rfl rfl Tryd.underlying25 el_uint8 el_api_Digest ev_const rfl (by decide) ?_; rw [tag_1]) | (refine L_build1 (d := some 15) rfl rfl rfl Tryd.underlying25 el_uint8 el_api_Digest ev_const rfl (by decide) ?_; rw [tag_2]) | (go_at_call 35; (try clear hnew); with_reducible refine (node_any _ _ _ (HT.out.of hst)).mono ?_; rintro e W16 ⟨rfl, hnew⟩; replace hst := hst.keep hnew) | fail); refine ⟨by first | exact Below.refl _ _ | exact hnew.below, ?_⟩
  refine idx_g rfl ?_; go_wp2_with fail; refine ⟨by first | exact Below.refl _ _ | exact hnew.below, ?_⟩
  refine idx_q rfl rfl ?_; go_wp2_with (first | (refine L_un (t := 13) rfl (by rfl) rfl ?_) | (first | (refine L_loadA (d := some 13) rfl rfl rfl (by rfl) Tryd.underlying25 rfl el_api_Digest (by first | exact hst.get 0 rfl | exact hst.get 1 rfl) (by first | rfl | exact Dig.size _ | (simp; done)) ?_) | (refine L_loadM (d := some 13) rfl rfl rfl (by rfl) Tryd.underlying25 rfl el_api_Digest (by first | assumption) (by first | rfl | exact Dig.size _ | (simp; done)) ?_)) | fail)
  refine idx_q rfl rfl ?_; go_wp2_with (first | (refine L_un (t := 14) rfl (by rfl) rfl ?_) | (refine L_build1 (d := some 14) rfl rfl rfl Tryd.underlying25 el_uint8 el_api_Digest ev_const rfl (by decide) ?_; rw [tag_1]) | (refine L_build1 (d := some 14) rfl rfl rfl Tryd.underlying25 el_uint8 el_api_Digest ev_const rfl (by decide) ?_) | fail)
  refine idx_g rfl ?_; go_wp2_with (first | (refine L_un (t := 15) rfl (by rfl) rfl ?_) | (refine L_build1 (d := some 15) rfl rfl rfl Tryd.underlying25 el_uint8 el_api_Digest ev_const rfl (by decide) ?_; rw [tag_2]) | (refine L_build1 (d := some 15) rfl rfl rfl Tryd.underlying25 el_uint8 el_api_Digest ev_const rfl (by decide) ?_) | fail); refine ⟨by first | exact Below.refl _ _ | exact hnew.below, ?_⟩
  refine idx_g rfl ?_; go_wp2_with (first | (refine L_un (t := 16) rfl (by rfl) rfl ?_) | (refine L_build1 (d := some 14) rfl rfl rfl Tryd.underlying25 el_uint8 el_api_Digest ev_const rfl (by decide) ?_; rw [tag_1]) | (refine L_build1 (d := some 15) rfl rfl rfl Tryd.underlying25 el_uint8 el_api_Digest ev_const rfl (by decide) ?_; rw [tag_2]) | (go_at_call 35; (try clear hnew); with_reducible refine (node_any _ _ _ (HT.out.of hst)).mono ?_; rintro e W16 ⟨rfl, hnew⟩; replace hst := hst.keep hnew) | fail); refine ⟨by first | exact Below.refl _ _ | exact hnew.below, ?_⟩
  refine idx_g rfl ?_; go_wp2_with (first | (refine L_un (t := 17) rfl (by rfl) rfl ?_) | (refine L_build1 (d := some 14) rfl rfl rfl Tryd.underlying25 el_uint8 el_api_Digest ev_const rfl (by decide) ?_; rw [tag_1]) | (refine L_build1 (d := some 15) rfl rfl rfl Tryd.underlying25 el_uint8 el_api_Digest ev_const rfl (by decide) ?_; rw [tag_2]) | (go_at_call 35; (try clear hnew); with_reducible refine (node_any _ _ _ (HT.out.of hst)).mono ?_; rintro e W16 ⟨rfl, hnew⟩; replace hst := hst.keep hnew) | (refine L_eqD (d := some 17) rfl rfl rfl Tryd.underlying25 Tryd.underlying5 el_uint8 eqG_D (ev_tmp rfl) (ev_tmp rfl) ?_; (try rw [HE.out]); (try rw [HZ.out])) | fail); refine ⟨by first | exact Below.refl _ _ | exact hnew.below, ?_⟩
  refine idx_g rfl ?_; go_wp2_with fail; refine ⟨by first | exact Below.refl _ _ | exact hnew.below, ?_⟩
  refine idx_g rfl ?_; go_wp2_with fail; refine ⟨by first | exact Below.refl _ _ | exact hnew.below, ?_⟩
  refine idx_q rfl rfl ?_; go_wp2_with (first | (refine L_un (t := 20) rfl (by rfl) rfl ?_) | (first | (refine L_loadA (d := some 20) rfl rfl rfl (by rfl) Tryd.underlying25 rfl el_api_Digest (by first | exact hst.get 0 rfl | exact hst.get 1 rfl) (by first | rfl | exact Dig.size _ | (simp; done)) ?_) | (refine L_loadM (d := some 20) rfl rfl rfl (by rfl) Tryd.underlying25 rfl el_api_Digest (by first | assumption) (by first | rfl | exact Dig.size _ | (simp; done)) ?_)) | fail)
  refine idx_g rfl ?_; go_wp2_with (first | (refine L_un (t := 21) rfl (by rfl) rfl ?_) | (refine L_build0 (d := some 21) rfl rfl rfl Tryd.underlying25 el_uint8 el_api_Digest ?_) | fail); refine ⟨by first | exact Below.refl _ _ | exact hnew.below, ?_⟩
  refine idx_g rfl ?_; go_wp2_with (first | (refine L_un (t := 22) rfl (by rfl) rfl ?_) | (refine L_build1 (d := some 14) rfl rfl rfl Tryd.underlying25 el_uint8 el_api_Digest ev_const rfl (by decide) ?_; rw [tag_1]) | (refine L_build1 (d := some 15) rfl rfl rfl Tryd.underlying25 el_uint8 el_api_Digest ev_const rfl (by decide) ?_; rw [tag_2]) | (go_at_call 35; (try clear hnew); with_reducible refine (node_any _ _ _ (HT.out.of hst)).mono ?_; rintro e W16 ⟨rfl, hnew⟩; replace hst := hst.keep hnew) | (refine L_neD (d := some 22) rfl rfl rfl Tryd.underlying25 Tryd.underlying5 el_uint8 eqG_D (ev_tmp rfl) (ev_tmp rfl) ?_; (try rw [HE.out]); (try rw [HZ.out])) | fail); refine ⟨by first | exact Below.refl _ _ | exact hnew.below, ?_⟩
  refine idx_g rfl ?_; go_wp2_with fail; refine ⟨by first | exact Below.refl _ _ | exact hnew.below, ?_⟩
  refine idx_g rfl ?_; go_wp2_with fail; refine ⟨by first | exact Below.refl _ _ | exact hnew.below, ?_⟩
  refine idx_nil ?_
  go_wp2_with fail
  go_ret
  exact ⟨rfl, hst.forget⟩
end Go.Proofs.YtfpppmamkmaneaaDoor
