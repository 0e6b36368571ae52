/-
  Proved here: the contract of once.Sign. Condition: the table of round constants stands.
-/
import Derived.Test.YthlpobpkhlbfdaaDoorOnceBits
set_option maxRecDepth 20000
set_option linter.unusedSimpArgs false
set_option linter.unusedVariables false
namespace Go.Proofs.YthlpobpkhlbfdaaDoor
open Go.RowKit Go.Shelf
attribute [local go_sem] Oper.semAt_some

/-- what a place adds -/
def sigAt (seed m : Dig) (x : Pl) : List Dig := [secretN seed x.val (bitN m x.val), leafN (secretN seed x.val (1 - bitN m x.val))]
theorem sig_plTo (seed m : Dig) : ∀ k, k ≤ 256 → (plTo k).flatMap (sigAt seed m) = sigTo seed m k
  | 0, _ => rfl
  | k + 1, h => by
    rw [plTo_succ, List.flatMap_append, sig_plTo seed m k (by omega), sigTo_succ]
    simp only [List.flatMap_cons, List.flatMap_nil, List.append_nil, sigAt, plOf_val k (by omega)]
theorem el_S_api_Digest : ElemIs Tryd.prog 29 (.slice none 0 0) 1 24 := by unfold ElemIs; kernel_rfl

set_option maxHeartbeats 4000000 in
set_option maxRecDepth 100000 in
theorem onceSign_any (seed m : Dig) (w : World) (hT : Tb w) : Calls Tryd.prog 7 #[seed.v, m.v] w fun e w' => ∃ A c, e = .returned (.slice A 512 c) ∧ St w w' [.row A 512 c 23 32 (digsL (onceSigN seed m))] := by
  have hst := St.refl w
  have HT := Lib.hid hT
  clear hT
  refine (callsIn_wide (n := 5)).1 ?_
  refine callsIn_of_wp_marks Tryd.func7 rfl trivial ?_ rfl
  refine wpIn_wide.2 ?_
  simp only [Tryd.ntmps7, List.size_toArray, List.length_cons, List.length_nil, Nat.reduceAdd, Nat.reduceSub, Array.replicate_succ, Array.replicate_zero, List.push_toArray, List.append_toArray, List.nil_append, List.cons_append]
  go_upto_region 1 with (first
    | (refine L_boxA (d := some 2) rfl rfl rfl (ev_tmp rfl) ?_; (try clear hnew); intro g2 W2 hnew; replace hst := hst.trans hnew; simp only [List.cons_append, List.nil_append] at hst)
    | (refine L_boxA (d := some 3) rfl rfl rfl (ev_tmp rfl) ?_; (try clear hnew); intro g3 W3 hnew; replace hst := hst.trans hnew; simp only [List.cons_append, List.nil_append] at hst)
    | fail)
  go_upto_region 2 with (first
    | (refine L_alloc1 (d := some 5) rfl rfl rfl el_S_api_Digest rfl ?_; (try clear hnew); intro g5 W5 hnew; replace hst := hst.trans hnew; simp only [List.cons_append, List.nil_append] at hst)
    | fail)
  go_wp2_with (first
    | (go_at_call 16; (try clear hnew); refine (bits_any m _).mono ?_; rintro e Wk1 ⟨gb, rfl, hnew⟩; replace hst := hst.trans hnew; simp only [List.cons_append, List.nil_append] at hst)
    | (first | (refine L_loadA (d := some 8) rfl rfl rfl (by rfl) Tryd.underlying23 rfl el_api_Digest (by first | exact hst.get 0 rfl | exact hst.get 1 rfl | exact hst.get 2 rfl) (by first | rfl | exact Dig.size _ | (simp; done)) ?_) | (refine L_loadM (d := some 8) rfl rfl rfl (by rfl) Tryd.underlying23 rfl el_api_Digest (by first | assumption) (by first | rfl | exact Dig.size _ | (simp; done)) ?_))
    | fail)
  clear hnew
  have hgb := hst.get 0 rfl
  have hBw := hst.below.size
  obtain ⟨f, hf⟩ : ∃ f, f = sigAt seed m := ⟨_, rfl⟩
  have HF := Lib.hid hf
  clear hf
  refine (wpIn_wide (n := 4)).1 ?_
  refine wpIn_rangeFunc_ownG (w0 := Wk1) rfl (by decide) (gf := 21) (lb := #[.pointer (some ⟨gb, 0, none⟩)]) rfl trivial (enters_of Tryd.func21 (by kernel_rfl) rfl) (bits_stops m gb 3 (by decide) _ hgb) (fun h h' => h'.trans h)
    (fun W l o o' hl _ _ _ => World.putObj_heap_other (by have := (Array.getElem?_eq_some_iff.1 hgb).1; omega)) (Below.refl _ _) (fun _ => rfl)
    (fun pre W => ∃ O oc, St w W [.blk g5 29 #[.slice O (2 * pre.length) oc], .row O (2 * pre.length) oc 23 32 (digsL (pre.flatMap f)), .blk gb 23 m.arr, .blk g3 23 m.arr, .blk g2 23 seed.arr])
    (fun _ _ _ => False)
    (fun s A B row hs hg hr => by obtain ⟨O, oc, hs⟩ := hs; exact ⟨O, oc, hs.grown rfl hg fun r e => ⟨Nat.le_trans hBw (hr r e).1, (hr r e).2⟩⟩)
    (fun _ _ _ _ _ hs _ _ => hs.elim)
    ⟨none, 0, (hst.nilRow 23 32).pick [2, 0, 1, 3, 4] (by decide)⟩
    (fun x => { tmps := #[seed.v, m.v, .pointer (some ⟨g2, 0, none⟩), .pointer (some ⟨g3, 0, none⟩), .slice none 0 0, .pointer (some ⟨g5, 0, none⟩), .int .i64 (x.val : Int), .int .i64 (bitN m x.val : Int), .agg m.arr, .func (.func 21) #[] #[.pointer (some ⟨gb, 0, none⟩)], .int .i64 (x.val : Int), .int .i64 (bitN m x.val : Int), undef, undef, undef, undef, undef, undef, undef, undef, undef, undef, undef, undef, undef, undef], defers := [] }) ?assign ?body ?done ?stop
  case assign =>
    intro l x W K hK
    gi_wp2
    exact hK
  case stop =>
    intro D c pre W _ _ h _
    exact h.elim
  case done =>
    clear hst
    rintro D xs W hD hxs ⟨O, oc, hst⟩ hK
    have hfin : xs.flatMap f = onceSigN seed m ∧ xs.length = 256 := by
      rw [hxs, HF.out]
      exact ⟨sig_plTo seed m 256 (Nat.le_refl _), plTo_length 256⟩
    obtain ⟨h1, h2⟩ := hfin
    rw [h1, h2] at hst
    clear hxs h1 h2
    go_wp2_with (first
      | (refine L_load1 (d := some 25) rfl rfl rfl (by rfl) Tryd.underlying29 rfl (by first | assumption | exact cell_of (hst.get 0 rfl) rfl | exact cell_of (hst.get 1 rfl) rfl | exact cell_of (hst.get 2 rfl) rfl | exact cell_of (hst.get 3 rfl) rfl | exact cell_of (hst.get 4 rfl) rfl) ?_)
      | fail)
    refine ⟨by simp, .inl ⟨_, _, rfl, run_takeDeferred hK, ?_⟩⟩
    refine ⟨_, results_tmp rfl _ _ _, O, oc, rfl, ?_⟩
    have hst := hst.grown rfl (grownBy_putObj' W D (.deferred none)) (fun r e => by cases e; exact ⟨Nat.le_trans hBw hD, _, hK, rfl⟩)
    exact hst.pick [1] (by decide)
  case body =>
    clear hst
    rintro l pre ⟨i, hi⟩ W ⟨O, oc, hst⟩ hlen
    have hgW := hst.get 2 rfl
    have hb2 := bitN_lt m i
    have hst := hst.withObjs (B := Wk1.heap.size) rfl hBw
    obtain ⟨T, hTT⟩ : ∃ T, T = objsOf W Wk1.heap.size := ⟨_, rfl⟩
    rw [← hTT] at hst
    have HTT := Lib.hid hTT
    clear hTT
    simp only [List.cons_append, List.nil_append] at hst
    have H1 := Lib.hid (fun w hT => secret_any seed i (bitN m i) hi (by omega) w hT)
    have H2 := Lib.hid (show ∀ w, Tb w → Calls Tryd.prog 14 #[seed.v, .int .i64 (i : Int), .int .i64 (1 - (bitN m i : Int))] w fun e w' => e = .returned (secretN seed i (1 - bitN m i)).v ∧ St w w' [] from fun w hT => by
      have := secret_any seed i (1 - bitN m i) hi (by omega) w hT
      rwa [show ((1 - bitN m i : Nat) : Int) = 1 - (bitN m i : Int) by omega] at this)
    have HX := Lib.hid (show (pre ++ [(⟨i, hi⟩ : Pl)]).flatMap f = pre.flatMap f ++ [secretN seed i (bitN m i), leafN (secretN seed i (1 - bitN m i))] by rw [HF.out]; simp [sigAt])
    have HL := Lib.hid (show 2 * (pre ++ [(⟨i, hi⟩ : Pl)]).length = 2 * pre.length + 2 by simp; omega)
    dsimp only
    generalize secretN seed i (bitN m i) = s1 at *
    generalize secretN seed i (1 - bitN m i) = s2 at *
    have H3 := Lib.hid (fun w hT => leaf_any s2 w hT)
    generalize leafN s2 = s3 at *
    generalize bitN m i = b at *
    refine wpIn_block ?_
    have hsz : W.heap.size ≤ W.drew.heap.size := Nat.le_refl _
    refine wpIn_region_idxT [(0, 0), (1, 0), (2, 0), (3, 0), (5, 0), (6, 0), (7, 0), (8, 0), (4, 2), (9, 2), (10, 2), (11, 2), (12, 1), (13, 1)] (by kernel_rfl) (by kernel_rfl) (by kernel_rfl) ?_
    replace hst := hst.drew
    refine idx_q rfl rfl ?_; go_wp2_with (first | (refine L_load1 (d := some 12) rfl rfl rfl (by rfl) Tryd.underlying29 rfl (by first | assumption | exact cell_of (hst.get 0 rfl) rfl | exact cell_of (hst.get 1 rfl) rfl | exact cell_of (hst.get 2 rfl) rfl | exact cell_of (hst.get 3 rfl) rfl | exact cell_of (hst.get 4 rfl) rfl) ?_) | fail)
    refine idx_q rfl rfl ?_; go_wp2_with (first | (first | (refine L_loadA (d := some 13) rfl rfl rfl (by rfl) Tryd.underlying23 rfl el_api_Digest (by first | exact hst.get 0 rfl | exact hst.get 1 rfl | exact hst.get 2 rfl | exact hst.get 3 rfl | exact hst.get 4 rfl) (by first | rfl | exact Dig.size _ | (simp; done)) ?_) | (refine L_loadM (d := some 13) rfl rfl rfl (by rfl) Tryd.underlying23 rfl el_api_Digest (by first | assumption) (by first | rfl | exact Dig.size _ | (simp; done)) ?_)) | fail)
    refine idx_q rfl rfl ?_; go_wp2_with fail
    refine idx_q rfl rfl ?_; go_wp2_with fail
    refine idx_q rfl rfl ?_; go_wp2_with (first | (first | (refine L_loadA (d := some 17) rfl rfl rfl (by rfl) Tryd.underlying23 rfl el_api_Digest (by first | exact hst.get 0 rfl | exact hst.get 1 rfl | exact hst.get 2 rfl | exact hst.get 3 rfl | exact hst.get 4 rfl) (by first | rfl | exact Dig.size _ | (simp; done)) ?_) | (refine L_loadM (d := some 17) rfl rfl rfl (by rfl) Tryd.underlying23 rfl el_api_Digest (by first | assumption) (by first | rfl | exact Dig.size _ | (simp; done)) ?_)) | fail)
    refine idx_q rfl rfl ?_; go_wp2_with fail
    refine idx_q rfl rfl ?_; go_wp2_with fail
    refine idx_q rfl rfl ?_; go_wp2_with fail
    refine idx_g rfl ?_; go_wp2_with (first | (go_at_call_of 14 (Value.int .i64 (b : Int)); (try clear hnew); refine (H1.out _ (HT.out.of hst)).mono ?_; rintro e W16 ⟨rfl, hnew⟩; replace hst := hst.keep hnew; replace hsz := Nat.le_trans hsz hnew.below.size) | (go_at_call 14; (try clear hnew); refine (H2.out _ (HT.out.of hst)).mono ?_; rintro e W21 ⟨rfl, hnew⟩; replace hst := hst.keep hnew; replace hsz := Nat.le_trans hsz hnew.below.size) | (go_at_call 13; (try clear hnew); refine (H3.out _ (HT.out.of hst)).mono ?_; rintro e W22 ⟨rfl, hnew⟩; replace hst := hst.keep hnew; replace hsz := Nat.le_trans hsz hnew.below.size) | fail); refine ⟨by first | exact Below.refl _ _ | exact hnew.below, ?_⟩
    refine idx_g rfl ?_; go_wp2_with (first | (go_at_call_of 14 (Value.int .i64 (b : Int)); (try clear hnew); refine (H1.out _ (HT.out.of hst)).mono ?_; rintro e W16 ⟨rfl, hnew⟩; replace hst := hst.keep hnew; replace hsz := Nat.le_trans hsz hnew.below.size) | (go_at_call 14; (try clear hnew); refine (H2.out _ (HT.out.of hst)).mono ?_; rintro e W21 ⟨rfl, hnew⟩; replace hst := hst.keep hnew; replace hsz := Nat.le_trans hsz hnew.below.size) | (go_at_call 13; (try clear hnew); refine (H3.out _ (HT.out.of hst)).mono ?_; rintro e W22 ⟨rfl, hnew⟩; replace hst := hst.keep hnew; replace hsz := Nat.le_trans hsz hnew.below.size) | fail); refine ⟨by first | exact Below.refl _ _ | exact hnew.below, ?_⟩
    refine idx_g rfl ?_; go_wp2_with (first | (go_at_call_of 14 (Value.int .i64 (b : Int)); (try clear hnew); refine (H1.out _ (HT.out.of hst)).mono ?_; rintro e W16 ⟨rfl, hnew⟩; replace hst := hst.keep hnew; replace hsz := Nat.le_trans hsz hnew.below.size) | (go_at_call 14; (try clear hnew); refine (H2.out _ (HT.out.of hst)).mono ?_; rintro e W21 ⟨rfl, hnew⟩; replace hst := hst.keep hnew; replace hsz := Nat.le_trans hsz hnew.below.size) | (go_at_call 13; (try clear hnew); refine (H3.out _ (HT.out.of hst)).mono ?_; rintro e W22 ⟨rfl, hnew⟩; replace hst := hst.keep hnew; replace hsz := Nat.le_trans hsz hnew.below.size) | fail); refine ⟨by first | exact Below.refl _ _ | exact hnew.below, ?_⟩
    refine idx_g rfl ?_; go_wp2_with (first | (refine L_buildS (d := some 23) rfl rfl rfl [_, _] (bs_2 (ev_tmp rfl) (ev_tmp rfl)) rfl Tryd.underlying29 el_api_Digest rfl (by first | (simp [Value.cells]; done) | (simp [Value.cells, Dig.size]; done)) (by decide) (by decide) ?_; (try clear hnew); intro g23 W23 hnew; replace hst := hst.trans hnew; simp only [List.cons_append, List.nil_append] at hst; simp only [List.flatMap_cons, List.flatMap_nil, List.append_nil, Value.cells, List.toList_toArray] at hst) | fail); refine ⟨by first | exact Below.refl _ _ | exact hnew.below, ?_⟩
    refine idx_e rfl ?_; go_wp2_with (first | (go_at_call_of 14 (Value.int .i64 (b : Int)); (try clear hnew); refine (H1.out _ (HT.out.of hst)).mono ?_; rintro e W16 ⟨rfl, hnew⟩; replace hst := hst.keep hnew; replace hsz := Nat.le_trans hsz hnew.below.size) | (go_at_call 14; (try clear hnew); refine (H2.out _ (HT.out.of hst)).mono ?_; rintro e W21 ⟨rfl, hnew⟩; replace hst := hst.keep hnew; replace hsz := Nat.le_trans hsz hnew.below.size) | (go_at_call 13; (try clear hnew); refine (H3.out _ (HT.out.of hst)).mono ?_; rintro e W22 ⟨rfl, hnew⟩; replace hst := hst.keep hnew; replace hsz := Nat.le_trans hsz hnew.below.size) | (refine L_appendO (d := some 24) rfl rfl hst rfl (by rfl) (by rfl) Tryd.underlying29 el_api_Digest rfl (by decide) (by decide) 0 rfl (by first | rfl | omega) (by first | exact hst.sl 0 rfl | exact hst.sl 1 rfl | exact hst.sl 2 rfl | exact hst.sl 3 rfl | exact hst.sl 4 rfl | assumption | exact hst.old (by decide) (by assumption)) (by first | exact oneCell_bytes | (simp [Value.oneCell']; done) | exact digs2_one _ _) (by omega) ?_; clear hst; intro A24 c24 W24 hst; simp only [List.set_cons_zero, List.set_cons_succ, List.nil_append, Nat.zero_add] at hst) | (refine L_appendO (d := some 24) rfl rfl hst rfl (by rfl) (by rfl) Tryd.underlying29 el_api_Digest rfl (by decide) (by decide) 1 rfl (by first | rfl | omega) (by first | exact hst.sl 0 rfl | exact hst.sl 1 rfl | exact hst.sl 2 rfl | exact hst.sl 3 rfl | exact hst.sl 4 rfl | assumption | exact hst.old (by decide) (by assumption)) (by first | exact oneCell_bytes | (simp [Value.oneCell']; done) | exact digs2_one _ _) (by omega) ?_; clear hst; intro A24 c24 W24 hst; simp only [List.set_cons_zero, List.set_cons_succ, List.nil_append, Nat.zero_add] at hst) | (refine L_appendO (d := some 24) rfl rfl hst rfl (by rfl) (by rfl) Tryd.underlying29 el_api_Digest rfl (by decide) (by decide) 2 rfl (by first | rfl | omega) (by first | exact hst.sl 0 rfl | exact hst.sl 1 rfl | exact hst.sl 2 rfl | exact hst.sl 3 rfl | exact hst.sl 4 rfl | assumption | exact hst.old (by decide) (by assumption)) (by first | exact oneCell_bytes | (simp [Value.oneCell']; done) | exact digs2_one _ _) (by omega) ?_; clear hst; intro A24 c24 W24 hst; simp only [List.set_cons_zero, List.set_cons_succ, List.nil_append, Nat.zero_add] at hst) | (refine L_appendO (d := some 24) rfl rfl hst rfl (by rfl) (by rfl) Tryd.underlying29 el_api_Digest rfl (by decide) (by decide) 3 rfl (by first | rfl | omega) (by first | exact hst.sl 0 rfl | exact hst.sl 1 rfl | exact hst.sl 2 rfl | exact hst.sl 3 rfl | exact hst.sl 4 rfl | assumption | exact hst.old (by decide) (by assumption)) (by first | exact oneCell_bytes | (simp [Value.oneCell']; done) | exact digs2_one _ _) (by omega) ?_; clear hst; intro A24 c24 W24 hst; simp only [List.set_cons_zero, List.set_cons_succ, List.nil_append, Nat.zero_add] at hst) | (refine L_appendO (d := some 24) rfl rfl hst rfl (by rfl) (by rfl) Tryd.underlying29 el_api_Digest rfl (by decide) (by decide) 4 rfl (by first | rfl | omega) (by first | exact hst.sl 0 rfl | exact hst.sl 1 rfl | exact hst.sl 2 rfl | exact hst.sl 3 rfl | exact hst.sl 4 rfl | assumption | exact hst.old (by decide) (by assumption)) (by first | exact oneCell_bytes | (simp [Value.oneCell']; done) | exact digs2_one _ _) (by omega) ?_; clear hst; intro A24 c24 W24 hst; simp only [List.set_cons_zero, List.set_cons_succ, List.nil_append, Nat.zero_add] at hst) | (refine L_appendF (d := some 24) rfl rfl rfl (by rfl) (by rfl) Tryd.underlying29 el_api_Digest rfl (by decide) (by assumption) (by first | assumption | exact hst.sl 0 rfl | exact hst.sl 1 rfl | exact hst.sl 2 rfl | exact hst.sl 3 rfl | exact hst.sl 4 rfl | assumption | exact hst.old (by decide) (by assumption)) (by omega) (by omega) (by omega) ?_; (try clear hnew); intro A24 c24 W24 hnew; replace hst := hst.trans hnew; simp only [List.cons_append, List.nil_append] at hst) | fail)
    refine idx_e rfl ?_; go_wp2_with (first | (refine wpl_at (.store 29 (.tmp 5) (.tmp 24)) rfl ?_; first | (refine L_store1 rfl rfl hst rfl (by rfl) (ev_tmp rfl) rfl el_S_api_Digest 0 rfl (by first | exact of_decide_eq_true rfl | omega | (simp; done) | (simp; omega)) ?_; clear hst; intro WS13 hst; simp only [List.set_cons_zero, List.set_cons_succ] at hst) | (refine L_store1 rfl rfl hst rfl (by rfl) (ev_tmp rfl) rfl el_S_api_Digest 1 rfl (by first | exact of_decide_eq_true rfl | omega | (simp; done) | (simp; omega)) ?_; clear hst; intro WS13 hst; simp only [List.set_cons_zero, List.set_cons_succ] at hst) | (refine L_store1 rfl rfl hst rfl (by rfl) (ev_tmp rfl) rfl el_S_api_Digest 2 rfl (by first | exact of_decide_eq_true rfl | omega | (simp; done) | (simp; omega)) ?_; clear hst; intro WS13 hst; simp only [List.set_cons_zero, List.set_cons_succ] at hst) | (refine L_store1 rfl rfl hst rfl (by rfl) (ev_tmp rfl) rfl el_S_api_Digest 3 rfl (by first | exact of_decide_eq_true rfl | omega | (simp; done) | (simp; omega)) ?_; clear hst; intro WS13 hst; simp only [List.set_cons_zero, List.set_cons_succ] at hst) | (refine L_store1 rfl rfl hst rfl (by rfl) (ev_tmp rfl) rfl el_S_api_Digest 4 rfl (by first | exact of_decide_eq_true rfl | omega | (simp; done) | (simp; omega)) ?_; clear hst; intro WS13 hst; simp only [List.set_cons_zero, List.set_cons_succ] at hst)) | fail)
    refine idx_nil ?_
    have hsz := Nat.le_trans hsz (St.size_of_row hnew hst 0 rfl (by decide))
    rw [HTT.out] at hst
    refine ⟨St.keepsFrom (L := [_, _, _, _, _, _]) hst hsz, (hst.get 3 rfl).trans hgW.symm, A24, c24, ?_⟩
    have hst := hst.drop (List.sublist_append_left [_, _, _, _, _, _] (objsOf W Wk1.heap.size))
    rw [HL.out, HX.out, digsL_append, digsL_two]
    exact hst.pick [1, 2, 3, 4, 5] (by decide)
end Go.Proofs.YthlpobpkhlbfdaaDoor
