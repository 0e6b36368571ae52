/-
  Proved here: the contract of the verifier's look whether two lists of digests are the same. No condition.
-/
import Derived.Test.YthlpobpkhlbfdaaDoorChain
import Derived.Test.YthlpobpkhlbfdaaDoorLawD
import Derived.Test.YthlpobpkhlbfdaaDoorDrawT
import Derived.Deep.DeepCutAuto
import Derived.Deep.RegionWith
set_option maxRecDepth 20000
set_option linter.unusedSimpArgs false
set_option linter.unusedVariables false
namespace Go.Proofs.YthlpobpkhlbfdaaDoor
open Go.RowKit

theorem eq_of_takeD {α : Type} {x y : List α} {i : Nat} (hx : x.length ≤ i) (hl : x.length = y.length) (h : x.take i = y.take i) : x = y := by
  rwa [List.take_of_length_le hx, List.take_of_length_le (by omega)] at h
theorem digs_take_succ {x y : List Dig} {i : Nat} (hx : i < x.length) (hy : i < y.length) (h : x.take i = y.take i) (he : x[i] = y[i]) : x.take (i + 1) = y.take (i + 1) := by
  rw [List.take_succ_eq_append_getElem hx, List.take_succ_eq_append_getElem hy, h, he]

set_option maxHeartbeats 1000000 in
theorem sameD_any (x y : List Dig) (A B : Option Addr) (n c m d : Nat) (w : World) (hx : SlR w A n c 32 (digsL x)) (hy : SlR w B m d 32 (digsL y)) :
    Calls Tryd.prog 11 #[.slice A n c, .slice B m d] w fun e w' => e = .returned (.bool (decide (x = y))) ∧ St w w' [] := by
  have hst := St.refl w
  have hxl : x.length = n := by have := hx.1; rw [length_digsL] at this; omega
  have hyl : y.length = m := by have := hy.1; rw [length_digsL] at this; omega
  have hxm := hx.2.2.1
  have hxc := hx.2.1
  simp only [maxLen] at hxm
  have Hxl := Lib.hid hxl
  have Hyl := Lib.hid hyl
  clear hxl hyl
  by_cases hnm : n = m
  · subst hnm
    go_enter Tryd.func11, Tryd.ntmps11
    go_wp2_with (first
      | fail)
    go_loopg [5] n (fun gk s5 wr => ∃ i : Nat, Hid (i + gk = n) ∧ Hid (x.take i = y.take i) ∧ s5 = .int .i64 (i : Int) ∧ St w wr [])
    case atStart => exact ⟨0, Lib.hid (by omega), Lib.hid rfl, rfl, hst⟩
    case round =>
      clear hst
      obtain ⟨i, HI, HE, rfl, hst⟩ := hrel
      have hi := HI.out
      by_cases hin : i < n
      · clear hi
        have hbx := Lib.hid (show i < x.length by rw [Hxl.out]; exact hin)
        have hby := Lib.hid (show i < y.length by rw [Hyl.out]; exact hin)
        have HX := Lib.hid (digsL_at x i hbx.out)
        have HY := Lib.hid (digsL_at y i hby.out)
        by_cases he : x[i]'hbx.out = y[i]'hby.out
        · have He := Lib.hid (digs_take_succ hbx.out hby.out HE.out he)
          rw [he] at HX
          clear he
          generalize y[i]'hby.out = b at HX HY
          have HD := Lib.hid (show (!decide (b = b)) = false by simp)
          go_wp2_with (first
            | fail)
          refine wp_region_idx [(0, 0), (1, 0), (2, 0), (3, 0), (4, 0), (5, 2), (6, 2), (7, 2), (8, 2)] (by kernel_rfl) (by kernel_rfl) ?_
          replace hst := hst.drew
          refine idx_q rfl rfl ?_; go_wp2_with fail
          refine idx_q rfl rfl ?_; go_wp2_with fail
          refine idx_q rfl rfl ?_; go_wp2_with (first | (refine L_idxS (d := some 19) rfl rfl rfl (by rfl) (by rfl) Tryd.underlying29 el_api_Digest (by first | assumption | exact hst.sl 0 rfl | exact hst.sl 1 rfl | exact hst.sl 2 rfl | exact hst.sl 3 rfl | exact hst.sl 4 rfl | exact hst.sl 5 rfl | exact hst.old (by decide) (by assumption)) (by omega) (by omega) ?_; intro o19 p19 ha19 hr19; (first | subst ha19 | (obtain ⟨h1, h2⟩ := some_addr ha19; subst h1; subst h2; clear ha19) | skip)) | fail)
          refine idx_q rfl rfl ?_; go_wp2_with (first | (refine L_loadM (d := some 20) rfl rfl rfl (by rfl) Tryd.underlying23 rfl el_api_Digest (cs := b.arr) (by rw [Dig.toList, ← HX.out]; exact hr19) (Dig.size _) ?_) | (first | (refine L_loadA (d := some 20) rfl rfl rfl (by rfl) Tryd.underlying23 rfl el_api_Digest (by first | exact hst.get 0 rfl | exact hst.get 1 rfl | exact hst.get 2 rfl | exact hst.get 3 rfl | exact hst.get 4 rfl | exact hst.get 5 rfl) (by first | rfl | exact Dig.size _ | (simp; done)) ?_) | (refine L_loadM (d := some 20) rfl rfl rfl (by rfl) Tryd.underlying23 rfl el_api_Digest (by first | assumption) (by first | rfl | exact Dig.size _ | (simp; done)) ?_)) | fail)
          refine idx_q rfl rfl ?_; go_wp2_with fail
          refine idx_g rfl ?_; go_wp2_with fail; refine ⟨by first | exact Below.refl _ _ | exact hnew.below, ?_⟩
          refine idx_g rfl ?_; go_wp2_with (first | (refine L_idxS (d := some 23) rfl rfl rfl (by rfl) (by rfl) Tryd.underlying29 el_api_Digest (by first | assumption | exact hst.sl 0 rfl | exact hst.sl 1 rfl | exact hst.sl 2 rfl | exact hst.sl 3 rfl | exact hst.sl 4 rfl | exact hst.sl 5 rfl | exact hst.old (by decide) (by assumption)) (by omega) (by omega) ?_; intro o23 p23 ha23 hr23; (first | subst ha23 | (obtain ⟨h1, h2⟩ := some_addr ha23; subst h1; subst h2; clear ha23) | skip)) | fail); refine ⟨by first | exact Below.refl _ _ | exact hnew.below, ?_⟩
          refine idx_g rfl ?_; go_wp2_with (first | (refine L_loadM (d := some 24) rfl rfl rfl (by rfl) Tryd.underlying23 rfl el_api_Digest (cs := b.arr) (by rw [Dig.toList, ← HY.out]; exact hr23) (Dig.size _) ?_) | (first | (refine L_loadA (d := some 24) rfl rfl rfl (by rfl) Tryd.underlying23 rfl el_api_Digest (by first | exact hst.get 0 rfl | exact hst.get 1 rfl | exact hst.get 2 rfl | exact hst.get 3 rfl | exact hst.get 4 rfl | exact hst.get 5 rfl) (by first | rfl | exact Dig.size _ | (simp; done)) ?_) | (refine L_loadM (d := some 24) rfl rfl rfl (by rfl) Tryd.underlying23 rfl el_api_Digest (by first | assumption) (by first | rfl | exact Dig.size _ | (simp; done)) ?_)) | fail); refine ⟨by first | exact Below.refl _ _ | exact hnew.below, ?_⟩
          refine idx_g rfl ?_; go_wp2_with (first | (refine L_loadM (d := some 20) rfl rfl rfl (by rfl) Tryd.underlying23 rfl el_api_Digest (cs := b.arr) (by rw [Dig.toList, ← HX.out]; exact hr19) (Dig.size _) ?_) | (refine L_loadM (d := some 24) rfl rfl rfl (by rfl) Tryd.underlying23 rfl el_api_Digest (cs := b.arr) (by rw [Dig.toList, ← HY.out]; exact hr23) (Dig.size _) ?_) | (refine L_neD (d := some 25) rfl rfl rfl Tryd.underlying23 Tryd.underlying5 el_uint8 eqG_D (ev_tmp rfl) (ev_tmp rfl) ?_; (try rw [HD.out])) | fail); refine ⟨by first | exact Below.refl _ _ | exact hnew.below, ?_⟩
          refine idx_nil ?_
          go_wp2_with fail
          go_roundg (gk - 1)
          case measure => have hi := HI.out; omega
          case rel =>
            have hi := HI.out
            exact ⟨i + 1, Lib.hid (by omega), He, by go_num, hst⟩
        · have hF : decide (x = y) = false := by
            rw [decide_eq_false_iff_not]
            intro e
            subst e
            exact he rfl
          have HF := Lib.hid hF
          generalize x[i]'hbx.out = b at HX he
          generalize y[i]'hby.out = b' at HY he
          have HD := Lib.hid (show (!decide (b = b')) = true by simp [he])
          clear he hF
          go_wp2_with (first
            | fail)
          refine wp_region_idx [(0, 0), (1, 0), (2, 0), (3, 0), (4, 0), (5, 2), (6, 2), (7, 2), (8, 2)] (by kernel_rfl) (by kernel_rfl) ?_
          replace hst := hst.drew
          refine idx_q rfl rfl ?_; go_wp2_with fail
          refine idx_q rfl rfl ?_; go_wp2_with fail
          refine idx_q rfl rfl ?_; go_wp2_with (first | (refine L_idxS (d := some 19) rfl rfl rfl (by rfl) (by rfl) Tryd.underlying29 el_api_Digest (by first | assumption | exact hst.sl 0 rfl | exact hst.sl 1 rfl | exact hst.sl 2 rfl | exact hst.sl 3 rfl | exact hst.sl 4 rfl | exact hst.sl 5 rfl | exact hst.old (by decide) (by assumption)) (by omega) (by omega) ?_; intro o19 p19 ha19 hr19; (first | subst ha19 | (obtain ⟨h1, h2⟩ := some_addr ha19; subst h1; subst h2; clear ha19) | skip)) | fail)
          refine idx_q rfl rfl ?_; go_wp2_with (first | (refine L_loadM (d := some 20) rfl rfl rfl (by rfl) Tryd.underlying23 rfl el_api_Digest (cs := b.arr) (by rw [Dig.toList, ← HX.out]; exact hr19) (Dig.size _) ?_) | (first | (refine L_loadA (d := some 20) rfl rfl rfl (by rfl) Tryd.underlying23 rfl el_api_Digest (by first | exact hst.get 0 rfl | exact hst.get 1 rfl | exact hst.get 2 rfl | exact hst.get 3 rfl | exact hst.get 4 rfl | exact hst.get 5 rfl) (by first | rfl | exact Dig.size _ | (simp; done)) ?_) | (refine L_loadM (d := some 20) rfl rfl rfl (by rfl) Tryd.underlying23 rfl el_api_Digest (by first | assumption) (by first | rfl | exact Dig.size _ | (simp; done)) ?_)) | fail)
          refine idx_q rfl rfl ?_; go_wp2_with fail
          refine idx_g rfl ?_; go_wp2_with fail; refine ⟨by first | exact Below.refl _ _ | exact hnew.below, ?_⟩
          refine idx_g rfl ?_; go_wp2_with (first | (refine L_idxS (d := some 23) rfl rfl rfl (by rfl) (by rfl) Tryd.underlying29 el_api_Digest (by first | assumption | exact hst.sl 0 rfl | exact hst.sl 1 rfl | exact hst.sl 2 rfl | exact hst.sl 3 rfl | exact hst.sl 4 rfl | exact hst.sl 5 rfl | exact hst.old (by decide) (by assumption)) (by omega) (by omega) ?_; intro o23 p23 ha23 hr23; (first | subst ha23 | (obtain ⟨h1, h2⟩ := some_addr ha23; subst h1; subst h2; clear ha23) | skip)) | fail); refine ⟨by first | exact Below.refl _ _ | exact hnew.below, ?_⟩
          refine idx_g rfl ?_; go_wp2_with (first | (refine L_loadM (d := some 24) rfl rfl rfl (by rfl) Tryd.underlying23 rfl el_api_Digest (cs := b'.arr) (by rw [Dig.toList, ← HY.out]; exact hr23) (Dig.size _) ?_) | (first | (refine L_loadA (d := some 24) rfl rfl rfl (by rfl) Tryd.underlying23 rfl el_api_Digest (by first | exact hst.get 0 rfl | exact hst.get 1 rfl | exact hst.get 2 rfl | exact hst.get 3 rfl | exact hst.get 4 rfl | exact hst.get 5 rfl) (by first | rfl | exact Dig.size _ | (simp; done)) ?_) | (refine L_loadM (d := some 24) rfl rfl rfl (by rfl) Tryd.underlying23 rfl el_api_Digest (by first | assumption) (by first | rfl | exact Dig.size _ | (simp; done)) ?_)) | fail); refine ⟨by first | exact Below.refl _ _ | exact hnew.below, ?_⟩
          refine idx_g rfl ?_; go_wp2_with (first | (refine L_loadM (d := some 20) rfl rfl rfl (by rfl) Tryd.underlying23 rfl el_api_Digest (cs := b.arr) (by rw [Dig.toList, ← HX.out]; exact hr19) (Dig.size _) ?_) | (refine L_loadM (d := some 24) rfl rfl rfl (by rfl) Tryd.underlying23 rfl el_api_Digest (cs := b'.arr) (by rw [Dig.toList, ← HY.out]; exact hr23) (Dig.size _) ?_) | (refine L_neD (d := some 25) rfl rfl rfl Tryd.underlying23 Tryd.underlying5 el_uint8 eqG_D (ev_tmp rfl) (ev_tmp rfl) ?_; (try rw [HD.out])) | fail); refine ⟨by first | exact Below.refl _ _ | exact hnew.below, ?_⟩
          refine idx_nil ?_
          go_wp2_with fail
          go_ret
          exact ⟨by rw [HF.out]; rfl, hst⟩
      · obtain rfl : i = n := by omega
        have HF := Lib.hid (show decide (x = y) = true by
          rw [decide_eq_true_eq]
          exact eq_of_takeD (by rw [Hxl.out]; exact Nat.le_refl _) (by rw [Hxl.out, Hyl.out]) HE.out)
        clear hi HI HE
        go_wp2_with (first
          | fail)
        go_ret
        exact ⟨by rw [HF.out]; rfl, hst⟩
  · have hne : ((n : Int) != (m : Int)) = true := by rw [bne_iff_ne]; omega
    have HF := Lib.hid (show decide (x = y) = false by
      rw [decide_eq_false_iff_not]
      intro e
      subst e
      rw [Hxl.out] at Hyl
      exact hnm Hyl.out)
    go_enter Tryd.func11, Tryd.ntmps11
    go_wp2_with (first
      | fail)
    go_ret
    exact ⟨by rw [HF.out]; rfl, hst⟩
end Go.Proofs.YthlpobpkhlbfdaaDoor
