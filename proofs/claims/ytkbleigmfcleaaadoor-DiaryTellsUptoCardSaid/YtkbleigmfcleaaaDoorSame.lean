/-
  Proved here: the contract of the verifier's look whether two lists of bytes are the same. No condition.
-/
import Derived.Test.YtkbleigmfcleaaaDoorEl
import Derived.Test.YtkbleigmfcleaaaDoorLawD
import Derived.Deep.LoopGhost
import Derived.Test.YtkbleigmfcleaaaDoorLawB
import Derived.Deep.DeepCutAuto
import Derived.Deep.RegionWith
set_option maxRecDepth 20000
set_option linter.unusedSimpArgs false
set_option linter.unusedVariables false
namespace Go.Proofs.YtkbleigmfcleaaaDoor
open Go.RowKit

theorem eq_of_take {α : Type} {x y : List α} {i : Nat} (hx : x.length ≤ i) (hl : x.length = y.length) (h : x.take i = y.take i) : x = y := by
  rwa [List.take_of_length_le hx, List.take_of_length_le (by omega)] at h
theorem take_succ_eq {x y : List UInt8} {i : Nat} (hx : i < x.length) (hy : i < y.length) (h : x.take i = y.take i) (he : x.getD i 0 = y.getD i 0) : x.take (i + 1) = y.take (i + 1) := by
  rw [List.take_succ_eq_append_getElem hx, List.take_succ_eq_append_getElem hy, h]
  simp only [List.getD_eq_getElem?_getD, List.getElem?_eq_getElem hx, List.getElem?_eq_getElem hy, Option.getD_some] at he
  rw [he]
theorem beq_of_ne {x y : List UInt8} {i : Nat} (h : x.getD i 0 ≠ y.getD i 0) : (x == y) = false := by
  rw [beq_eq_false_iff_ne]
  intro e
  exact h (by rw [e])

set_option maxHeartbeats 1000000 in
theorem sameB_any (x y : List UInt8) (A B : Option Addr) (n c m d : Nat) (w : World) (hx : SlR w A n c 1 (bytesL x)) (hy : SlR w B m d 1 (bytesL y)) :
    Calls Tryd.prog 32 #[.slice A n c, .slice B m d] w fun e w' => e = .returned (.bool (x == y)) ∧ St w w' [] := by
  have hst := St.refl w
  have hxl := hx.1
  have hyl := hy.1
  have hxm := hx.2.2.1
  have hxc := hx.2.1
  simp only [maxLen] at hxm
  rw [length_bytesL, Nat.mul_one] at hxl hyl
  have Hxl := Lib.hid hxl
  have Hyl := Lib.hid hyl
  clear hxl hyl
  by_cases hnm : n = m
  · subst hnm
    go_enter Tryd.func32, Tryd.ntmps32
    go_wp2_with (first
      | fail)
    go_loopg [5] n (fun gk s5 wr => ∃ i : Nat, Hid (i + gk = n) ∧ Hid (x.take i = y.take i) ∧ s5 = .int .i64 (i : Int) ∧ St w wr [])
    case atStart => exact ⟨0, Lib.hid (by omega), Lib.hid rfl, rfl, hst⟩
    case round =>
      clear hst
      obtain ⟨i, HI, HE, rfl, hst⟩ := hrel
      have hi := HI.out
      by_cases hin : i < n
      · clear hi
        have hbx := Lib.hid (show i < x.length by rw [Hxl.out]; exact hin)
        have hby := Lib.hid (show i < y.length by rw [Hyl.out]; exact hin)
        have HX := Lib.hid (fun (W : World) (g off : Nat) h => byte_of_range (W := W) (g := g) (off := off) (i := i) (l := x) h hbx.out)
        have HY := Lib.hid (fun (W : World) (g off : Nat) h => byte_of_range (W := W) (g := g) (off := off) (i := i) (l := y) h hby.out)
        by_cases he : x.getD i 0 = y.getD i 0
        · have He := Lib.hid (take_succ_eq hbx.out hby.out HE.out he)
          rw [he] at HX
          clear he
          generalize y.getD i 0 = b at HX HY
          go_wp2_with (first
            | fail)
          refine wp_region_idx [(0, 0), (1, 0), (2, 0), (3, 0), (4, 0), (5, 2), (6, 2), (7, 2), (8, 2)] (by kernel_rfl) (by kernel_rfl) ?_
          replace hst := hst.drew
          refine idx_q rfl rfl ?_; go_wp2_with fail
          refine idx_q rfl rfl ?_; go_wp2_with fail
          refine idx_q rfl rfl ?_; go_wp2_with (first | (refine L_idxS (d := some 19) rfl rfl rfl (by rfl) (by rfl) Tryd.underlying49 el_uint8 (by first | assumption | exact hst.sl 0 rfl | exact hst.sl 1 rfl | exact hst.sl 2 rfl | exact hst.sl 3 rfl | exact hst.sl 4 rfl | exact hst.sl 5 rfl | exact hst.old (by decide) (by assumption)) (by omega) (by omega) ?_; intro o19 p19 ha19 hr19; (first | subst ha19 | (obtain ⟨h1, h2⟩ := some_addr ha19; subst h1; subst h2; clear ha19) | skip)) | fail)
          refine idx_q rfl rfl ?_; go_wp2_with (first | (refine L_load1 (d := some 20) rfl rfl rfl (by rfl) Tryd.underlying5 rfl (HX.out _ _ _ hr19) ?_) | (refine L_load1 (d := some 20) rfl rfl rfl (by rfl) Tryd.underlying5 rfl (by first | assumption | exact cell_of (hst.get 0 rfl) rfl | exact cell_of (hst.get 1 rfl) rfl | exact cell_of (hst.get 2 rfl) rfl | exact cell_of (hst.get 3 rfl) rfl | exact cell_of (hst.get 4 rfl) rfl | exact cell_of (hst.get 5 rfl) rfl) ?_) | fail)
          refine idx_q rfl rfl ?_; go_wp2_with fail
          refine idx_g rfl ?_; go_wp2_with fail; refine ⟨by first | exact Below.refl _ _ | exact hnew.below, ?_⟩
          refine idx_g rfl ?_; go_wp2_with (first | (refine L_idxS (d := some 23) rfl rfl rfl (by rfl) (by rfl) Tryd.underlying49 el_uint8 (by first | assumption | exact hst.sl 0 rfl | exact hst.sl 1 rfl | exact hst.sl 2 rfl | exact hst.sl 3 rfl | exact hst.sl 4 rfl | exact hst.sl 5 rfl | exact hst.old (by decide) (by assumption)) (by omega) (by omega) ?_; intro o23 p23 ha23 hr23; (first | subst ha23 | (obtain ⟨h1, h2⟩ := some_addr ha23; subst h1; subst h2; clear ha23) | skip)) | fail); refine ⟨by first | exact Below.refl _ _ | exact hnew.below, ?_⟩
          refine idx_g rfl ?_; go_wp2_with (first | (refine L_load1 (d := some 24) rfl rfl rfl (by rfl) Tryd.underlying5 rfl (HY.out _ _ _ hr23) ?_) | (refine L_load1 (d := some 24) rfl rfl rfl (by rfl) Tryd.underlying5 rfl (by first | assumption | exact cell_of (hst.get 0 rfl) rfl | exact cell_of (hst.get 1 rfl) rfl | exact cell_of (hst.get 2 rfl) rfl | exact cell_of (hst.get 3 rfl) rfl | exact cell_of (hst.get 4 rfl) rfl | exact cell_of (hst.get 5 rfl) rfl) ?_) | fail); refine ⟨by first | exact Below.refl _ _ | exact hnew.below, ?_⟩
          refine idx_g rfl ?_; go_wp2_with (first | (refine L_load1 (d := some 20) rfl rfl rfl (by rfl) Tryd.underlying5 rfl (HX.out _ _ _ hr19) ?_) | (refine L_load1 (d := some 24) rfl rfl rfl (by rfl) Tryd.underlying5 rfl (HY.out _ _ _ hr23) ?_) | fail); refine ⟨by first | exact Below.refl _ _ | exact hnew.below, ?_⟩
          refine idx_nil ?_
          go_wp2_with fail
          go_roundg (gk - 1)
          case measure => have hi := HI.out; omega
          case rel =>
            have hi := HI.out
            exact ⟨i + 1, Lib.hid (by omega), He, by go_num, hst⟩
        · have hne : ¬ ((x.getD i 0).toNat : Int) = ((y.getD i 0).toNat : Int) := fun h => he (UInt8.toNat_inj.1 (by omega))
          have hne' : (((x.getD i 0).toNat : Int) != ((y.getD i 0).toNat : Int)) = true := bne_iff_ne.2 hne
          have HF := Lib.hid (beq_of_ne he)
          clear he
          generalize y.getD i 0 = b at *
          generalize x.getD i 0 = b' at *
          go_wp2_with (first
            | fail)
          refine wp_region_idx [(0, 0), (1, 0), (2, 0), (3, 0), (4, 0), (5, 2), (6, 2), (7, 2), (8, 2)] (by kernel_rfl) (by kernel_rfl) ?_
          replace hst := hst.drew
          refine idx_q rfl rfl ?_; go_wp2_with fail
          refine idx_q rfl rfl ?_; go_wp2_with fail
          refine idx_q rfl rfl ?_; go_wp2_with (first | (refine L_idxS (d := some 19) rfl rfl rfl (by rfl) (by rfl) Tryd.underlying49 el_uint8 (by first | assumption | exact hst.sl 0 rfl | exact hst.sl 1 rfl | exact hst.sl 2 rfl | exact hst.sl 3 rfl | exact hst.sl 4 rfl | exact hst.sl 5 rfl | exact hst.old (by decide) (by assumption)) (by omega) (by omega) ?_; intro o19 p19 ha19 hr19; (first | subst ha19 | (obtain ⟨h1, h2⟩ := some_addr ha19; subst h1; subst h2; clear ha19) | skip)) | fail)
          refine idx_q rfl rfl ?_; go_wp2_with (first | (refine L_load1 (d := some 20) rfl rfl rfl (by rfl) Tryd.underlying5 rfl (HX.out _ _ _ hr19) ?_) | (refine L_load1 (d := some 20) rfl rfl rfl (by rfl) Tryd.underlying5 rfl (by first | assumption | exact cell_of (hst.get 0 rfl) rfl | exact cell_of (hst.get 1 rfl) rfl | exact cell_of (hst.get 2 rfl) rfl | exact cell_of (hst.get 3 rfl) rfl | exact cell_of (hst.get 4 rfl) rfl | exact cell_of (hst.get 5 rfl) rfl) ?_) | fail)
          refine idx_q rfl rfl ?_; go_wp2_with fail
          refine idx_g rfl ?_; go_wp2_with fail; refine ⟨by first | exact Below.refl _ _ | exact hnew.below, ?_⟩
          refine idx_g rfl ?_; go_wp2_with (first | (refine L_idxS (d := some 23) rfl rfl rfl (by rfl) (by rfl) Tryd.underlying49 el_uint8 (by first | assumption | exact hst.sl 0 rfl | exact hst.sl 1 rfl | exact hst.sl 2 rfl | exact hst.sl 3 rfl | exact hst.sl 4 rfl | exact hst.sl 5 rfl | exact hst.old (by decide) (by assumption)) (by omega) (by omega) ?_; intro o23 p23 ha23 hr23; (first | subst ha23 | (obtain ⟨h1, h2⟩ := some_addr ha23; subst h1; subst h2; clear ha23) | skip)) | fail); refine ⟨by first | exact Below.refl _ _ | exact hnew.below, ?_⟩
          refine idx_g rfl ?_; go_wp2_with (first | (refine L_load1 (d := some 24) rfl rfl rfl (by rfl) Tryd.underlying5 rfl (HY.out _ _ _ hr23) ?_) | (refine L_load1 (d := some 24) rfl rfl rfl (by rfl) Tryd.underlying5 rfl (by first | assumption | exact cell_of (hst.get 0 rfl) rfl | exact cell_of (hst.get 1 rfl) rfl | exact cell_of (hst.get 2 rfl) rfl | exact cell_of (hst.get 3 rfl) rfl | exact cell_of (hst.get 4 rfl) rfl | exact cell_of (hst.get 5 rfl) rfl) ?_) | fail); refine ⟨by first | exact Below.refl _ _ | exact hnew.below, ?_⟩
          refine idx_g rfl ?_; go_wp2_with (first | (refine L_load1 (d := some 20) rfl rfl rfl (by rfl) Tryd.underlying5 rfl (HX.out _ _ _ hr19) ?_) | (refine L_load1 (d := some 24) rfl rfl rfl (by rfl) Tryd.underlying5 rfl (HY.out _ _ _ hr23) ?_) | fail); refine ⟨by first | exact Below.refl _ _ | exact hnew.below, ?_⟩
          refine idx_nil ?_
          go_wp2_with fail
          go_ret
          exact ⟨by rw [HF.out]; rfl, hst⟩
      · have hxy : x = y := eq_of_take (i := i) (by rw [Hxl.out]; omega) (by rw [Hxl.out, Hyl.out]) HE.out
        have HF := Lib.hid (show (x == y) = true by rw [hxy]; exact beq_self_eq_true y)
        obtain rfl : i = n := by omega
        clear hi HI hxy
        go_wp2_with (first
          | fail)
        go_ret
        exact ⟨by rw [HF.out]; rfl, hst⟩
  · have HF := Lib.hid (show (x == y) = false by rw [beq_eq_false_iff_ne]; intro e; exact hnm (by rw [← Hxl.out, ← Hyl.out, e]))
    have hne : ¬ (n : Int) = (m : Int) := by omega
    have hne' : ((n : Int) != (m : Int)) = true := bne_iff_ne.2 hne
    go_enter Tryd.func32, Tryd.ntmps32
    go_wp2_with (first
      | fail)
    go_ret
    exact ⟨by rw [HF.out]; rfl, hst⟩
end Go.Proofs.YtkbleigmfcleaaaDoor
