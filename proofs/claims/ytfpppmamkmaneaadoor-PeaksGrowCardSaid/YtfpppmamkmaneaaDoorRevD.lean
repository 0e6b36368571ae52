/-
  Proved here: the contracts of a tree's path: slices.Reverse at digests. No condition.
-/
import Derived.Test.YtfpppmamkmaneaaDoorSwap
import Derived.Test.YtfpppmamkmaneaaDoorTreePlain
import Derived.Test.YtfpppmamkmaneaaDoorLawE
import Derived.Test.YtfpppmamkmaneaaDoorLawF
import Derived.Test.YtfpppmamkmaneaaDoorFork
import Derived.Test.YtfpppmamkmaneaaDoorDrawT
set_option maxRecDepth 20000
set_option linter.unusedSimpArgs false
set_option linter.unusedVariables false
namespace Go.Proofs.YtfpppmamkmaneaaDoor
open Go.RowKit


set_option maxHeartbeats 2000000 in
theorem revD_any (l : List Dig) (n c : Nat) (A : Option Addr) (w0 w : World) (L : List Res) (hst : St w0 w (.row A n c 25 32 (digsL l) :: L)) :
    Calls Tryd.prog 54 #[.slice A n c] w fun e w' => e = .returned (.tuple #[]) ∧ St w0 w' (.row A n c 25 32 (digsL l.reverse) :: L) := by
  have hl : l.length = n := by have := (hst.sl 0 rfl).1; rw [length_digsL] at this; omega
  have hcap := (hst.sl 0 rfl).2.1
  have hmax := (hst.sl 0 rfl).2.2.1
  simp only [maxLen] at hmax
  have Hl := Lib.hid hl
  clear hl
  go_enter Tryd.func54, Tryd.ntmps54
  go_wp2_with (first
    | fail)
  go_loopg [2, 3] n (fun gk s2 s3 wr => ∃ (i : Nat) (l' : List Dig), Hid (i + gk = n) ∧ Hid (SwapAt l l' i) ∧ s2 = .int .i64 (i : Int) ∧ s3 = .int .i64 ((n : Int) - 1 - (i : Int)) ∧ 2 * i ≤ n ∧ St w0 wr (.row A n c 25 32 (digsL l') :: L))
  case atStart => exact ⟨0, l, Lib.hid (by omega), Lib.hid (SwapAt.start l), rfl, by congr 1; omega, by omega, hst⟩
  case round =>
    clear hst
    obtain ⟨i, l', HI, HS, rfl, rfl, h2i, hst⟩ := hrel
    have hi := HI.out
    by_cases hin : (i : Int) < (n : Int) - 1 - (i : Int)
    · clear hi
      obtain ⟨x, hx⟩ : ∃ x, l'[i]? = some x := ⟨l'[i]'(by rw [HS.out.len, Hl.out]; omega), List.getElem?_eq_getElem _⟩
      obtain ⟨y, hy⟩ : ∃ y, l'[l.length - 1 - i]? = some y := ⟨l'[l.length - 1 - i]'(by rw [HS.out.len, Hl.out]; omega), List.getElem?_eq_getElem _⟩
      have HN := Lib.hid (HS.out.step (by rw [Hl.out]; omega) hx hy)
      have hat : ∀ (k : Nat) (z : Dig), l'[k]? = some z → ((digsL l').drop (k * 32)).take 32 = z.arr.toList := fun k z hz => by
        obtain ⟨hk, rfl⟩ := List.getElem?_eq_some_iff.1 hz
        rw [digsL_at l' k hk, Dig.toList]
      have HX := Lib.hid (hat i x hx)
      have HY := Lib.hid (show ((digsL l').drop (((n : Int) - 1 - (i : Int)).toNat * 32)).take 32 = y.arr.toList by
        rw [show ((n : Int) - 1 - (i : Int)).toNat = l.length - 1 - i by rw [Hl.out]; omega]
        exact hat _ y hy)
      have HP := Lib.hid (show ((digsL l').take ((i : Int).toNat * 32) ++ y.arr.toList ++ (digsL l').drop ((i : Int).toNat * 32 + 32)) = digsL (l'.set i y) from digsL_set l' i y (by rw [HS.out.len, Hl.out]; omega))
      have HQ := Lib.hid (show ((digsL (l'.set i y)).take (((n : Int) - 1 - (i : Int)).toNat * 32) ++ x.arr.toList ++ (digsL (l'.set i y)).drop (((n : Int) - 1 - (i : Int)).toNat * 32 + 32)) = digsL ((l'.set i y).set (l.length - 1 - i) x) by
        rw [Hl.out, show ((n : Int) - 1 - (i : Int)).toNat = n - 1 - i by omega]
        exact digsL_set _ _ x (by rw [List.length_set, HS.out.len, Hl.out]; omega))
      clear hx hy hat
      go_wp2_with (first
        | fail)
      refine wp_region_pn (.one 0 3 (.one 1 3 (.one 2 3 (.one 3 3 (.one 4 3 (.one 5 3 (.one 8 3 (.one 9 3 (.one 6 0 (.one 7 0 (.one 10 2 (.one 11 2 (.one 12 2 (.one 13 1 (.one 14 2 (.one 15 1 .nil)))))))))))))))) (by kernel_rfl) (by kernel_rfl) ?_
      replace hst := hst.drew
      refine pn_p rfl rfl ?_; go_wp2_with fail
      refine pn_p rfl rfl ?_; go_wp2_with fail
      refine pn_p rfl rfl ?_; go_wp2_with fail
      refine pn_p rfl rfl ?_; go_wp2_with fail
      refine pn_p rfl rfl ?_; go_wp2_with fail
      refine pn_p rfl rfl ?_; go_wp2_with fail
      refine pn_p rfl rfl ?_; go_wp2_with fail
      refine pn_p rfl rfl ?_; go_wp2_with fail
      refine pn_q rfl rfl ?_; go_wp2_with (first | (refine L_idxS (d := some 20) rfl rfl rfl (by rfl) (by rfl) Tryd.underlying22 el_api_Digest (by first | assumption | exact hst.sl 0 rfl | exact hst.old (by decide) (by assumption)) (by omega) (by omega) ?_; intro o20 p20 ha20 hr20; (first | subst ha20 | (obtain ⟨h1, h2⟩ := some_addr ha20; subst h1; subst h2; clear ha20) | skip)) | fail)
      refine pn_q rfl rfl ?_; go_wp2_with (first | (refine L_loadM (d := some 21) rfl rfl rfl (by rfl) Tryd.underlying25 rfl el_api_Digest (cs := y.arr) (by rw [← HY.out]; exact hr20) (Dig.size _) ?_) | (first | (refine L_loadA (d := some 21) rfl rfl rfl (by rfl) Tryd.underlying25 rfl el_api_Digest (by first | exact hst.get 0 rfl) (by first | rfl | exact Dig.size _ | (simp; done)) ?_) | (refine L_loadM (d := some 21) rfl rfl rfl (by rfl) Tryd.underlying25 rfl el_api_Digest (by first | assumption) (by first | rfl | exact Dig.size _ | (simp; done)) ?_)) | fail)
      refine pn_g rfl ?_; go_wp2_with (first | (refine L_idxS (d := some 24) rfl rfl rfl (by rfl) (by rfl) Tryd.underlying22 el_api_Digest (by first | assumption | exact hst.sl 0 rfl | exact hst.old (by decide) (by assumption)) (by omega) (by omega) ?_; intro o24 p24 ha24 hr24; (first | subst ha24 | (obtain ⟨h1, h2⟩ := some_addr ha24; subst h1; subst h2; clear ha24) | skip)) | fail); refine ⟨by first | exact Below.refl _ _ | exact hnew.below, ?_⟩
      refine pn_g rfl ?_; go_wp2_with (first | (refine L_loadM (d := some 25) rfl rfl rfl (by rfl) Tryd.underlying25 rfl el_api_Digest (cs := x.arr) (by rw [← HX.out]; exact hr24) (Dig.size _) ?_) | (first | (refine L_loadA (d := some 25) rfl rfl rfl (by rfl) Tryd.underlying25 rfl el_api_Digest (by first | exact hst.get 0 rfl) (by first | rfl | exact Dig.size _ | (simp; done)) ?_) | (refine L_loadM (d := some 25) rfl rfl rfl (by rfl) Tryd.underlying25 rfl el_api_Digest (by first | assumption) (by first | rfl | exact Dig.size _ | (simp; done)) ?_)) | fail); refine ⟨by first | exact Below.refl _ _ | exact hnew.below, ?_⟩
      refine pn_g rfl ?_; go_wp2_with (first | (first | (refine L_idxO (d := some 26) rfl rfl hst rfl (by rfl) (by rfl) Tryd.underlying22 el_api_Digest 0 rfl (by first | rfl | omega) (by omega) (by omega) ?_; intro o26 p26 ha26; (first | subst ha26 | (obtain ⟨h1, h2⟩ := some_addr ha26; subst h1; subst h2; clear ha26) | skip))) | fail); refine ⟨by first | exact Below.refl _ _ | exact hnew.below, ?_⟩
      refine pn_e rfl ?_; go_wp2_with (first | (refine wpl_at (.store 25 (.tmp 26) (.tmp 21)) rfl ?_; first | (refine L_storeRM rfl rfl hst rfl (by rfl) (ev_tmp rfl) (by first | rfl | exact Dig.one _ | (simp; done)) el_api_Digest (by first | rfl | exact Dig.size _ | (simp; done)) 0 rfl (by first | omega | (simp; done) | (simp; omega)) ?_; clear hst; intro WS13 hst; simp only [List.set_cons_zero, List.set_cons_succ, HP.out, HQ.out] at hst)) | fail)
      refine pn_g rfl ?_; go_wp2_with (first | (first | (refine L_idxO (d := some 27) rfl rfl hst rfl (by rfl) (by rfl) Tryd.underlying22 el_api_Digest 0 rfl (by first | rfl | omega) (by omega) (by omega) ?_; intro o27 p27 ha27; (first | subst ha27 | (obtain ⟨h1, h2⟩ := some_addr ha27; subst h1; subst h2; clear ha27) | skip))) | fail); refine ⟨by first | exact Below.refl _ _ | exact hnew.below, ?_⟩
      refine pn_e rfl ?_; go_wp2_with (first | (refine wpl_at (.store 25 (.tmp 27) (.tmp 25)) rfl ?_; first | (refine L_storeRM rfl rfl hst rfl (by rfl) (ev_tmp rfl) (by first | rfl | exact Dig.one _ | (simp; done)) el_api_Digest (by first | rfl | exact Dig.size _ | (simp; done)) 0 rfl (by first | omega | (simp; done) | (simp; omega)) ?_; clear hst; intro WS15 hst; simp only [List.set_cons_zero, List.set_cons_succ, HP.out, HQ.out] at hst)) | fail)
      refine pn_nil ?_
      go_wp2_with fail
      go_roundg (gk - 1)
      case measure => have hi := HI.out; omega
      case rel =>
        have hi := HI.out
        exact ⟨i + 1, _, Lib.hid (by omega), HN, by go_num, by congr 1; omega, by omega, hst⟩
    · have hd := HS.out.done (by rw [Hl.out]; omega)
      rw [hd] at hst
      clear hd hi HI
      go_wp2_with (first
        | fail)
      go_end0
      exact ⟨rfl, hst⟩

end Go.Proofs.YtfpppmamkmaneaaDoor
