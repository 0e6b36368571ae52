/-
  Proved here: the contracts of a tree's path: slices.Reverse at bools, the sides of a leaf's way. Condition: at most 256 leaves.
-/
import Derived.Test.YtfpppmamkmaneaaDoorSwap
import Derived.Test.YtfpppmamkmaneaaDoorTreePlain
import Derived.Test.YtfpppmamkmaneaaDoorLawE
import Derived.Test.YtfpppmamkmaneaaDoorLawF
import Derived.Test.YtfpppmamkmaneaaDoorFork
import Derived.Test.YtfpppmamkmaneaaDoorDrawT
set_option maxRecDepth 20000
set_option linter.unusedSimpArgs false
set_option linter.unusedVariables false
namespace Go.Proofs.YtfpppmamkmaneaaDoor
open Go.RowKit

theorem el_bool : ElemIs Tryd.prog 4 (.bool false) 1 1 := by unfold ElemIs; kernel_rfl

set_option maxHeartbeats 2000000 in
theorem revB_any (l : List Bool) (n c : Nat) (A : Option Addr) (w0 w : World) (L : List Res) (hst : St w0 w (.row A n c 4 1 (boolsL l) :: L)) :
    Calls Tryd.prog 57 #[.slice A n c] w fun e w' => e = .returned (.tuple #[]) ∧ St w0 w' (.row A n c 4 1 (boolsL l.reverse) :: L) := by
  have hl : l.length = n := by have := (hst.sl 0 rfl).1; rw [length_boolsL] at this; omega
  have hcap := (hst.sl 0 rfl).2.1
  have hmax := (hst.sl 0 rfl).2.2.1
  simp only [maxLen] at hmax
  have Hl := Lib.hid hl
  clear hl
  go_enter Tryd.func57, Tryd.ntmps57
  go_wp2_with (first
    | fail)
  go_loopg [2, 3] n (fun gk s2 s3 wr => ∃ (i : Nat) (l' : List Bool), Hid (i + gk = n) ∧ Hid (SwapAt l l' i) ∧ s2 = .int .i64 (i : Int) ∧ s3 = .int .i64 ((n : Int) - 1 - (i : Int)) ∧ 2 * i ≤ n ∧ St w0 wr (.row A n c 4 1 (boolsL l') :: L))
  case atStart => exact ⟨0, l, Lib.hid (by omega), Lib.hid (SwapAt.start l), rfl, by congr 1; omega, by omega, hst⟩
  case round =>
    clear hst
    obtain ⟨i, l', HI, HS, rfl, rfl, h2i, hst⟩ := hrel
    have hi := HI.out
    by_cases hin : (i : Int) < (n : Int) - 1 - (i : Int)
    · clear hi
      obtain ⟨x, hx⟩ : ∃ x, l'[i]? = some x := ⟨l'[i]'(by rw [HS.out.len, Hl.out]; omega), List.getElem?_eq_getElem _⟩
      obtain ⟨y, hy⟩ : ∃ y, l'[l.length - 1 - i]? = some y := ⟨l'[l.length - 1 - i]'(by rw [HS.out.len, Hl.out]; omega), List.getElem?_eq_getElem _⟩
      have HN := Lib.hid (HS.out.step (by rw [Hl.out]; omega) hx hy)
      have hat : ∀ (k : Nat) (z : Bool), l'[k]? = some z → ((boolsL l').drop (k * 1)).take 1 = [.bool z] := fun k z hz => by
        obtain ⟨hk, rfl⟩ := List.getElem?_eq_some_iff.1 hz
        rw [Nat.mul_one, List.drop_eq_getElem_cons (by rw [length_boolsL]; exact hk)]
        simp [boolsL]
      have HX := Lib.hid (show ((boolsL l').drop ((i : Int).toNat * 1)).take 1 = [.bool x] from hat i x hx)
      have HY := Lib.hid (show ((boolsL l').drop (((n : Int) - 1 - (i : Int)).toNat * 1)).take 1 = [.bool y] by
        rw [show ((n : Int) - 1 - (i : Int)).toNat = l.length - 1 - i by rw [Hl.out]; omega]
        exact hat _ y hy)
      have HP := Lib.hid (show (boolsL l').set ((i : Int).toNat * 1) (.bool y) = boolsL (l'.set i y) by rw [Nat.mul_one]; exact boolsL_set l' i y)
      have HQ := Lib.hid (show (boolsL (l'.set i y)).set (((n : Int) - 1 - (i : Int)).toNat * 1) (.bool x) = boolsL ((l'.set i y).set (l.length - 1 - i) x) by
        rw [Hl.out, Nat.mul_one, show ((n : Int) - 1 - (i : Int)).toNat = n - 1 - i by omega]
        exact boolsL_set _ _ x)
      clear hx hy hat
      go_wp2_with (first
        | fail)
      refine wp_region_pn (.one 0 3 (.one 1 3 (.one 2 3 (.one 3 3 (.one 4 3 (.one 5 3 (.one 8 3 (.one 9 3 (.one 6 0 (.one 7 0 (.one 10 2 (.one 11 2 (.one 12 2 (.one 13 1 (.one 14 2 (.one 15 1 .nil)))))))))))))))) (by kernel_rfl) (by kernel_rfl) ?_
      replace hst := hst.drew
      refine pn_p rfl rfl ?_; go_wp2_with fail
      refine pn_p rfl rfl ?_; go_wp2_with fail
      refine pn_p rfl rfl ?_; go_wp2_with fail
      refine pn_p rfl rfl ?_; go_wp2_with fail
      refine pn_p rfl rfl ?_; go_wp2_with fail
      refine pn_p rfl rfl ?_; go_wp2_with fail
      refine pn_p rfl rfl ?_; go_wp2_with fail
      refine pn_p rfl rfl ?_; go_wp2_with fail
      refine pn_q rfl rfl ?_; go_wp2_with (first | (refine L_idxS (d := some 20) rfl rfl rfl (by rfl) (by rfl) Tryd.underlying71 el_bool (by first | assumption | exact hst.sl 0 rfl | exact hst.old (by decide) (by assumption)) (by omega) (by omega) ?_; intro o20 p20 ha20 hr20; (first | subst ha20 | (obtain ⟨h1, h2⟩ := some_addr ha20; subst h1; subst h2; clear ha20) | skip)) | fail)
      refine pn_q rfl rfl ?_; go_wp2_with (first | (refine L_load1 (d := some 21) rfl rfl rfl (by rfl) Tryd.underlying4 rfl (v := .bool y) (hr20 0 (.bool y) (by rw [HY.out]; rfl)) ?_) | (refine L_load1 (d := some 21) rfl rfl rfl (by rfl) Tryd.underlying4 rfl (by first | assumption | exact cell_of (hst.get 0 rfl) rfl) ?_) | fail)
      refine pn_g rfl ?_; go_wp2_with (first | (refine L_idxS (d := some 24) rfl rfl rfl (by rfl) (by rfl) Tryd.underlying71 el_bool (by first | assumption | exact hst.sl 0 rfl | exact hst.old (by decide) (by assumption)) (by omega) (by omega) ?_; intro o24 p24 ha24 hr24; (first | subst ha24 | (obtain ⟨h1, h2⟩ := some_addr ha24; subst h1; subst h2; clear ha24) | skip)) | fail); refine ⟨by first | exact Below.refl _ _ | exact hnew.below, ?_⟩
      refine pn_g rfl ?_; go_wp2_with (first | (refine L_load1 (d := some 25) rfl rfl rfl (by rfl) Tryd.underlying4 rfl (v := .bool x) (hr24 0 (.bool x) (by rw [HX.out]; rfl)) ?_) | (refine L_load1 (d := some 25) rfl rfl rfl (by rfl) Tryd.underlying4 rfl (by first | assumption | exact cell_of (hst.get 0 rfl) rfl) ?_) | fail); refine ⟨by first | exact Below.refl _ _ | exact hnew.below, ?_⟩
      refine pn_g rfl ?_; go_wp2_with (first | (first | (refine L_idxO (d := some 26) rfl rfl hst rfl (by rfl) (by rfl) Tryd.underlying71 el_bool 0 rfl (by first | rfl | omega) (by omega) (by omega) ?_; intro o26 p26 ha26; (first | subst ha26 | (obtain ⟨h1, h2⟩ := some_addr ha26; subst h1; subst h2; clear ha26) | skip))) | fail); refine ⟨by first | exact Below.refl _ _ | exact hnew.below, ?_⟩
      refine pn_e rfl ?_; go_wp2_with (first | (refine wpl_at (.store 4 (.tmp 26) (.tmp 21)) rfl ?_; first | (refine L_storeR rfl rfl hst rfl (by rfl) (ev_tmp rfl) rfl el_bool 0 rfl (by first | omega | (simp; done) | (simp; omega)) ?_; clear hst; intro WS13 hst; simp only [List.set_cons_zero, List.set_cons_succ, HP.out, HQ.out] at hst)) | fail)
      refine pn_g rfl ?_; go_wp2_with (first | (first | (refine L_idxO (d := some 27) rfl rfl hst rfl (by rfl) (by rfl) Tryd.underlying71 el_bool 0 rfl (by first | rfl | omega) (by omega) (by omega) ?_; intro o27 p27 ha27; (first | subst ha27 | (obtain ⟨h1, h2⟩ := some_addr ha27; subst h1; subst h2; clear ha27) | skip))) | fail); refine ⟨by first | exact Below.refl _ _ | exact hnew.below, ?_⟩
      refine pn_e rfl ?_; go_wp2_with (first | (refine wpl_at (.store 4 (.tmp 27) (.tmp 25)) rfl ?_; first | (refine L_storeR rfl rfl hst rfl (by rfl) (ev_tmp rfl) rfl el_bool 0 rfl (by first | omega | (simp; done) | (simp; omega)) ?_; clear hst; intro WS15 hst; simp only [List.set_cons_zero, List.set_cons_succ, HP.out, HQ.out] at hst)) | fail)
      refine pn_nil ?_
      go_wp2_with fail
      go_roundg (gk - 1)
      case measure => have hi := HI.out; omega
      case rel =>
        have hi := HI.out
        exact ⟨i + 1, _, Lib.hid (by omega), HN, by go_num, by congr 1; omega, by omega, hst⟩
    · have hd := HS.out.done (by rw [Hl.out]; omega)
      rw [hd] at hst
      clear hd hi HI
      go_wp2_with (first
        | fail)
      go_end0
      exact ⟨rfl, hst⟩

set_option maxHeartbeats 2000000 in
theorem sides_any (i n : Nat) (hn : n ≤ 256) (hin : i < n) (w : World) : Calls Tryd.prog 56 #[.int .i64 (i : Int), .int .i64 (n : Int)] w fun e w' => ∃ A c, e = .returned (.slice A (longN i n) c) ∧ St w w' [.row A (longN i n) c 4 1 (boolsL (sidesN i n))] := by
  have hst := St.refl w
  go_enter Tryd.func56, Tryd.ntmps56
  go_wp2_with (first
    | fail)
  have hst : St w w [.row none 0 0 4 1 (boolsL [])] := hst.nilRow 4 1
  go_loopg [0, 1, 4] n (fun gk s0 s1 s4 wr => ∃ (i' p : Nat) (lt : List Bool) (O : Option Addr) (oc : Nat), Hid (lt ++ sidesN i' gk = sidesN i n) ∧ Hid (lt.length = p) ∧ i' < gk ∧ p + gk ≤ n ∧ s0 = .int .i64 (i' : Int) ∧ s1 = .int .i64 (gk : Int) ∧ s4 = .slice O p oc ∧ St w wr [.row O p oc 4 1 (boolsL lt)])
  case atStart => exact ⟨i, 0, [], none, 0, Lib.hid rfl, Lib.hid rfl, hin, by omega, rfl, rfl, rfl, hst⟩
  case round =>
    clear hst
    obtain ⟨i', p, lt, O, oc, HS, HL, hi', hp, rfl, rfl, rfl, hst⟩ := hrel
    by_cases h1 : 1 < gk
    · have hlt := halfN_lt gk (by omega)
      have hps := halfN_pos gk
      have HF := Lib.hid (fun w => half_any gk (by omega) (by omega) w)
      by_cases hk : i' < halfN gk
      · have HN := Lib.hid (show (lt ++ [true]) ++ sidesN i' (halfN gk) = sidesN i n by
          rw [← HS.out, sidesN_left (by omega) hk, List.append_assoc]
          rfl)
        have HB := Lib.hid (show boolsL lt ++ [.bool true] = boolsL (lt ++ [true]) by rw [boolsL_append]; rfl)
        generalize halfN gk = k at *
        go_wp2_with (first
          | (go_at_call 53; (try clear hnew); refine (HF.out _).mono ?_; rintro e Wk1 ⟨rfl, hnew⟩; replace hst := hst.keep hnew)
          | (refine L_buildS (d := some 14) rfl rfl rfl [_] (bs_1 (ev_tmp rfl)) rfl Tryd.underlying71 el_bool rfl (by first | (simp [Value.cells]; done) | (simp [Value.cells, Dig.size]; done)) (by decide) (by decide) ?_; (try clear hnew); intro g14 W14 hnew; replace hst := hst.trans hnew; simp only [List.cons_append, List.nil_append] at hst; simp only [List.flatMap_cons, List.flatMap_nil, List.append_nil, Value.cells, List.toList_toArray] at hst)
          | (refine L_appendO (d := some 15) rfl rfl hst rfl (by rfl) (by rfl) Tryd.underlying71 el_bool rfl (by decide) (by decide) 0 rfl (by first | rfl | omega) (by first | exact hst.sl 0 rfl | exact hst.sl 1 rfl | assumption | exact hst.old (by decide) (by assumption)) (by first | exact oneCell_bytes | (simp [Value.oneCell']; done)) (by omega) ?_; clear hst; intro A15 c15 W15 hst; simp only [List.set_cons_zero, List.set_cons_succ, List.nil_append, Nat.zero_add] at hst)
          | (refine L_appendO (d := some 15) rfl rfl hst rfl (by rfl) (by rfl) Tryd.underlying71 el_bool rfl (by decide) (by decide) 1 rfl (by first | rfl | omega) (by first | exact hst.sl 0 rfl | exact hst.sl 1 rfl | assumption | exact hst.old (by decide) (by assumption)) (by first | exact oneCell_bytes | (simp [Value.oneCell']; done)) (by omega) ?_; clear hst; intro A15 c15 W15 hst; simp only [List.set_cons_zero, List.set_cons_succ, List.nil_append, Nat.zero_add] at hst)
          | (refine L_appendF (d := some 15) rfl rfl rfl (by rfl) (by rfl) Tryd.underlying71 el_bool rfl (by decide) (by assumption) (by first | assumption | exact hst.sl 0 rfl | exact hst.sl 1 rfl | assumption | exact hst.old (by decide) (by assumption)) (by omega) (by omega) (by omega) ?_; (try clear hnew); intro A15 c15 W15 hnew; replace hst := hst.trans hnew; simp only [List.cons_append, List.nil_append] at hst)
          | fail)
        go_roundg k
        case measure => exact hlt
        case rel =>
          refine ⟨i', p + 1, lt ++ [true], A15, c15, HN, Lib.hid (by rw [List.length_append, HL.out]; rfl), hk, by omega, rfl, rfl, rfl, ?_⟩
          rw [← HB.out]
          exact hst.pick [1] (by decide)
      · have HN := Lib.hid (show (lt ++ [false]) ++ sidesN (i' - halfN gk) (gk - halfN gk) = sidesN i n by
          rw [← HS.out, sidesN_right (by omega) hk, List.append_assoc]
          rfl)
        have HB := Lib.hid (show boolsL lt ++ [.bool false] = boolsL (lt ++ [false]) by rw [boolsL_append]; rfl)
        generalize halfN gk = k at *
        go_wp2_with (first
          | (go_at_call 53; (try clear hnew); refine (HF.out _).mono ?_; rintro e Wk2 ⟨rfl, hnew⟩; replace hst := hst.keep hnew)
          | (refine L_buildS (d := some 14) rfl rfl rfl [_] (bs_1 (ev_tmp rfl)) rfl Tryd.underlying71 el_bool rfl (by first | (simp [Value.cells]; done) | (simp [Value.cells, Dig.size]; done)) (by decide) (by decide) ?_; (try clear hnew); intro g14 W14 hnew; replace hst := hst.trans hnew; simp only [List.cons_append, List.nil_append] at hst; simp only [List.flatMap_cons, List.flatMap_nil, List.append_nil, Value.cells, List.toList_toArray] at hst)
          | (refine L_appendO (d := some 15) rfl rfl hst rfl (by rfl) (by rfl) Tryd.underlying71 el_bool rfl (by decide) (by decide) 0 rfl (by first | rfl | omega) (by first | exact hst.sl 0 rfl | exact hst.sl 1 rfl | assumption | exact hst.old (by decide) (by assumption)) (by first | exact oneCell_bytes | (simp [Value.oneCell']; done)) (by omega) ?_; clear hst; intro A15 c15 W15 hst; simp only [List.set_cons_zero, List.set_cons_succ, List.nil_append, Nat.zero_add] at hst)
          | (refine L_appendO (d := some 15) rfl rfl hst rfl (by rfl) (by rfl) Tryd.underlying71 el_bool rfl (by decide) (by decide) 1 rfl (by first | rfl | omega) (by first | exact hst.sl 0 rfl | exact hst.sl 1 rfl | assumption | exact hst.old (by decide) (by assumption)) (by first | exact oneCell_bytes | (simp [Value.oneCell']; done)) (by omega) ?_; clear hst; intro A15 c15 W15 hst; simp only [List.set_cons_zero, List.set_cons_succ, List.nil_append, Nat.zero_add] at hst)
          | (refine L_appendF (d := some 15) rfl rfl rfl (by rfl) (by rfl) Tryd.underlying71 el_bool rfl (by decide) (by assumption) (by first | assumption | exact hst.sl 0 rfl | exact hst.sl 1 rfl | assumption | exact hst.old (by decide) (by assumption)) (by omega) (by omega) (by omega) ?_; (try clear hnew); intro A15 c15 W15 hnew; replace hst := hst.trans hnew; simp only [List.cons_append, List.nil_append] at hst)
          | fail)
        go_roundg (gk - k)
        case measure => omega
        case rel =>
          refine ⟨i' - k, p + 1, lt ++ [false], A15, c15, HN, Lib.hid (by rw [List.length_append, HL.out]; rfl), by omega, by omega, by congr 1; omega, by congr 1; omega, rfl, ?_⟩
          rw [← HB.out]
          exact hst.pick [1] (by decide)
    · have HN := Lib.hid (show lt = sidesN i n by rw [← HS.out, sidesN_one i' (by omega), List.append_nil])
      have hp' : p = longN i n := by rw [← length_sidesN, ← HN.out, HL.out]
      rw [hp', HN.out] at hst
      rw [hp']
      clear hp HS HL hp'
      go_wp2_with (first
        | fail)
      go_ret
      exact ⟨_, _, rfl, hst⟩
end Go.Proofs.YtfpppmamkmaneaaDoor
