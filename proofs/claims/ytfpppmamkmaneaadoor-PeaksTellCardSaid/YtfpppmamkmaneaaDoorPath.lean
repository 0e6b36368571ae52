/-
  Proved here: the contracts of tree.Path and tree.Fold. Condition: the table of round constants stands.
-/
import Derived.Test.YtfpppmamkmaneaaDoorSides
import Derived.Test.YtfpppmamkmaneaaDoorRevD
set_option maxRecDepth 20000
set_option linter.unusedSimpArgs false
set_option linter.unusedVariables false
namespace Go.Proofs.YtfpppmamkmaneaaDoor
open Go.RowKit

theorem dig_oneL (d : Dig) : ∀ u ∈ d.arr.toList, u.oneCell' = true := by
  rw [Dig.toList]
  exact oneCell_bytes

set_option maxHeartbeats 4000000 in
theorem tPath_any (ls : List Dig) (A : Option Addr) (n c i : Nat) (w : World) (hT : Tb w) (hx : SlR w A n c 32 (digsL ls)) (hn : n ≤ 256) (hin : i < n) :
    Calls Tryd.prog 17 #[.slice A n c, .int .i64 (i : Int)] w fun e w' => ∃ O oc, e = .returned (.tuple #[.slice O (longN i n) oc, .nilIface]) ∧ St w w' [.row O (longN i n) oc 25 32 (digsL (pathN ls i))] := by
  have hst := St.refl w
  have HT := Lib.hid hT
  have hl : ls.length = n := by have := hx.1; rw [length_digsL] at this; omega
  have Hl := Lib.hid hl
  have h1 : ¬ (256 : Int) < (n : Int) := by omega
  have h2 : ¬ (i : Int) < 0 := by omega
  have h3 : ¬ (n : Int) ≤ (i : Int) := by omega
  clear hT hl
  go_enter Tryd.func17, Tryd.ntmps17
  go_wp2_with (first
    | fail)
  have hst : St w w [.row none 0 0 25 32 (digsL [])] := hst.nilRow 25 32
  clear h1 h2 h3
  go_loopg [0, 1, 6] n (fun gk s0 s1 s6 wr => ∃ (i' p : Nat) (cur out : List Dig) (B O : Option Addr) (d oc : Nat), Hid (out ++ (pathN cur i').reverse = (pathN ls i).reverse) ∧ Hid (out.length = p) ∧ Hid (cur.length = gk) ∧ i' < gk ∧ p + gk ≤ n ∧ s0 = .slice B gk d ∧ s1 = .int .i64 (i' : Int) ∧ s6 = .slice O p oc ∧ SlR w B gk d 32 (digsL cur) ∧ St w wr [.row O p oc 25 32 (digsL out)])
  case atStart => exact ⟨i, 0, ls, [], A, none, c, 0, Lib.hid rfl, Lib.hid rfl, Hl, hin, by omega, rfl, rfl, rfl, hx, hst⟩
  case round =>
    clear hst
    obtain ⟨i', p, cur, out, B, O, d, oc, HS, HO, HC, hi', hp, rfl, rfl, rfl, hcur, hst⟩ := hrel
    have hcap := hcur.2.1
    by_cases h1 : 1 < gk
    · have hlt := halfN_lt gk (by omega)
      have hps := halfN_pos gk
      have HF := Lib.hid (fun w => half_any gk (by omega) (by omega) w)
      have H1 := Lib.hid (show ((digsL cur).drop (0 * 32)).take ((halfN gk - 0) * 32) = digsL (cur.take (halfN gk)) by rw [digsL_cut]; rfl)
      have H2 := Lib.hid (show ((digsL cur).drop (halfN gk * 32)).take ((gk - halfN gk) * 32) = digsL (cur.drop (halfN gk)) by rw [digsL_cut, List.take_of_length_le (by rw [List.length_drop, HC.out]; omega)])
      by_cases hk : i' < halfN gk
      · have HN := Lib.hid (show (out ++ [rootN (cur.drop (halfN gk))]) ++ (pathN (cur.take (halfN gk)) i').reverse = (pathN ls i).reverse by
          rw [← HS.out, pathN_left (ls := cur) (by rw [HC.out]; omega) (by rw [HC.out]; exact hk), List.reverse_append, HC.out, List.append_assoc]
          rfl)
        have HB := Lib.hid (show digsL out ++ (rootN (cur.drop (halfN gk))).arr.toList = digsL (out ++ [rootN (cur.drop (halfN gk))]) by rw [digsL_append, digsL_single, Dig.toList])
        have HL := Lib.hid (show (cur.take (halfN gk)).length = halfN gk by rw [List.length_take, HC.out]; omega)
        generalize halfN gk = k at *
        go_wp2_with (first
          | (go_at_call 53; (try clear hnew); refine (HF.out _).mono ?_; rintro e Wk1 ⟨rfl, hnew⟩; replace hst := hst.keep hnew)
          | (go_at_call 52; (try clear hnew); refine (root_any (gk - k) (cur.drop k) A33 c33 _ (HT.out.of hst) (by rw [← H2.out]; exact hst.old (by decide) hs33) (by omega)).mono ?_; rintro e Wk2 ⟨rfl, hnew⟩; replace hst := hst.keep hnew)
          | (first | (refine L_cutV (d := some 33) rfl rfl rfl (by rfl) Tryd.underlying22 el_api_Digest (by decide) hcur k gk _ (Or.inr ⟨_, _, rfl, by first | exact ev_tmp rfl | (rw [ev_tmp rfl]; congr 1; omega)⟩) (Or.inl ⟨rfl, rfl, rfl⟩) (Or.inl ⟨rfl, rfl⟩) (by omega) (by omega) (by omega) (by omega) ?_; intro A33 c33 hs33) | (refine L_cutO (d := some 33) rfl rfl hst rfl (by rfl) Tryd.underlying22 el_api_Digest 0 rfl (by first | rfl | omega) k gk _ (Or.inr ⟨_, _, rfl, by first | exact ev_tmp rfl | (rw [ev_tmp rfl]; congr 1; omega)⟩) (Or.inl ⟨rfl, rfl, rfl⟩) (Or.inl ⟨rfl, rfl⟩) (by omega) (by omega) (by omega) (by omega) ?_; clear hst; intro A33 c33 hst; simp only [List.set_cons_zero, List.set_cons_succ] at hst) | (refine L_cutO (d := some 33) rfl rfl hst rfl (by rfl) Tryd.underlying22 el_api_Digest 1 rfl (by first | rfl | omega) k gk _ (Or.inr ⟨_, _, rfl, by first | exact ev_tmp rfl | (rw [ev_tmp rfl]; congr 1; omega)⟩) (Or.inl ⟨rfl, rfl, rfl⟩) (Or.inl ⟨rfl, rfl⟩) (by omega) (by omega) (by omega) (by omega) ?_; clear hst; intro A33 c33 hst; simp only [List.set_cons_zero, List.set_cons_succ] at hst) | (refine L_cutS (d := some 33) rfl rfl rfl (by rfl) Tryd.underlying22 el_api_Digest (by decide) (by first | assumption | exact hst.old (by decide) (by assumption) | exact hst.sl 0 rfl | exact hst.sl 1 rfl) k gk _ (Or.inr ⟨_, _, rfl, by first | exact ev_tmp rfl | (rw [ev_tmp rfl]; congr 1; omega)⟩) (Or.inl ⟨rfl, rfl, rfl⟩) (Or.inl ⟨rfl, rfl⟩) (by omega) (by omega) (by omega) (by omega) ?_; intro A33 c33 hs33))
          | (refine L_buildS (d := some 35) rfl rfl rfl [_] (bs_1 (ev_tmp rfl)) rfl Tryd.underlying22 el_api_Digest rfl (by first | (simp [Value.cells]; done) | (simp [Value.cells, Dig.size]; done)) (by decide) (by decide) ?_; (try clear hnew); intro g35 W35 hnew; replace hst := hst.trans hnew; simp only [List.cons_append, List.nil_append] at hst; simp only [List.flatMap_cons, List.flatMap_nil, List.append_nil, Value.cells, List.toList_toArray] at hst)
          | (refine L_appendO (d := some 36) rfl rfl hst rfl (by rfl) (by rfl) Tryd.underlying22 el_api_Digest rfl (by decide) (by decide) 0 rfl (by first | rfl | omega) (by first | exact hst.sl 0 rfl | exact hst.sl 1 rfl | assumption | exact hst.old (by decide) (by assumption)) (by first | exact oneCell_bytes | (simp [Value.oneCell']; done) | exact Dig.oneL _ | exact dig_oneL _) (by omega) ?_; clear hst; intro A36 c36 W36 hst; simp only [List.set_cons_zero, List.set_cons_succ, List.nil_append, Nat.zero_add] at hst)
          | (refine L_appendO (d := some 36) rfl rfl hst rfl (by rfl) (by rfl) Tryd.underlying22 el_api_Digest rfl (by decide) (by decide) 1 rfl (by first | rfl | omega) (by first | exact hst.sl 0 rfl | exact hst.sl 1 rfl | assumption | exact hst.old (by decide) (by assumption)) (by first | exact oneCell_bytes | (simp [Value.oneCell']; done) | exact Dig.oneL _ | exact dig_oneL _) (by omega) ?_; clear hst; intro A36 c36 W36 hst; simp only [List.set_cons_zero, List.set_cons_succ, List.nil_append, Nat.zero_add] at hst)
          | (refine L_appendF (d := some 36) rfl rfl rfl (by rfl) (by rfl) Tryd.underlying22 el_api_Digest rfl (by decide) (by assumption) (by first | assumption | exact hst.sl 0 rfl | exact hst.sl 1 rfl | assumption | exact hst.old (by decide) (by assumption)) (by omega) (by omega) (by omega) ?_; (try clear hnew); intro A36 c36 W36 hnew; replace hst := hst.trans hnew; simp only [List.cons_append, List.nil_append] at hst)
          | (first | (refine L_cutV (d := some 39) rfl rfl rfl (by rfl) Tryd.underlying22 el_api_Digest (by decide) hcur 0 k _ (Or.inl ⟨rfl, rfl⟩) (Or.inr ⟨_, _, rfl, by first | exact ev_tmp rfl | (rw [ev_tmp rfl]; congr 1; omega)⟩) (Or.inl ⟨rfl, rfl⟩) (by omega) (by omega) (by omega) (by omega) ?_; intro A39 c39 hs39) | (refine L_cutO (d := some 39) rfl rfl hst rfl (by rfl) Tryd.underlying22 el_api_Digest 0 rfl (by first | rfl | omega) 0 k _ (Or.inl ⟨rfl, rfl⟩) (Or.inr ⟨_, _, rfl, by first | exact ev_tmp rfl | (rw [ev_tmp rfl]; congr 1; omega)⟩) (Or.inl ⟨rfl, rfl⟩) (by omega) (by omega) (by omega) (by omega) ?_; clear hst; intro A39 c39 hst; simp only [List.set_cons_zero, List.set_cons_succ] at hst) | (refine L_cutO (d := some 39) rfl rfl hst rfl (by rfl) Tryd.underlying22 el_api_Digest 1 rfl (by first | rfl | omega) 0 k _ (Or.inl ⟨rfl, rfl⟩) (Or.inr ⟨_, _, rfl, by first | exact ev_tmp rfl | (rw [ev_tmp rfl]; congr 1; omega)⟩) (Or.inl ⟨rfl, rfl⟩) (by omega) (by omega) (by omega) (by omega) ?_; clear hst; intro A39 c39 hst; simp only [List.set_cons_zero, List.set_cons_succ] at hst) | (refine L_cutS (d := some 39) rfl rfl rfl (by rfl) Tryd.underlying22 el_api_Digest (by decide) (by first | assumption | exact hst.old (by decide) (by assumption) | exact hst.sl 0 rfl | exact hst.sl 1 rfl) 0 k _ (Or.inl ⟨rfl, rfl⟩) (Or.inr ⟨_, _, rfl, by first | exact ev_tmp rfl | (rw [ev_tmp rfl]; congr 1; omega)⟩) (Or.inl ⟨rfl, rfl⟩) (by omega) (by omega) (by omega) (by omega) ?_; intro A39 c39 hs39))
          | fail)
        go_roundg k
        case measure => exact hlt
        case rel =>
          refine ⟨i', p + 1, cur.take k, out ++ [rootN (cur.drop k)], A39, A36, c39, c36, HN, Lib.hid (by rw [List.length_append, HO.out]; rfl), HL, hk, by omega, rfl, rfl, rfl, by rw [← H1.out]; exact hs39, ?_⟩
          rw [← HB.out]
          exact hst.pick [1] (by decide)
      · have HN := Lib.hid (show (out ++ [rootN (cur.take (halfN gk))]) ++ (pathN (cur.drop (halfN gk)) (i' - halfN gk)).reverse = (pathN ls i).reverse by
          rw [← HS.out, pathN_right (ls := cur) (by rw [HC.out]; omega) (by rw [HC.out]; exact hk), List.reverse_append, HC.out, List.append_assoc]
          rfl)
        have HB := Lib.hid (show digsL out ++ (rootN (cur.take (halfN gk))).arr.toList = digsL (out ++ [rootN (cur.take (halfN gk))]) by rw [digsL_append, digsL_single, Dig.toList])
        have HL := Lib.hid (show (cur.drop (halfN gk)).length = gk - halfN gk by rw [List.length_drop, HC.out])
        generalize halfN gk = k at *
        go_wp2_with (first
          | (go_at_call 53; (try clear hnew); refine (HF.out _).mono ?_; rintro e Wk3 ⟨rfl, hnew⟩; replace hst := hst.keep hnew)
          | (go_at_call 52; (try clear hnew); refine (root_any k (cur.take k) A43 c43 _ (HT.out.of hst) (by rw [← H1.out]; exact hst.old (by decide) hs43) (by omega)).mono ?_; rintro e Wk4 ⟨rfl, hnew⟩; replace hst := hst.keep hnew)
          | (first | (refine L_cutV (d := some 43) rfl rfl rfl (by rfl) Tryd.underlying22 el_api_Digest (by decide) hcur 0 k _ (Or.inl ⟨rfl, rfl⟩) (Or.inr ⟨_, _, rfl, by first | exact ev_tmp rfl | (rw [ev_tmp rfl]; congr 1; omega)⟩) (Or.inl ⟨rfl, rfl⟩) (by omega) (by omega) (by omega) (by omega) ?_; intro A43 c43 hs43) | (refine L_cutO (d := some 43) rfl rfl hst rfl (by rfl) Tryd.underlying22 el_api_Digest 0 rfl (by first | rfl | omega) 0 k _ (Or.inl ⟨rfl, rfl⟩) (Or.inr ⟨_, _, rfl, by first | exact ev_tmp rfl | (rw [ev_tmp rfl]; congr 1; omega)⟩) (Or.inl ⟨rfl, rfl⟩) (by omega) (by omega) (by omega) (by omega) ?_; clear hst; intro A43 c43 hst; simp only [List.set_cons_zero, List.set_cons_succ] at hst) | (refine L_cutO (d := some 43) rfl rfl hst rfl (by rfl) Tryd.underlying22 el_api_Digest 1 rfl (by first | rfl | omega) 0 k _ (Or.inl ⟨rfl, rfl⟩) (Or.inr ⟨_, _, rfl, by first | exact ev_tmp rfl | (rw [ev_tmp rfl]; congr 1; omega)⟩) (Or.inl ⟨rfl, rfl⟩) (by omega) (by omega) (by omega) (by omega) ?_; clear hst; intro A43 c43 hst; simp only [List.set_cons_zero, List.set_cons_succ] at hst) | (refine L_cutS (d := some 43) rfl rfl rfl (by rfl) Tryd.underlying22 el_api_Digest (by decide) (by first | assumption | exact hst.old (by decide) (by assumption) | exact hst.sl 0 rfl | exact hst.sl 1 rfl) 0 k _ (Or.inl ⟨rfl, rfl⟩) (Or.inr ⟨_, _, rfl, by first | exact ev_tmp rfl | (rw [ev_tmp rfl]; congr 1; omega)⟩) (Or.inl ⟨rfl, rfl⟩) (by omega) (by omega) (by omega) (by omega) ?_; intro A43 c43 hs43))
          | (refine L_buildS (d := some 45) rfl rfl rfl [_] (bs_1 (ev_tmp rfl)) rfl Tryd.underlying22 el_api_Digest rfl (by first | (simp [Value.cells]; done) | (simp [Value.cells, Dig.size]; done)) (by decide) (by decide) ?_; (try clear hnew); intro g45 W45 hnew; replace hst := hst.trans hnew; simp only [List.cons_append, List.nil_append] at hst; simp only [List.flatMap_cons, List.flatMap_nil, List.append_nil, Value.cells, List.toList_toArray] at hst)
          | (refine L_appendO (d := some 46) rfl rfl hst rfl (by rfl) (by rfl) Tryd.underlying22 el_api_Digest rfl (by decide) (by decide) 0 rfl (by first | rfl | omega) (by first | exact hst.sl 0 rfl | exact hst.sl 1 rfl | assumption | exact hst.old (by decide) (by assumption)) (by first | exact oneCell_bytes | (simp [Value.oneCell']; done) | exact dig_oneL _) (by omega) ?_; clear hst; intro A46 c46 W46 hst; simp only [List.set_cons_zero, List.set_cons_succ, List.nil_append, Nat.zero_add] at hst)
          | (refine L_appendO (d := some 46) rfl rfl hst rfl (by rfl) (by rfl) Tryd.underlying22 el_api_Digest rfl (by decide) (by decide) 1 rfl (by first | rfl | omega) (by first | exact hst.sl 0 rfl | exact hst.sl 1 rfl | assumption | exact hst.old (by decide) (by assumption)) (by first | exact oneCell_bytes | (simp [Value.oneCell']; done) | exact dig_oneL _) (by omega) ?_; clear hst; intro A46 c46 W46 hst; simp only [List.set_cons_zero, List.set_cons_succ, List.nil_append, Nat.zero_add] at hst)
          | (refine L_appendF (d := some 46) rfl rfl rfl (by rfl) (by rfl) Tryd.underlying22 el_api_Digest rfl (by decide) (by assumption) (by first | assumption | exact hst.sl 0 rfl | exact hst.sl 1 rfl | assumption | exact hst.old (by decide) (by assumption)) (by omega) (by omega) (by omega) ?_; (try clear hnew); intro A46 c46 W46 hnew; replace hst := hst.trans hnew; simp only [List.cons_append, List.nil_append] at hst)
          | (first | (refine L_cutV (d := some 49) rfl rfl rfl (by rfl) Tryd.underlying22 el_api_Digest (by decide) hcur k gk _ (Or.inr ⟨_, _, rfl, by first | exact ev_tmp rfl | (rw [ev_tmp rfl]; congr 1; omega)⟩) (Or.inl ⟨rfl, rfl, rfl⟩) (Or.inl ⟨rfl, rfl⟩) (by omega) (by omega) (by omega) (by omega) ?_; intro A49 c49 hs49) | (refine L_cutO (d := some 49) rfl rfl hst rfl (by rfl) Tryd.underlying22 el_api_Digest 0 rfl (by first | rfl | omega) k gk _ (Or.inr ⟨_, _, rfl, by first | exact ev_tmp rfl | (rw [ev_tmp rfl]; congr 1; omega)⟩) (Or.inl ⟨rfl, rfl, rfl⟩) (Or.inl ⟨rfl, rfl⟩) (by omega) (by omega) (by omega) (by omega) ?_; clear hst; intro A49 c49 hst; simp only [List.set_cons_zero, List.set_cons_succ] at hst) | (refine L_cutO (d := some 49) rfl rfl hst rfl (by rfl) Tryd.underlying22 el_api_Digest 1 rfl (by first | rfl | omega) k gk _ (Or.inr ⟨_, _, rfl, by first | exact ev_tmp rfl | (rw [ev_tmp rfl]; congr 1; omega)⟩) (Or.inl ⟨rfl, rfl, rfl⟩) (Or.inl ⟨rfl, rfl⟩) (by omega) (by omega) (by omega) (by omega) ?_; clear hst; intro A49 c49 hst; simp only [List.set_cons_zero, List.set_cons_succ] at hst) | (refine L_cutS (d := some 49) rfl rfl rfl (by rfl) Tryd.underlying22 el_api_Digest (by decide) (by first | assumption | exact hst.old (by decide) (by assumption) | exact hst.sl 0 rfl | exact hst.sl 1 rfl) k gk _ (Or.inr ⟨_, _, rfl, by first | exact ev_tmp rfl | (rw [ev_tmp rfl]; congr 1; omega)⟩) (Or.inl ⟨rfl, rfl, rfl⟩) (Or.inl ⟨rfl, rfl⟩) (by omega) (by omega) (by omega) (by omega) ?_; intro A49 c49 hs49))
          | fail)
        go_roundg (gk - k)
        case measure => omega
        case rel =>
          refine ⟨i' - k, p + 1, cur.drop k, out ++ [rootN (cur.take k)], A49, A46, c49, c46, HN, Lib.hid (by rw [List.length_append, HO.out]; rfl), HL, by omega, by omega, rfl, by congr 1; omega, rfl, by rw [← H2.out]; exact hs49, ?_⟩
          rw [← HB.out]
          exact hst.pick [1] (by decide)
    · have HN := Lib.hid (show out.reverse = pathN ls i by
        have := HS.out
        rw [pathN_one i' (by rw [HC.out]; omega), List.reverse_nil, List.append_nil] at this
        rw [this, List.reverse_reverse])
      have hp' : p = longN i n := by rw [← HO.out, ← length_pathN n ls i Hl.out, ← HN.out, List.length_reverse]
      rw [hp'] at hst
      rw [hp']
      clear hp HS HO hp'
      go_wp2_with (first
        | (go_at_call 54; refine (revD_any out _ _ _ w _ [] hst).mono ?_; rintro e Wr ⟨rfl, hst'⟩; clear hst; have hst := hst'; clear hst'; rw [HN.out] at hst)
        | fail)
      exact bp_two rfl rfl rfl rfl ⟨_, _, rfl, hst⟩
theorem tPath_full (A : Option Addr) (n c : Nat) (i : Int) (w : World) (hn : 256 < n) :
    Calls Tryd.prog 17 #[.slice A n c, .int .i64 i] w fun e w' => e = .returned (.tuple #[.slice none 0 0, errV 4]) ∧ St w w' [] := by
  have hst := St.refl w
  have h1 : (256 : Int) < (n : Int) := by omega
  go_enter Tryd.func17, Tryd.ntmps17
  go_wp2_with (first
    | fail)
  exact bp_two rfl rfl rfl rfl ⟨rfl, hst⟩
theorem tPath_range (A : Option Addr) (n c : Nat) (i : Int) (w : World) (hn : n ≤ 256) (hi : i < 0 ∨ (n : Int) ≤ i) :
    Calls Tryd.prog 17 #[.slice A n c, .int .i64 i] w fun e w' => e = .returned (.tuple #[.slice none 0 0, errV 2]) ∧ St w w' [] := by
  have hst := St.refl w
  have h1 : ¬ (256 : Int) < (n : Int) := by omega
  by_cases h2 : i < 0
  · go_enter Tryd.func17, Tryd.ntmps17
    go_wp2_with (first
      | fail)
    exact bp_two rfl rfl rfl rfl ⟨rfl, hst⟩
  · have h3 : (n : Int) ≤ i := by omega
    go_enter Tryd.func17, Tryd.ntmps17
    go_wp2_with (first
      | fail)
    exact bp_two rfl rfl rfl rfl ⟨rfl, hst⟩

theorem foldN_step (l : Dig) (zs : List (Dig × Bool)) (j : Nat) (hj : j < zs.length) : foldN l (zs.take (j + 1)) = if (zs[j]).2 then nodeN (foldN l (zs.take j)) (zs[j]).1 else nodeN (zs[j]).1 (foldN l (zs.take j)) := by
  rw [List.take_succ_eq_append_getElem hj, foldN_append]
  rfl

set_option maxHeartbeats 4000000 in
theorem tFold_any (l : Dig) (path : List Dig) (A : Option Addr) (m c i n : Nat) (w : World) (hT : Tb w) (hx : SlR w A m c 32 (digsL path)) (hn : n ≤ 256) (hin : i < n) (hm : m = longN i n) :
    Calls Tryd.prog 20 #[l.v, .int .i64 (i : Int), .int .i64 (n : Int), .slice A m c] w fun e w' => e = .returned (.tuple #[(foldedN l i n path).v, .nilIface]) ∧ St w w' [] := by
  have hst := St.refl w
  have HT := Lib.hid hT
  have hl : path.length = m := by have := hx.1; rw [length_digsL] at this; omega
  have hmax := hx.2.2.1
  have hcap := hx.2.1
  simp only [maxLen] at hmax
  have hsl : (sidesN i n).reverse.length = m := by rw [List.length_reverse, length_sidesN, hm]
  have HSd := Lib.hid (sides_any i n hn hin)
  have HM := Lib.hid hm
  have h1 : ¬ (n : Int) < 1 := by omega
  have h2 : ¬ (256 : Int) < (n : Int) := by omega
  have h3 : ¬ (i : Int) < 0 := by omega
  have h4 : ¬ (n : Int) ≤ (i : Int) := by omega
  clear hT
  go_enter Tryd.func20, Tryd.ntmps20
  rw [← HM.out] at HSd
  have HZ := Lib.hid (show foldN l ((path.zip (sidesN i n).reverse).take m) = foldedN l i n path by
    rw [List.take_of_length_le (by rw [List.length_zip]; omega)]
    rfl)
  have HA := Lib.hid (fun j (hj : j < m) => show ∃ (p : Dig) (b : Bool), ((digsL path).drop (j * 32)).take 32 = p.arr.toList ∧ ((boolsL (sidesN i n).reverse).drop (j * 1)).take 1 = [.bool b] ∧
      foldN l ((path.zip (sidesN i n).reverse).take (j + 1)) = if b then nodeN (foldN l ((path.zip (sidesN i n).reverse).take j)) p else nodeN p (foldN l ((path.zip (sidesN i n).reverse).take j)) by
    refine ⟨path[j]'(by omega), (sidesN i n).reverse[j]'(by omega), by rw [digsL_at path j (by omega), Dig.toList], ?_, ?_⟩
    · rw [Nat.mul_one, List.drop_eq_getElem_cons (by rw [length_boolsL]; omega)]
      simp [boolsL]
    · rw [foldN_step _ _ j (by rw [List.length_zip]; omega), List.getElem_zip])
  clear hm hl hsl
  go_wp2_with (first
    | (go_at_call 56; (try clear hnew); refine (HSd.out _).mono ?_; rintro e Wk5 ⟨A32, c32, rfl, hnew⟩; replace hst := hst.trans hnew; simp only [List.cons_append, List.nil_append] at hst)
    | (go_at_call 57; (try clear hnew); refine (revB_any (sidesN i n) _ _ _ w _ _ hst).mono ?_; rintro e Wr ⟨rfl, hst'⟩; clear hst; have hst := hst'; clear hst')
    | (refine L_boxA (d := some 4) rfl rfl rfl (ev_tmp rfl) ?_; (try clear hnew); intro g4 W4 hnew; replace hst := hst.trans hnew; simp only [List.cons_append, List.nil_append] at hst)
    | (refine L_allocA (d := some 8) rfl rfl rfl el_api_Digest ?_; (try clear hnew); intro g8 W8 hnew; replace hst := hst.trans hnew; simp only [List.cons_append, List.nil_append] at hst)
    | fail)
  clear h1 h2 h3 h4
  have h0 : foldN l ((path.zip (sidesN i n).reverse).take 0) = l := rfl
  generalize boolsL (sidesN i n).reverse = lb at *
  generalize path.zip (sidesN i n).reverse = zs at *
  rw [← h0] at hst
  clear h0
  go_loopg [44] m (fun gk s44 wr => ∃ j : Nat, Hid (j + gk = m) ∧ s44 = .int .i64 (j : Int) ∧ St w wr [.row A32 m c32 4 1 lb, .blk g8 25 zeroD.arr, .blk g4 25 (foldN l (zs.take j)).arr])
  case atStart => exact ⟨0, Lib.hid (by omega), rfl, hst⟩
  case round =>
    clear hst
    obtain ⟨j, HI, rfl, hst⟩ := hrel
    have hi := HI.out
    by_cases hjm : j < m
    · clear hi
      obtain ⟨p, b, hp, hb, hs⟩ := HA.out j hjm
      have HP := Lib.hid hp
      have HB := Lib.hid (show (lb.drop ((j : Int).toNat * 1)).take 1 = [.bool b] from hb)
      have HS := Lib.hid hs
      clear hp hb hs
      generalize foldN l (zs.take j) = u at *
      cases b
      ·
        go_wp2_with (first
          | (refine L_loadM (d := some 48) rfl rfl rfl (by rfl) Tryd.underlying25 rfl el_api_Digest (cs := p.arr) (by rw [← HP.out]; exact hr47) (Dig.size _) ?_)
          | (refine L_load1 (d := some 52) rfl rfl rfl (by rfl) Tryd.underlying4 rfl (v := .bool false) (hr51 0 (.bool false) (by rw [HB.out]; rfl)) ?_)
          | (go_at_call 35; (try clear hnew); with_reducible refine (node_any _ _ _ (HT.out.of hst)).mono ?_; rintro e Wk6 ⟨rfl, hnew⟩; replace hst := hst.keep hnew)
          | (refine L_idxS (d := some 47) rfl rfl rfl (by rfl) (by rfl) Tryd.underlying22 el_api_Digest (by first | exact hst.old (by decide) hx | assumption | exact hst.sl 0 rfl | exact hst.sl 1 rfl | exact hst.sl 2 rfl | exact hst.sl 3 rfl | exact hst.old (by decide) (by assumption)) (by omega) (by omega) ?_; intro o47 p47 ha47 hr47; (first | subst ha47 | (obtain ⟨h1, h2⟩ := some_addr ha47; subst h1; subst h2; clear ha47) | skip))
          | (first | (refine L_loadA (d := some 48) rfl rfl rfl (by rfl) Tryd.underlying25 rfl el_api_Digest (by first | exact hst.get 0 rfl | exact hst.get 1 rfl | exact hst.get 2 rfl | exact hst.get 3 rfl) (by first | rfl | exact Dig.size _ | (simp; done)) ?_) | (refine L_loadM (d := some 48) rfl rfl rfl (by rfl) Tryd.underlying25 rfl el_api_Digest (by first | assumption) (by first | rfl | exact Dig.size _ | (simp; done)) ?_))
          | (refine L_allocA (d := some 12) rfl rfl rfl el_api_Digest ?_; (try clear hnew); intro g12 W12 hnew; replace hst := hst.trans hnew; simp only [List.cons_append, List.nil_append] at hst)
          | (refine wpl_at (.store 25 (.tmp 12) (.tmp 48)) rfl ?_; first | (refine L_storeA rfl rfl hst rfl (by rfl) (ev_tmp rfl) (by first | rfl | exact Dig.one _ | (simp; done)) el_api_Digest (by first | rfl | exact Dig.size _ | (simp; done)) 0 rfl (by first | rfl | exact Dig.size _ | (simp; done)) ?_; clear hst; intro WS5 hst; simp only [List.set_cons_zero, List.set_cons_succ] at hst) | (refine L_storeA rfl rfl hst rfl (by rfl) (ev_tmp rfl) (by first | rfl | exact Dig.one _ | (simp; done)) el_api_Digest (by first | rfl | exact Dig.size _ | (simp; done)) 1 rfl (by first | rfl | exact Dig.size _ | (simp; done)) ?_; clear hst; intro WS5 hst; simp only [List.set_cons_zero, List.set_cons_succ] at hst) | (refine L_storeA rfl rfl hst rfl (by rfl) (ev_tmp rfl) (by first | rfl | exact Dig.one _ | (simp; done)) el_api_Digest (by first | rfl | exact Dig.size _ | (simp; done)) 2 rfl (by first | rfl | exact Dig.size _ | (simp; done)) ?_; clear hst; intro WS5 hst; simp only [List.set_cons_zero, List.set_cons_succ] at hst) | (refine L_storeA rfl rfl hst rfl (by rfl) (ev_tmp rfl) (by first | rfl | exact Dig.one _ | (simp; done)) el_api_Digest (by first | rfl | exact Dig.size _ | (simp; done)) 3 rfl (by first | rfl | exact Dig.size _ | (simp; done)) ?_; clear hst; intro WS5 hst; simp only [List.set_cons_zero, List.set_cons_succ] at hst) | (refine L_storeM rfl rfl hst rfl (by rfl) (ev_tmp rfl) (by first | rfl | exact Dig.one _ | (simp; done)) el_api_Digest (by first | rfl | exact Dig.size _ | (simp; done)) 0 rfl (by first | exact of_decide_eq_true rfl | (simp; done)) ?_; clear hst; intro WS5 hst; simp only [List.set_cons_zero, List.set_cons_succ] at hst)  | (refine L_storeM rfl rfl hst rfl (by rfl) (ev_tmp rfl) (by first | rfl | exact Dig.one _ | (simp; done)) el_api_Digest (by first | rfl | exact Dig.size _ | (simp; done)) 1 rfl (by first | exact of_decide_eq_true rfl | (simp; done)) ?_; clear hst; intro WS5 hst; simp only [List.set_cons_zero, List.set_cons_succ] at hst)  | (refine L_storeM rfl rfl hst rfl (by rfl) (ev_tmp rfl) (by first | rfl | exact Dig.one _ | (simp; done)) el_api_Digest (by first | rfl | exact Dig.size _ | (simp; done)) 2 rfl (by first | exact of_decide_eq_true rfl | (simp; done)) ?_; clear hst; intro WS5 hst; simp only [List.set_cons_zero, List.set_cons_succ] at hst)  | (refine L_storeM rfl rfl hst rfl (by rfl) (ev_tmp rfl) (by first | rfl | exact Dig.one _ | (simp; done)) el_api_Digest (by first | rfl | exact Dig.size _ | (simp; done)) 3 rfl (by first | exact of_decide_eq_true rfl | (simp; done)) ?_; clear hst; intro WS5 hst; simp only [List.set_cons_zero, List.set_cons_succ] at hst))
          | (refine L_idxS (d := some 51) rfl rfl rfl (by rfl) (by rfl) Tryd.underlying71 el_bool (by first | exact hst.old (by decide) hx | assumption | exact hst.sl 0 rfl | exact hst.sl 1 rfl | exact hst.sl 2 rfl | exact hst.sl 3 rfl | exact hst.old (by decide) (by assumption)) (by omega) (by omega) ?_; intro o51 p51 ha51 hr51; (first | subst ha51 | (obtain ⟨h1, h2⟩ := some_addr ha51; subst h1; subst h2; clear ha51) | skip))
          | (refine L_load1 (d := some 52) rfl rfl rfl (by rfl) Tryd.underlying4 rfl (by first | assumption | exact cell_of (hst.get 0 rfl) rfl | exact cell_of (hst.get 1 rfl) rfl | exact cell_of (hst.get 2 rfl) rfl | exact cell_of (hst.get 3 rfl) rfl) ?_)
          | (first | (refine L_loadA (d := some 56) rfl rfl rfl (by rfl) Tryd.underlying25 rfl el_api_Digest (by first | exact hst.get 0 rfl | exact hst.get 1 rfl | exact hst.get 2 rfl | exact hst.get 3 rfl) (by first | rfl | exact Dig.size _ | (simp; done)) ?_) | (refine L_loadM (d := some 56) rfl rfl rfl (by rfl) Tryd.underlying25 rfl el_api_Digest (by first | assumption) (by first | rfl | exact Dig.size _ | (simp; done)) ?_))
          | (first | (refine L_loadA (d := some 57) rfl rfl rfl (by rfl) Tryd.underlying25 rfl el_api_Digest (by first | exact hst.get 0 rfl | exact hst.get 1 rfl | exact hst.get 2 rfl | exact hst.get 3 rfl) (by first | rfl | exact Dig.size _ | (simp; done)) ?_) | (refine L_loadM (d := some 57) rfl rfl rfl (by rfl) Tryd.underlying25 rfl el_api_Digest (by first | assumption) (by first | rfl | exact Dig.size _ | (simp; done)) ?_))
          | (refine wpl_at (.store 25 (.tmp 4) (.tmp 58)) rfl ?_; first | (refine L_storeA rfl rfl hst rfl (by rfl) (ev_tmp rfl) (by first | rfl | exact Dig.one _ | (simp; done)) el_api_Digest (by first | rfl | exact Dig.size _ | (simp; done)) 0 rfl (by first | rfl | exact Dig.size _ | (simp; done)) ?_; clear hst; intro WS3 hst; simp only [List.set_cons_zero, List.set_cons_succ] at hst) | (refine L_storeA rfl rfl hst rfl (by rfl) (ev_tmp rfl) (by first | rfl | exact Dig.one _ | (simp; done)) el_api_Digest (by first | rfl | exact Dig.size _ | (simp; done)) 1 rfl (by first | rfl | exact Dig.size _ | (simp; done)) ?_; clear hst; intro WS3 hst; simp only [List.set_cons_zero, List.set_cons_succ] at hst) | (refine L_storeA rfl rfl hst rfl (by rfl) (ev_tmp rfl) (by first | rfl | exact Dig.one _ | (simp; done)) el_api_Digest (by first | rfl | exact Dig.size _ | (simp; done)) 2 rfl (by first | rfl | exact Dig.size _ | (simp; done)) ?_; clear hst; intro WS3 hst; simp only [List.set_cons_zero, List.set_cons_succ] at hst) | (refine L_storeA rfl rfl hst rfl (by rfl) (ev_tmp rfl) (by first | rfl | exact Dig.one _ | (simp; done)) el_api_Digest (by first | rfl | exact Dig.size _ | (simp; done)) 3 rfl (by first | rfl | exact Dig.size _ | (simp; done)) ?_; clear hst; intro WS3 hst; simp only [List.set_cons_zero, List.set_cons_succ] at hst) | (refine L_storeM rfl rfl hst rfl (by rfl) (ev_tmp rfl) (by first | rfl | exact Dig.one _ | (simp; done)) el_api_Digest (by first | rfl | exact Dig.size _ | (simp; done)) 0 rfl (by first | exact of_decide_eq_true rfl | (simp; done)) ?_; clear hst; intro WS3 hst; simp only [List.set_cons_zero, List.set_cons_succ] at hst)  | (refine L_storeM rfl rfl hst rfl (by rfl) (ev_tmp rfl) (by first | rfl | exact Dig.one _ | (simp; done)) el_api_Digest (by first | rfl | exact Dig.size _ | (simp; done)) 1 rfl (by first | exact of_decide_eq_true rfl | (simp; done)) ?_; clear hst; intro WS3 hst; simp only [List.set_cons_zero, List.set_cons_succ] at hst)  | (refine L_storeM rfl rfl hst rfl (by rfl) (ev_tmp rfl) (by first | rfl | exact Dig.one _ | (simp; done)) el_api_Digest (by first | rfl | exact Dig.size _ | (simp; done)) 2 rfl (by first | exact of_decide_eq_true rfl | (simp; done)) ?_; clear hst; intro WS3 hst; simp only [List.set_cons_zero, List.set_cons_succ] at hst)  | (refine L_storeM rfl rfl hst rfl (by rfl) (ev_tmp rfl) (by first | rfl | exact Dig.one _ | (simp; done)) el_api_Digest (by first | rfl | exact Dig.size _ | (simp; done)) 3 rfl (by first | exact of_decide_eq_true rfl | (simp; done)) ?_; clear hst; intro WS3 hst; simp only [List.set_cons_zero, List.set_cons_succ] at hst))
          | fail)
        go_roundg (gk - 1)
        case measure => have hi := HI.out; omega
        case rel =>
          have hi := HI.out
          refine ⟨j + 1, Lib.hid (by omega), by go_num, ?_⟩
          rw [HS.out]
          exact hst.pick [1, 2, 3] (by decide)
      ·
        go_wp2_with (first
          | (refine L_loadM (d := some 48) rfl rfl rfl (by rfl) Tryd.underlying25 rfl el_api_Digest (cs := p.arr) (by rw [← HP.out]; exact hr47) (Dig.size _) ?_)
          | (refine L_load1 (d := some 52) rfl rfl rfl (by rfl) Tryd.underlying4 rfl (v := .bool true) (hr51 0 (.bool true) (by rw [HB.out]; rfl)) ?_)
          | (go_at_call 35; (try clear hnew); with_reducible refine (node_any _ _ _ (HT.out.of hst)).mono ?_; rintro e Wk7 ⟨rfl, hnew⟩; replace hst := hst.keep hnew)
          | (refine L_idxS (d := some 47) rfl rfl rfl (by rfl) (by rfl) Tryd.underlying22 el_api_Digest (by first | exact hst.old (by decide) hx | assumption | exact hst.sl 0 rfl | exact hst.sl 1 rfl | exact hst.sl 2 rfl | exact hst.sl 3 rfl | exact hst.old (by decide) (by assumption)) (by omega) (by omega) ?_; intro o47 p47 ha47 hr47; (first | subst ha47 | (obtain ⟨h1, h2⟩ := some_addr ha47; subst h1; subst h2; clear ha47) | skip))
          | (first | (refine L_loadA (d := some 48) rfl rfl rfl (by rfl) Tryd.underlying25 rfl el_api_Digest (by first | exact hst.get 0 rfl | exact hst.get 1 rfl | exact hst.get 2 rfl | exact hst.get 3 rfl) (by first | rfl | exact Dig.size _ | (simp; done)) ?_) | (refine L_loadM (d := some 48) rfl rfl rfl (by rfl) Tryd.underlying25 rfl el_api_Digest (by first | assumption) (by first | rfl | exact Dig.size _ | (simp; done)) ?_))
          | (refine L_allocA (d := some 12) rfl rfl rfl el_api_Digest ?_; (try clear hnew); intro g12 W12 hnew; replace hst := hst.trans hnew; simp only [List.cons_append, List.nil_append] at hst)
          | (refine wpl_at (.store 25 (.tmp 12) (.tmp 48)) rfl ?_; first | (refine L_storeA rfl rfl hst rfl (by rfl) (ev_tmp rfl) (by first | rfl | exact Dig.one _ | (simp; done)) el_api_Digest (by first | rfl | exact Dig.size _ | (simp; done)) 0 rfl (by first | rfl | exact Dig.size _ | (simp; done)) ?_; clear hst; intro WS5 hst; simp only [List.set_cons_zero, List.set_cons_succ] at hst) | (refine L_storeA rfl rfl hst rfl (by rfl) (ev_tmp rfl) (by first | rfl | exact Dig.one _ | (simp; done)) el_api_Digest (by first | rfl | exact Dig.size _ | (simp; done)) 1 rfl (by first | rfl | exact Dig.size _ | (simp; done)) ?_; clear hst; intro WS5 hst; simp only [List.set_cons_zero, List.set_cons_succ] at hst) | (refine L_storeA rfl rfl hst rfl (by rfl) (ev_tmp rfl) (by first | rfl | exact Dig.one _ | (simp; done)) el_api_Digest (by first | rfl | exact Dig.size _ | (simp; done)) 2 rfl (by first | rfl | exact Dig.size _ | (simp; done)) ?_; clear hst; intro WS5 hst; simp only [List.set_cons_zero, List.set_cons_succ] at hst) | (refine L_storeA rfl rfl hst rfl (by rfl) (ev_tmp rfl) (by first | rfl | exact Dig.one _ | (simp; done)) el_api_Digest (by first | rfl | exact Dig.size _ | (simp; done)) 3 rfl (by first | rfl | exact Dig.size _ | (simp; done)) ?_; clear hst; intro WS5 hst; simp only [List.set_cons_zero, List.set_cons_succ] at hst) | (refine L_storeM rfl rfl hst rfl (by rfl) (ev_tmp rfl) (by first | rfl | exact Dig.one _ | (simp; done)) el_api_Digest (by first | rfl | exact Dig.size _ | (simp; done)) 0 rfl (by first | exact of_decide_eq_true rfl | (simp; done)) ?_; clear hst; intro WS5 hst; simp only [List.set_cons_zero, List.set_cons_succ] at hst)  | (refine L_storeM rfl rfl hst rfl (by rfl) (ev_tmp rfl) (by first | rfl | exact Dig.one _ | (simp; done)) el_api_Digest (by first | rfl | exact Dig.size _ | (simp; done)) 1 rfl (by first | exact of_decide_eq_true rfl | (simp; done)) ?_; clear hst; intro WS5 hst; simp only [List.set_cons_zero, List.set_cons_succ] at hst)  | (refine L_storeM rfl rfl hst rfl (by rfl) (ev_tmp rfl) (by first | rfl | exact Dig.one _ | (simp; done)) el_api_Digest (by first | rfl | exact Dig.size _ | (simp; done)) 2 rfl (by first | exact of_decide_eq_true rfl | (simp; done)) ?_; clear hst; intro WS5 hst; simp only [List.set_cons_zero, List.set_cons_succ] at hst)  | (refine L_storeM rfl rfl hst rfl (by rfl) (ev_tmp rfl) (by first | rfl | exact Dig.one _ | (simp; done)) el_api_Digest (by first | rfl | exact Dig.size _ | (simp; done)) 3 rfl (by first | exact of_decide_eq_true rfl | (simp; done)) ?_; clear hst; intro WS5 hst; simp only [List.set_cons_zero, List.set_cons_succ] at hst))
          | (refine L_idxS (d := some 51) rfl rfl rfl (by rfl) (by rfl) Tryd.underlying71 el_bool (by first | exact hst.old (by decide) hx | assumption | exact hst.sl 0 rfl | exact hst.sl 1 rfl | exact hst.sl 2 rfl | exact hst.sl 3 rfl | exact hst.old (by decide) (by assumption)) (by omega) (by omega) ?_; intro o51 p51 ha51 hr51; (first | subst ha51 | (obtain ⟨h1, h2⟩ := some_addr ha51; subst h1; subst h2; clear ha51) | skip))
          | (refine L_load1 (d := some 52) rfl rfl rfl (by rfl) Tryd.underlying4 rfl (by first | assumption | exact cell_of (hst.get 0 rfl) rfl | exact cell_of (hst.get 1 rfl) rfl | exact cell_of (hst.get 2 rfl) rfl | exact cell_of (hst.get 3 rfl) rfl) ?_)
          | (first | (refine L_loadA (d := some 53) rfl rfl rfl (by rfl) Tryd.underlying25 rfl el_api_Digest (by first | exact hst.get 0 rfl | exact hst.get 1 rfl | exact hst.get 2 rfl | exact hst.get 3 rfl) (by first | rfl | exact Dig.size _ | (simp; done)) ?_) | (refine L_loadM (d := some 53) rfl rfl rfl (by rfl) Tryd.underlying25 rfl el_api_Digest (by first | assumption) (by first | rfl | exact Dig.size _ | (simp; done)) ?_))
          | (first | (refine L_loadA (d := some 54) rfl rfl rfl (by rfl) Tryd.underlying25 rfl el_api_Digest (by first | exact hst.get 0 rfl | exact hst.get 1 rfl | exact hst.get 2 rfl | exact hst.get 3 rfl) (by first | rfl | exact Dig.size _ | (simp; done)) ?_) | (refine L_loadM (d := some 54) rfl rfl rfl (by rfl) Tryd.underlying25 rfl el_api_Digest (by first | assumption) (by first | rfl | exact Dig.size _ | (simp; done)) ?_))
          | (refine wpl_at (.store 25 (.tmp 4) (.tmp 55)) rfl ?_; first | (refine L_storeA rfl rfl hst rfl (by rfl) (ev_tmp rfl) (by first | rfl | exact Dig.one _ | (simp; done)) el_api_Digest (by first | rfl | exact Dig.size _ | (simp; done)) 0 rfl (by first | rfl | exact Dig.size _ | (simp; done)) ?_; clear hst; intro WS3 hst; simp only [List.set_cons_zero, List.set_cons_succ] at hst) | (refine L_storeA rfl rfl hst rfl (by rfl) (ev_tmp rfl) (by first | rfl | exact Dig.one _ | (simp; done)) el_api_Digest (by first | rfl | exact Dig.size _ | (simp; done)) 1 rfl (by first | rfl | exact Dig.size _ | (simp; done)) ?_; clear hst; intro WS3 hst; simp only [List.set_cons_zero, List.set_cons_succ] at hst) | (refine L_storeA rfl rfl hst rfl (by rfl) (ev_tmp rfl) (by first | rfl | exact Dig.one _ | (simp; done)) el_api_Digest (by first | rfl | exact Dig.size _ | (simp; done)) 2 rfl (by first | rfl | exact Dig.size _ | (simp; done)) ?_; clear hst; intro WS3 hst; simp only [List.set_cons_zero, List.set_cons_succ] at hst) | (refine L_storeA rfl rfl hst rfl (by rfl) (ev_tmp rfl) (by first | rfl | exact Dig.one _ | (simp; done)) el_api_Digest (by first | rfl | exact Dig.size _ | (simp; done)) 3 rfl (by first | rfl | exact Dig.size _ | (simp; done)) ?_; clear hst; intro WS3 hst; simp only [List.set_cons_zero, List.set_cons_succ] at hst) | (refine L_storeM rfl rfl hst rfl (by rfl) (ev_tmp rfl) (by first | rfl | exact Dig.one _ | (simp; done)) el_api_Digest (by first | rfl | exact Dig.size _ | (simp; done)) 0 rfl (by first | exact of_decide_eq_true rfl | (simp; done)) ?_; clear hst; intro WS3 hst; simp only [List.set_cons_zero, List.set_cons_succ] at hst)  | (refine L_storeM rfl rfl hst rfl (by rfl) (ev_tmp rfl) (by first | rfl | exact Dig.one _ | (simp; done)) el_api_Digest (by first | rfl | exact Dig.size _ | (simp; done)) 1 rfl (by first | exact of_decide_eq_true rfl | (simp; done)) ?_; clear hst; intro WS3 hst; simp only [List.set_cons_zero, List.set_cons_succ] at hst)  | (refine L_storeM rfl rfl hst rfl (by rfl) (ev_tmp rfl) (by first | rfl | exact Dig.one _ | (simp; done)) el_api_Digest (by first | rfl | exact Dig.size _ | (simp; done)) 2 rfl (by first | exact of_decide_eq_true rfl | (simp; done)) ?_; clear hst; intro WS3 hst; simp only [List.set_cons_zero, List.set_cons_succ] at hst)  | (refine L_storeM rfl rfl hst rfl (by rfl) (ev_tmp rfl) (by first | rfl | exact Dig.one _ | (simp; done)) el_api_Digest (by first | rfl | exact Dig.size _ | (simp; done)) 3 rfl (by first | exact of_decide_eq_true rfl | (simp; done)) ?_; clear hst; intro WS3 hst; simp only [List.set_cons_zero, List.set_cons_succ] at hst))
          | fail)
        go_roundg (gk - 1)
        case measure => have hi := HI.out; omega
        case rel =>
          have hi := HI.out
          refine ⟨j + 1, Lib.hid (by omega), by go_num, ?_⟩
          rw [HS.out]
          exact hst.pick [1, 2, 3] (by decide)
    · obtain rfl : j = m := by omega
      rw [HZ.out] at hst
      clear hi HI
      go_wp2_with (first
        | (first | (refine L_loadA (d := some 60) rfl rfl rfl (by rfl) Tryd.underlying25 rfl el_api_Digest (by first | exact hst.get 0 rfl | exact hst.get 1 rfl | exact hst.get 2 rfl) (by first | rfl | exact Dig.size _ | (simp; done)) ?_) | (refine L_loadM (d := some 60) rfl rfl rfl (by rfl) Tryd.underlying25 rfl el_api_Digest (by first | assumption) (by first | rfl | exact Dig.size _ | (simp; done)) ?_))
        | (refine wpl_at (.store 25 (.tmp 8) (.tmp 60)) rfl ?_; first | (refine L_storeA rfl rfl hst rfl (by rfl) (ev_tmp rfl) (by first | rfl | exact Dig.one _ | (simp; done)) el_api_Digest (by first | rfl | exact Dig.size _ | (simp; done)) 0 rfl (by first | rfl | exact Dig.size _ | (simp; done)) ?_; clear hst; intro WS1 hst; simp only [List.set_cons_zero, List.set_cons_succ] at hst) | (refine L_storeA rfl rfl hst rfl (by rfl) (ev_tmp rfl) (by first | rfl | exact Dig.one _ | (simp; done)) el_api_Digest (by first | rfl | exact Dig.size _ | (simp; done)) 1 rfl (by first | rfl | exact Dig.size _ | (simp; done)) ?_; clear hst; intro WS1 hst; simp only [List.set_cons_zero, List.set_cons_succ] at hst) | (refine L_storeA rfl rfl hst rfl (by rfl) (ev_tmp rfl) (by first | rfl | exact Dig.one _ | (simp; done)) el_api_Digest (by first | rfl | exact Dig.size _ | (simp; done)) 2 rfl (by first | rfl | exact Dig.size _ | (simp; done)) ?_; clear hst; intro WS1 hst; simp only [List.set_cons_zero, List.set_cons_succ] at hst) | (refine L_storeM rfl rfl hst rfl (by rfl) (ev_tmp rfl) (by first | rfl | exact Dig.one _ | (simp; done)) el_api_Digest (by first | rfl | exact Dig.size _ | (simp; done)) 0 rfl (by first | exact of_decide_eq_true rfl | (simp; done)) ?_; clear hst; intro WS1 hst; simp only [List.set_cons_zero, List.set_cons_succ] at hst)  | (refine L_storeM rfl rfl hst rfl (by rfl) (ev_tmp rfl) (by first | rfl | exact Dig.one _ | (simp; done)) el_api_Digest (by first | rfl | exact Dig.size _ | (simp; done)) 1 rfl (by first | exact of_decide_eq_true rfl | (simp; done)) ?_; clear hst; intro WS1 hst; simp only [List.set_cons_zero, List.set_cons_succ] at hst)  | (refine L_storeM rfl rfl hst rfl (by rfl) (ev_tmp rfl) (by first | rfl | exact Dig.one _ | (simp; done)) el_api_Digest (by first | rfl | exact Dig.size _ | (simp; done)) 2 rfl (by first | exact of_decide_eq_true rfl | (simp; done)) ?_; clear hst; intro WS1 hst; simp only [List.set_cons_zero, List.set_cons_succ] at hst))
        | fail)
      refine bp_cell_tmp rfl rfl rfl rfl (hst.get 1 rfl) Tryd.underlying25 rfl el_api_Digest (by first | rfl | exact Dig.size _ | (simp; done)) ?_
      exact ⟨rfl, hst.forget⟩

theorem tFold_length (l : Dig) (A : Option Addr) (m c i n : Nat) (w : World) (hn : n ≤ 256) (hin : i < n) (hm : m ≠ longN i n) :
    Calls Tryd.prog 20 #[l.v, .int .i64 (i : Int), .int .i64 (n : Int), .slice A m c] w fun e w' => e = .returned (.tuple #[zeroD.v, errV 3]) ∧ St w w' [] := by
  have hst := St.refl w
  have h1 : ¬ (n : Int) < 1 := by omega
  have h2 : ¬ (256 : Int) < (n : Int) := by omega
  have h3 : ¬ (i : Int) < 0 := by omega
  have h4 : ¬ (n : Int) ≤ (i : Int) := by omega
  have h5 : ((m : Int) != (longN i n : Int)) = true := by rw [bne_iff_ne]; omega
  clear hm
  go_enter Tryd.func20, Tryd.ntmps20
  go_wp2_with (first
    | (go_at_call 56; (try clear hnew); refine (sides_any i n hn hin _).mono ?_; rintro e Wk8 ⟨A32, c32, rfl, hnew⟩; replace hst := hst.trans hnew; simp only [List.cons_append, List.nil_append] at hst)
    | (refine L_boxA (d := some 4) rfl rfl rfl (ev_tmp rfl) ?_; (try clear hnew); intro g4 W4 hnew; replace hst := hst.trans hnew; simp only [List.cons_append, List.nil_append] at hst)
    | (refine L_allocA (d := some 8) rfl rfl rfl el_api_Digest ?_; (try clear hnew); intro g8 W8 hnew; replace hst := hst.trans hnew; simp only [List.cons_append, List.nil_append] at hst)
    | (refine L_build0 (d := some 38) rfl rfl rfl Tryd.underlying25 el_uint8 el_api_Digest ?_)
    | (refine wpl_at (.store 25 (.tmp 8) (.tmp 38)) rfl ?_; first | (refine L_storeA rfl rfl hst rfl (by rfl) (ev_tmp rfl) (by first | rfl | exact Dig.one _ | (simp; done)) el_api_Digest (by first | rfl | exact Dig.size _ | (simp; done)) 0 rfl (by first | rfl | exact Dig.size _ | (simp; done)) ?_; clear hst; intro WS2 hst; simp only [List.set_cons_zero, List.set_cons_succ] at hst) | (refine L_storeA rfl rfl hst rfl (by rfl) (ev_tmp rfl) (by first | rfl | exact Dig.one _ | (simp; done)) el_api_Digest (by first | rfl | exact Dig.size _ | (simp; done)) 1 rfl (by first | rfl | exact Dig.size _ | (simp; done)) ?_; clear hst; intro WS2 hst; simp only [List.set_cons_zero, List.set_cons_succ] at hst) | (refine L_storeA rfl rfl hst rfl (by rfl) (ev_tmp rfl) (by first | rfl | exact Dig.one _ | (simp; done)) el_api_Digest (by first | rfl | exact Dig.size _ | (simp; done)) 2 rfl (by first | rfl | exact Dig.size _ | (simp; done)) ?_; clear hst; intro WS2 hst; simp only [List.set_cons_zero, List.set_cons_succ] at hst) | (refine L_storeM rfl rfl hst rfl (by rfl) (ev_tmp rfl) (by first | rfl | exact Dig.one _ | (simp; done)) el_api_Digest (by first | rfl | exact Dig.size _ | (simp; done)) 0 rfl (by first | exact of_decide_eq_true rfl | (simp; done)) ?_; clear hst; intro WS2 hst; simp only [List.set_cons_zero, List.set_cons_succ] at hst)  | (refine L_storeM rfl rfl hst rfl (by rfl) (ev_tmp rfl) (by first | rfl | exact Dig.one _ | (simp; done)) el_api_Digest (by first | rfl | exact Dig.size _ | (simp; done)) 1 rfl (by first | exact of_decide_eq_true rfl | (simp; done)) ?_; clear hst; intro WS2 hst; simp only [List.set_cons_zero, List.set_cons_succ] at hst)  | (refine L_storeM rfl rfl hst rfl (by rfl) (ev_tmp rfl) (by first | rfl | exact Dig.one _ | (simp; done)) el_api_Digest (by first | rfl | exact Dig.size _ | (simp; done)) 2 rfl (by first | exact of_decide_eq_true rfl | (simp; done)) ?_; clear hst; intro WS2 hst; simp only [List.set_cons_zero, List.set_cons_succ] at hst))
    | fail)
  refine bp_cell_tmp rfl rfl rfl rfl (hst.get 1 rfl) Tryd.underlying25 rfl el_api_Digest (by first | rfl | exact Dig.size _ | (simp; done)) ?_
  exact ⟨rfl, hst.forget⟩
theorem tFold_range (l : Dig) (A : Option Addr) (m c : Nat) (i n : Int) (w : World) (h : n < 1 ∨ ¬ n < 1 ∧ 256 < n ∨ ¬ n < 1 ∧ ¬ 256 < n ∧ i < 0 ∨ ¬ n < 1 ∧ ¬ 256 < n ∧ ¬ i < 0 ∧ n ≤ i) :
    Calls Tryd.prog 20 #[l.v, .int .i64 i, .int .i64 n, .slice A m c] w fun e w' => e = .returned (.tuple #[zeroD.v, errV 2]) ∧ St w w' [] := by
  have hst := St.refl w
  rcases h with h1 | ⟨h1, h2⟩ | ⟨h1, h2, h3⟩ | ⟨h1, h2, h3, h4⟩
  all_goals
    go_enter Tryd.func20, Tryd.ntmps20
    go_wp2_with (first
      | (refine L_boxA (d := some 4) rfl rfl rfl (ev_tmp rfl) ?_; (try clear hnew); intro g4 W4 hnew; replace hst := hst.trans hnew; simp only [List.cons_append, List.nil_append] at hst)
      | (refine L_allocA (d := some 8) rfl rfl rfl el_api_Digest ?_; (try clear hnew); intro g8 W8 hnew; replace hst := hst.trans hnew; simp only [List.cons_append, List.nil_append] at hst)
      | (refine L_build0 (d := some 28) rfl rfl rfl Tryd.underlying25 el_uint8 el_api_Digest ?_)
      | (refine wpl_at (.store 25 (.tmp 8) (.tmp 28)) rfl ?_; first | (refine L_storeA rfl rfl hst rfl (by rfl) (ev_tmp rfl) (by first | rfl | exact Dig.one _ | (simp; done)) el_api_Digest (by first | rfl | exact Dig.size _ | (simp; done)) 0 rfl (by first | rfl | exact Dig.size _ | (simp; done)) ?_; clear hst; intro WS2 hst; simp only [List.set_cons_zero, List.set_cons_succ] at hst) | (refine L_storeA rfl rfl hst rfl (by rfl) (ev_tmp rfl) (by first | rfl | exact Dig.one _ | (simp; done)) el_api_Digest (by first | rfl | exact Dig.size _ | (simp; done)) 1 rfl (by first | rfl | exact Dig.size _ | (simp; done)) ?_; clear hst; intro WS2 hst; simp only [List.set_cons_zero, List.set_cons_succ] at hst) | (refine L_storeM rfl rfl hst rfl (by rfl) (ev_tmp rfl) (by first | rfl | exact Dig.one _ | (simp; done)) el_api_Digest (by first | rfl | exact Dig.size _ | (simp; done)) 0 rfl (by first | exact of_decide_eq_true rfl | (simp; done)) ?_; clear hst; intro WS2 hst; simp only [List.set_cons_zero, List.set_cons_succ] at hst)  | (refine L_storeM rfl rfl hst rfl (by rfl) (ev_tmp rfl) (by first | rfl | exact Dig.one _ | (simp; done)) el_api_Digest (by first | rfl | exact Dig.size _ | (simp; done)) 1 rfl (by first | exact of_decide_eq_true rfl | (simp; done)) ?_; clear hst; intro WS2 hst; simp only [List.set_cons_zero, List.set_cons_succ] at hst))
      | fail)
    refine bp_cell_tmp rfl rfl rfl rfl (hst.get 0 rfl) Tryd.underlying25 rfl el_api_Digest (by first | rfl | exact Dig.size _ | (simp; done)) ?_
    exact ⟨rfl, hst.forget⟩
end Go.Proofs.YtfpppmamkmaneaaDoor
