/-
  Proved here: the contracts of the laws' written and wrote. Condition: the records are together no longer than 16777216 bytes with what stands around them.
-/
import Derived.Test.YtkbleigmfcleaaaDoorDRows
set_option maxRecDepth 20000
set_option linter.unusedSimpArgs false
set_option linter.unusedVariables false
namespace Go.Proofs.YtkbleigmfcleaaaDoor
open Go.RowKit

theorem endD_take_le (rs : List (List UInt8)) (i : Nat) : endD (rs.take i) ≤ endD rs := by
  have h := length_diaryN rs zero8
  have e : rs = rs.take i ++ rs.drop i := (List.take_append_drop i rs).symm
  rw [e, diaryN_append, List.length_append, length_diaryN, length_diaryN] at h
  rw [← e] at h
  omega
theorem endD_take_succ (rs : List (List UInt8)) (i : Nat) (h : i < rs.length) : endD (rs.take (i + 1)) = endD (rs.take i) + rs[i].length + 10 := by
  have h1 := length_diaryN (rs.take (i + 1)) zero8
  rw [List.take_succ_eq_append_getElem h, diaryN_append, List.length_append, length_diaryN] at h1
  rw [List.take_succ_eq_append_getElem h]
  rw [← h1]
  simp [diaryN, length_frameD]
  omega
theorem diaryN_take_succ (rs : List (List UInt8)) (i : Nat) (h : i < rs.length) : diaryN zero8 (rs.take (i + 1)) = diaryN zero8 (rs.take i) ++ frameD (lastN zero8 (rs.take i)) rs[i] := by
  rw [List.take_succ_eq_append_getElem h, diaryN_append]
  simp [diaryN]
theorem readD_of_diary (rs : List (List UInt8)) (h : ∀ r ∈ rs, r.length ≤ 1000) : readD zero8 (diaryN zero8 rs) = (rs, []) := by
  have := readD_diary rs zero8 [] h
  rw [List.append_nil, readD_none (last := lastN zero8 rs) (d := []) rfl] at this
  rw [this, List.append_nil]

set_option maxHeartbeats 2000000 in
set_option maxRecDepth 100000 in
/-- all of them are short: they are written -/
theorem written_any (rs : List (List UInt8)) (A : Option Addr) (n c : Nat) (w : World) (hT : Tb w) (hx : RowsAt w A n c rs) (hb : endD rs ≤ 16777216) (hs : ∀ r ∈ rs, r.length ≤ 1000) :
    Calls Tryd.prog 29 #[.slice A n c] w fun e w' => ∃ O oc, e = .returned (.tuple #[.slice O (endD rs) oc, .bool true]) ∧ St w w' [.row O (endD rs) oc 5 1 (bytesL (diaryN zero8 rs))] := by
  have hst := St.refl w
  have HT := Lib.hid hT
  obtain ⟨hl, hnc, hcm⟩ := hx.len
  simp only [maxLen] at hcm
  obtain ⟨ps, hx1, hx2, hx3⟩ := hx.ex
  have Hl := Lib.hid hl
  have Hb := Lib.hid hb
  have Hs := Lib.hid hs
  have Hpl := Lib.hid (show ps.length = n by have := hx1.1; simp only [piecesL, List.length_map, Nat.mul_one] at this; exact this)
  have Hx := Lib.hid hx2
  have HE := Lib.hid hx3
  clear hx hl hb hs hx2 hx3 hT
  go_enter Tryd.func29, Tryd.ntmps29
  go_wp2_with (first
    | fail)
  have hst : St w w [.row none (endD (rs.take 0)) 0 5 1 (bytesL (diaryN zero8 (rs.take 0)))] := hst.nilRow 5 1
  go_loopg [4, 5] n (fun gk s4 s5 wr => ∃ (i k oc : Nat) (O : Option Addr), Hid (i + gk = n) ∧ Hid (endD (rs.take i) = k) ∧ s4 = .slice O k oc ∧ s5 = .int .i64 (i : Int) ∧ St w wr [.row O k oc 5 1 (bytesL (diaryN zero8 (rs.take i)))])
  case atStart => exact ⟨0, 0, 0, none, Lib.hid (by omega), Lib.hid rfl, rfl, rfl, hst⟩
  case round =>
    clear hst
    obtain ⟨i, k, oc, O, HI, HK, rfl, rfl, hst⟩ := hrel
    have hi := HI.out
    by_cases hin : i < n
    · clear hi
      have hip := Lib.hid (show i < ps.length by rw [Hpl.out]; exact hin)
      have hir := Lib.hid (show i < rs.length by rw [Hl.out]; exact hin)
      have HC := Lib.hid (fun (W : World) (g off : Nat) h => piece_at (W := W) (g := g) (off := off) (i := i) (ps := ps) h hip.out)
      have HP := Hx.out (ps[i]'hip.out) (List.getElem_mem hip.out)
      have heq : (ps[i]'hip.out).2.2.2 = rs[i]'hir.out := by
        have := congrArg (fun l => l[i]?) HE.out
        simpa [recsP, hip.out, hir.out] using this
      generalize ps[i]'hip.out = p at HC HP heq
      obtain ⟨PA, pn, pc, pl⟩ := p
      dsimp only at HC HP heq
      have hpl := slr_len HP
      have hp1000 : pn ≤ 1000 := by rw [hpl, heq]; exact Hs.out _ (List.getElem_mem hir.out)
      have hk1 : k ≤ 16777216 := by rw [← HK.out]; exact Nat.le_trans (endD_take_le rs i) Hb.out
      have HRd := Lib.hid (readD_of_diary (rs.take i) (fun r h => Hs.out r (List.mem_of_mem_take h)))
      have HD := Lib.hid (diaryN_take_succ rs i hir.out)
      have HN := Lib.hid (endD_take_succ rs i hir.out)
      rw [← heq] at HD HN
      have HAd := Lib.hid (fun w (hT : Tb w) (h : SlR w O k oc 1 (bytesL (diaryN zero8 (rs.take i)))) h2 => add_any (diaryN zero8 (rs.take i)) pl O PA k oc pn pc w hT h h2 hk1 hp1000)
      rw [HRd.out] at HAd
      generalize diaryN zero8 (rs.take i) = dl at hst HD HAd
      replace hpl := Lib.hid hpl
      clear heq
      go_wp2_with (first
        | (refine L_load1 (d := some 19) rfl rfl rfl (by rfl) Tryd.underlying49 rfl (HC.out _ _ _ hr18) ?_)
        | (go_at_call 33; (try clear hnew); refine (HAd.out _ (HT.out.of hst) (hst.sl 0 rfl) (hst.old (by decide) HP)).mono ?_; rintro e Wa (⟨h0, _, _⟩ | ⟨_, O20, c20, rfl, hnew⟩); exact absurd rfl h0; replace hst := hst.trans hnew; simp only [List.cons_append, List.nil_append] at hst)
        | (refine L_idxS (d := some 18) rfl rfl rfl (by rfl) (by rfl) Tryd.underlying37 el_S_uint8 (by first | exact hst.old (by decide) hx1 | assumption | exact hst.sl 0 rfl | exact hst.old (by decide) (by assumption)) (by omega) (by omega) ?_; intro o18 p18 ha18 hr18; (first | subst ha18 | (obtain ⟨h1, h2⟩ := some_addr ha18; subst h1; subst h2; clear ha18) | skip))
        | (refine L_load1 (d := some 19) rfl rfl rfl (by rfl) Tryd.underlying49 rfl (by first | assumption | exact cell_of (hst.get 0 rfl) rfl) ?_)
        | fail)
      go_roundg (gk - 1)
      case measure => have hi := HI.out; omega
      case rel =>
        have hi := HI.out
        refine ⟨i + 1, k + pn + 10, _, _, Lib.hid (by omega), Lib.hid (by rw [HN.out, HK.out, ← hpl.out]), rfl, by go_num, ?_⟩
        rw [HD.out]
        exact hst.pick [0] (by decide)
    · obtain rfl : i = n := by omega
      clear hi HI
      have hall : rs.take i = rs := List.take_of_length_le (by rw [Hl.out]; exact Nat.le_refl _)
      rw [hall] at hst HK
      obtain rfl := HK.out
      clear HK hall
      go_wp2_with (first
        | fail)
      go_ret2
      exact ⟨O, oc, rfl, hst⟩

set_option maxHeartbeats 2000000 in
set_option maxRecDepth 100000 in
/-- one of them is too long: they are not written -/
theorem written_no (rs : List (List UInt8)) (A : Option Addr) (n c : Nat) (w : World) (hT : Tb w) (hx : RowsAt w A n c rs) (hb : endD rs ≤ 16777216) (j : Nat) (hj : j < rs.length) (hlong : 1000 < rs[j].length) (hs : ∀ r ∈ rs.take j, r.length ≤ 1000) :
    Calls Tryd.prog 29 #[.slice A n c] w fun e w' => e = .returned (.tuple #[.slice none 0 0, .bool false]) ∧ St w w' [] := by
  have hst := St.refl w
  have HT := Lib.hid hT
  obtain ⟨hl, hnc, hcm⟩ := hx.len
  simp only [maxLen] at hcm
  obtain ⟨ps, hx1, hx2, hx3⟩ := hx.ex
  have Hl := Lib.hid hl
  have Hb := Lib.hid hb
  have Hs := Lib.hid hs
  have Hlo := Lib.hid hlong
  have Hpl := Lib.hid (show ps.length = n by have := hx1.1; simp only [piecesL, List.length_map, Nat.mul_one] at this; exact this)
  have Hx := Lib.hid hx2
  have HE := Lib.hid hx3
  have hjn : j < n := by omega
  have Hj := Lib.hid hj
  clear hx hl hb hs hx2 hx3 hT hlong
  go_enter Tryd.func29, Tryd.ntmps29
  go_wp2_with (first
    | fail)
  have hst : St w w [.row none (endD (rs.take 0)) 0 5 1 (bytesL (diaryN zero8 (rs.take 0)))] := hst.nilRow 5 1
  go_loopg [4, 5] j (fun gk s4 s5 wr => ∃ (i k oc : Nat) (O : Option Addr), Hid (i + gk = j) ∧ Hid (endD (rs.take i) = k) ∧ s4 = .slice O k oc ∧ s5 = .int .i64 (i : Int) ∧ St w wr [.row O k oc 5 1 (bytesL (diaryN zero8 (rs.take i)))])
  case atStart => exact ⟨0, 0, 0, none, Lib.hid (by omega), Lib.hid rfl, rfl, rfl, hst⟩
  case round =>
    clear hst
    obtain ⟨i, k, oc, O, HI, HK, rfl, rfl, hst⟩ := hrel
    have hi := HI.out
    by_cases hij : i < j
    · have hin : i < n := by omega
      have Hm := Lib.hid (show rs[i]'(by rw [Hl.out]; exact hin) ∈ rs.take j from List.mem_take_iff_getElem.2 ⟨i, by rw [Hl.out]; omega, rfl⟩)
      clear hi
      have hip := Lib.hid (show i < ps.length by rw [Hpl.out]; exact hin)
      have hir := Lib.hid (show i < rs.length by rw [Hl.out]; exact hin)
      have HC := Lib.hid (fun (W : World) (g off : Nat) h => piece_at (W := W) (g := g) (off := off) (i := i) (ps := ps) h hip.out)
      have HP := Hx.out (ps[i]'hip.out) (List.getElem_mem hip.out)
      have heq : (ps[i]'hip.out).2.2.2 = rs[i]'hir.out := by
        have := congrArg (fun l => l[i]?) HE.out
        simpa [recsP, hip.out, hir.out] using this
      generalize ps[i]'hip.out = p at HC HP heq
      obtain ⟨PA, pn, pc, pl⟩ := p
      dsimp only at HC HP heq
      have hpl := slr_len HP
      have hp1000 : pn ≤ 1000 := by rw [hpl, heq]; exact Hs.out _ Hm.out
      have hk1 : k ≤ 16777216 := by rw [← HK.out]; exact Nat.le_trans (endD_take_le rs i) Hb.out
      have HRd := Lib.hid (readD_of_diary (rs.take i) (fun r h => Hs.out r ((List.take_subset_take_left rs (Nat.le_of_lt hij)) h)))
      have HD := Lib.hid (diaryN_take_succ rs i hir.out)
      have HN := Lib.hid (endD_take_succ rs i hir.out)
      rw [← heq] at HD HN
      have HAd := Lib.hid (fun w (hT : Tb w) (h : SlR w O k oc 1 (bytesL (diaryN zero8 (rs.take i)))) h2 => add_any (diaryN zero8 (rs.take i)) pl O PA k oc pn pc w hT h h2 hk1 hp1000)
      rw [HRd.out] at HAd
      generalize diaryN zero8 (rs.take i) = dl at hst HD HAd
      replace hpl := Lib.hid hpl
      clear heq
      go_wp2_with (first
        | (refine L_load1 (d := some 19) rfl rfl rfl (by rfl) Tryd.underlying49 rfl (HC.out _ _ _ hr18) ?_)
        | (go_at_call 33; (try clear hnew); refine (HAd.out _ (HT.out.of hst) (hst.sl 0 rfl) (hst.old (by decide) HP)).mono ?_; rintro e Wa (⟨h0, _, _⟩ | ⟨_, O20, c20, rfl, hnew⟩); exact absurd rfl h0; replace hst := hst.trans hnew; simp only [List.cons_append, List.nil_append] at hst)
        | (refine L_idxS (d := some 18) rfl rfl rfl (by rfl) (by rfl) Tryd.underlying37 el_S_uint8 (by first | exact hst.old (by decide) hx1 | assumption | exact hst.sl 0 rfl | exact hst.old (by decide) (by assumption)) (by omega) (by omega) ?_; intro o18 p18 ha18 hr18; (first | subst ha18 | (obtain ⟨h1, h2⟩ := some_addr ha18; subst h1; subst h2; clear ha18) | skip))
        | (refine L_load1 (d := some 19) rfl rfl rfl (by rfl) Tryd.underlying49 rfl (by first | assumption | exact cell_of (hst.get 0 rfl) rfl) ?_)
        | fail)
      go_roundg (gk - 1)
      case measure => have hi := HI.out; omega
      case rel =>
        have hi := HI.out
        refine ⟨i + 1, k + pn + 10, _, _, Lib.hid (by omega), Lib.hid (by rw [HN.out, HK.out, ← hpl.out]), rfl, by go_num, ?_⟩
        rw [HD.out]
        exact hst.pick [0] (by decide)
    · obtain rfl : i = j := by omega
      clear hi HI
      have hin : i < n := hjn
      have hip := Lib.hid (show i < ps.length by rw [Hpl.out]; exact hin)
      have HC := Lib.hid (fun (W : World) (g off : Nat) h => piece_at (W := W) (g := g) (off := off) (i := i) (ps := ps) h hip.out)
      have HP := Hx.out (ps[i]'hip.out) (List.getElem_mem hip.out)
      have heq : (ps[i]'hip.out).2.2.2 = rs[i]'Hj.out := by
        have := congrArg (fun l => l[i]?) HE.out
        simpa [recsP, hip.out, Hj.out] using this
      generalize ps[i]'hip.out = p at HC HP heq
      obtain ⟨PA, pn, pc, pl⟩ := p
      dsimp only at HC HP heq
      have hpl := slr_len HP
      have hp1000 : 1000 < pn := by rw [hpl, heq]; exact Hlo.out
      clear heq
      have HAd := Lib.hid (fun w => add_full (diaryN zero8 (rs.take i)) pl O PA k oc pn pc w hp1000)
      unfold errV at HAd
      replace hpl := Lib.hid hpl
      go_wp2_with (first
        | (refine L_load1 (d := some 19) rfl rfl rfl (by rfl) Tryd.underlying49 rfl (HC.out _ _ _ hr18) ?_)
        | (go_at_call 33; (try clear hnew); refine (HAd.out _).mono ?_; rintro e Wk1 ⟨rfl, hnew⟩; replace hst := hst.keep hnew)
        | (refine L_idxS (d := some 18) rfl rfl rfl (by rfl) (by rfl) Tryd.underlying37 el_S_uint8 (by first | exact hst.old (by decide) hx1 | assumption | exact hst.sl 0 rfl | exact hst.old (by decide) (by assumption)) (by omega) (by omega) ?_; intro o18 p18 ha18 hr18; (first | subst ha18 | (obtain ⟨h1, h2⟩ := some_addr ha18; subst h1; subst h2; clear ha18) | skip))
        | (refine L_load1 (d := some 19) rfl rfl rfl (by rfl) Tryd.underlying49 rfl (by first | assumption | exact cell_of (hst.get 0 rfl) rfl) ?_)
        | fail)
      go_ret2
      exact ⟨rfl, hst.forget⟩

theorem frame7 : frameD zero8 [7] = [0, 1, 7] ++ dmark zero8 [7] := rfl
set_option maxHeartbeats 2000000 in
set_option maxRecDepth 100000 in
theorem wrote_any (w : World) (hT : Tb w) : Calls Tryd.prog 28 #[] w fun e w' => e = .returned (.bool true) ∧ St w w' [] := by
  have hst := St.refl w
  have HT := Lib.hid hT
  clear hT
  have HRd := Lib.hid (show readD zero8 [] = ([], []) from readD_none rfl)
  have HAd := Lib.hid (fun w (hT : Tb w) (A : Option Addr) h => add_any [] [7] none A 0 0 1 1 w hT (SlR.nil_ w 1) h (by decide) (by decide))
  rw [HRd.out] at HAd
  simp only [lastN, List.nil_append] at HAd
  rw [frame7] at HAd
  have hlm := Lib.hid (length_dmark zero8 [7])
  generalize dmark zero8 [7] = mk at HAd hlm
  have HC1 := Lib.hid (show ((((bytesL ([0, 1, 7] ++ mk)).drop (Int.toNat 1 * 1)).take 1))[0]? = some (.int .u8 1) from rfl)
  have HC2 := Lib.hid (show ((((bytesL ([0, 1, 7] ++ mk)).drop (Int.toNat 2 * 1)).take 1))[0]? = some (.int .u8 7) from rfl)
  generalize bytesL ([0, 1, 7] ++ mk) = bl at HAd HC1 HC2
  go_enter Tryd.func28, Tryd.ntmps28
  go_wp2_with (first
    | (go_at_call 33; (try clear hnew); refine (HAd.out _ (HT.out.of hst) _ (hst.sl 0 rfl)).mono ?_; rintro e Wa (⟨h0, _, _⟩ | ⟨_, O20, c20, rfl, hnew⟩); exact absurd rfl h0; replace hst := hst.trans hnew; simp only [List.cons_append, List.nil_append] at hst)
    | (refine L_load1 (d := some 18) rfl rfl rfl (by rfl) Tryd.underlying5 rfl (hr17 0 _ HC1.out) ?_)
    | (refine L_load1 (d := some 24) rfl rfl rfl (by rfl) Tryd.underlying5 rfl (hr23 0 _ HC2.out) ?_)
    | (refine L_buildS (d := some 4) rfl rfl rfl [_] (bs_1 ev_const) rfl Tryd.underlying49 el_uint8 rfl (by first | (simp [Value.cells]; done) | (simp [Value.cells, Dig.size]; done)) (by decide) (by decide) ?_; (try clear hnew); intro g4 W4 hnew; replace hst := hst.trans hnew; simp only [List.cons_append, List.nil_append] at hst; simp only [List.flatMap_cons, List.flatMap_nil, List.append_nil, Value.cells, List.toList_toArray] at hst)
    | (refine L_idxS (d := some 17) rfl rfl rfl (by rfl) (by rfl) Tryd.underlying49 el_uint8 (by first | assumption | exact hst.sl 0 rfl | exact hst.old (by decide) (by assumption)) (by omega) (by omega) ?_; intro o17 p17 ha17 hr17; (first | subst ha17 | (obtain ⟨h1, h2⟩ := some_addr ha17; subst h1; subst h2; clear ha17) | skip))
    | (refine L_load1 (d := some 18) rfl rfl rfl (by rfl) Tryd.underlying5 rfl (by first | assumption | exact cell_of (hst.get 0 rfl) rfl) ?_)
    | (refine L_idxS (d := some 23) rfl rfl rfl (by rfl) (by rfl) Tryd.underlying49 el_uint8 (by first | assumption | exact hst.sl 0 rfl | exact hst.old (by decide) (by assumption)) (by omega) (by omega) ?_; intro o23 p23 ha23 hr23; (first | subst ha23 | (obtain ⟨h1, h2⟩ := some_addr ha23; subst h1; subst h2; clear ha23) | skip))
    | (refine L_load1 (d := some 24) rfl rfl rfl (by rfl) Tryd.underlying5 rfl (by first | assumption | exact cell_of (hst.get 0 rfl) rfl) ?_)
    | fail)
  go_ret
  exact ⟨rfl, hst.forget⟩
end Go.Proofs.YtkbleigmfcleaaaDoor
