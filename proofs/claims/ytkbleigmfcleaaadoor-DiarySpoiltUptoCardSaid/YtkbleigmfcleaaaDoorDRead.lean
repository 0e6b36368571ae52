/-
  Proved here: the contracts of diary.Read and diary.Add. Condition: lengths that slices may have.
-/
import Derived.Test.YtkbleigmfcleaaaDoorCutter
import Derived.Test.YtkbleigmfcleaaaDoorClone
import Derived.Test.YtkbleigmfcleaaaDoorErr
import Derived.Test.YtkbleigmfcleaaaDoorLawB
import Derived.Deep.DeepCutAuto
import Derived.Deep.RegionWith
set_option maxRecDepth 20000
set_option linter.unusedSimpArgs false
set_option linter.unusedVariables false
namespace Go.Proofs.YtkbleigmfcleaaaDoor
open Go.RowKit

theorem el_S_S_uint8 : ElemIs Tryd.prog 37 (.slice none 0 0) 1 24 := by unfold ElemIs; kernel_rfl
/-- slices of bytes of a call's own -/
def clonesR (ps : List Piece) : List Res := ps.map fun p => .row p.1 p.2.1 p.2.2.1 5 1 (bytesL p.2.2.2)
theorem clonesR_cons (p : Piece) (ps : List Piece) : clonesR (p :: ps) = .row p.1 p.2.1 p.2.2.1 5 1 (bytesL p.2.2.2) :: clonesR ps := rfl
/-- what the records are -/
def recsP (ps : List Piece) : List (List UInt8) := ps.map fun p => p.2.2.2
theorem piecesL_ones (ps : List Piece) : ∀ u ∈ piecesL ps, u.oneCell' = true := by
  intro u hu
  obtain ⟨p, _, rfl⟩ := List.mem_map.1 hu
  rfl
theorem slr_len {W : World} {A : Option Addr} {n c : Nat} {l : List UInt8} (h : SlR W A n c 1 (bytesL l)) : n = l.length := by
  have := h.1
  rw [length_bytesL, Nat.mul_one] at this
  exact this.symm

set_option maxHeartbeats 4000000 in
set_option maxRecDepth 100000 in
theorem read_any (d : List UInt8) (A : Option Addr) (n c : Nat) (w : World) (hT : Tb w) (hd : SlR w A n c 1 (bytesL d)) (hn : n ≤ 16777216) :
    Calls Tryd.prog 30 #[.slice A n c] w fun e w' => ∃ (ps : List Piece) (O : Option Addr) (oc : Nat), e = .returned (.tuple #[.slice O ps.length oc, .int .i64 ((n : Int) - ((readD zero8 d).2.length : Int))]) ∧ recsP ps = (readD zero8 d).1 ∧
      St w w' (.row O ps.length oc 49 1 (piecesL ps) :: clonesR ps.reverse) := by
  have hst := St.refl w
  have HT := Lib.hid hT
  have hdl := Lib.hid (slr_len hd)
  have hnc := hd.2.1
  have hcm := hd.2.2.1
  simp only [maxLen] at hcm
  clear hT
  generalize htot : readD zero8 d = tot
  replace htot := Lib.hid htot
  go_enter Tryd.func30, Tryd.ntmps30
  go_wp2_with (first
    | (go_at_call 56; (try clear hnew); refine (begun_any A n c _).mono ?_; rintro e W9 ⟨g, Z, rfl, hnew⟩; replace hst := hst.trans hnew; simp only [List.cons_append, List.nil_append] at hst)
    | fail)
  clear hnew
  have hst : St w W9 (.blk g 99 (cuArr A n c Z 8) :: .row Z 8 8 5 1 (bytesL zero8) :: .row none 0 0 49 1 (piecesL []) :: clonesR []) := (hst.nilRow 49 1).pick [1, 2, 0] (by decide)
  go_loopg [4] (n + 1) (fun gk s4 wr => ∃ (ps : List Piece) (last rest : List UInt8) (R Lp O : Option Addr) (r rc lc k oc : Nat), Hid (rest.length < gk ∧ rest.length = r ∧ r + 10 * k ≤ n ∧ last.length = 8 ∧ ps.length = k) ∧ Hid (tot = (recsP ps ++ (readD last rest).1, (readD last rest).2)) ∧ Hid (SlR w R r rc 1 (bytesL rest)) ∧
    Hid (∀ W X, St w W (.blk g 99 (cuArr R r rc Lp lc) :: .row Z 8 8 5 1 (bytesL zero8) :: X) → SlR W Lp 8 lc 1 (bytesL last)) ∧ s4 = .slice O k oc ∧
    St w wr (.blk g 99 (cuArr R r rc Lp lc) :: .row Z 8 8 5 1 (bytesL zero8) :: .row O k oc 49 1 (piecesL ps) :: clonesR ps.reverse))
  case atStart => exact ⟨[], zero8, d, A, Z, none, n, c, 8, 0, 0, Lib.hid ⟨by have := hdl.out; omega, hdl.out.symm, by omega, rfl, rfl⟩, Lib.hid (by rw [← htot.out]; rfl), Lib.hid hd, Lib.hid (fun W X h => h.sl 1 rfl), rfl, hst⟩
  case round =>
    clear hst
    obtain ⟨ps, last, rest, R, Lp, O, r, rc, lc, k, oc, HG, HR, HS, HL, rfl, hst⟩ := hrel
    have hrn : r ≤ n := by have := HG.out; omega
    have hk10 : 10 * k ≤ n := by have := HG.out; omega
    cases hx : nextD last rest with
    | none =>
      have HN := Lib.hid (fun W L h => next_none last rest g R Lp r rc lc w W (.row Z 8 8 5 1 (bytesL zero8) :: L) HT.out HS.out (fun W' h' => HL.out W' _ h') HG.out.2.2.2.1 h hx)
      have hr2 := HR.out
      rw [readD_none hx, List.append_nil] at hr2
      go_wp2_with (first
        | (go_at_call 57; (try clear hnew); refine (HN.out _ _ hst).mono ?_; rintro e W12 ⟨rfl, hst'⟩; clear hst; have hst := hst'; clear hst')
        | fail)
      refine wp_region_idx [(0, 0), (1, 0), (2, 0), (3, 0), (4, 0), (5, 0), (6, 0), (7, 0), (8, 0), (9, 2), (10, 2)] (by kernel_rfl) (by kernel_rfl) ?_
      replace hst := hst.drew
      refine idx_q rfl rfl ?_; go_wp2_with fail
      refine idx_q rfl rfl ?_; go_wp2_with fail
      refine idx_q rfl rfl ?_; go_wp2_with fail
      refine idx_q rfl rfl ?_; go_wp2_with fail
      refine idx_q rfl rfl ?_; go_wp2_with fail
      refine idx_qf rfl rfl (by kernel_rfl) ?_; go_wp2_with fail
      refine idx_q rfl rfl ?_; go_wp2_with (first | (refine L_load1 (d := some 23) rfl rfl rfl (by rfl) Tryd.underlying49 rfl (by first | assumption | exact cell_of (hst.get 0 rfl) cuArr_0 | exact cell_of (hst.get 0 rfl) rfl) ?_) | fail)
      refine idx_q rfl rfl ?_; go_wp2_with fail
      refine idx_q rfl rfl ?_; go_wp2_with fail
      refine idx_g rfl ?_; go_wp2_with fail; refine ⟨by first | exact Below.refl _ _ | exact hnew.below, ?_⟩
      refine idx_g rfl ?_; go_wp2_with fail; refine ⟨by first | exact Below.refl _ _ | exact hnew.below, ?_⟩
      refine idx_nil ?_
      go_wp2_with fail
      go_ret2
      obtain ⟨_, g2, _, _, g5⟩ := HG.out
      subst g5
      refine ⟨ps, O, oc, ?_, by rw [hr2], (hst.drop ((List.sublist_cons_self _ _).trans (List.sublist_cons_self _ _)))⟩
      rw [hr2, g2]
      rfl
    | some q =>
      obtain ⟨rec, rest'⟩ := q
      have HN := Lib.hid (fun W L h => next_some last rest rec rest' g R Lp r rc lc w W (.row Z 8 8 5 1 (bytesL zero8) :: L) HT.out HS.out (fun W' h' => HL.out W' _ h') HG.out.2.2.2.1 h hx)
      have hr2 := HR.out
      rw [readD_some hx] at hr2
      have hle := (nextD_some hx).2
      go_wp2_with (first
        | (go_at_call 57; (try clear hnew); refine (HN.out _ _ hst).mono ?_; rintro e W12 ⟨A', n', c', R', r', rc', L', lc', rfl, hrec, hn', hrest, hlast, hst'⟩; clear hst; have hst := hst'; clear hst')
        | (go_at_call 58; (try clear hnew); refine (cloneB_any rec _ _ _ _ (hst.old (by decide) hrec) (by omega)).mono ?_; rintro e Wk1 ⟨A28, c28, rfl, hnew⟩; replace hst := hst.trans hnew; simp only [List.cons_append, List.nil_append] at hst)
        | (refine L_buildS (d := some 29) rfl rfl rfl [_] (bs_1 (ev_tmp rfl)) rfl Tryd.underlying37 el_S_uint8 rfl (by first | (simp [Value.cells]; done) | (simp [Value.cells, Dig.size]; done)) (by decide) (by decide) ?_; (try clear hnew); intro g29 W29 hnew; replace hst := hst.trans hnew; simp only [List.cons_append, List.nil_append] at hst; simp only [List.flatMap_cons, List.flatMap_nil, List.append_nil, Value.cells, List.toList_toArray] at hst)
        | (refine L_appendO (d := some 30) rfl rfl hst rfl (by rfl) (by rfl) Tryd.underlying37 el_S_uint8 rfl (by decide) (by decide) 0 rfl (by first | rfl | omega) (by first | exact hst.sl 0 rfl | exact hst.sl 1 rfl | exact hst.sl 2 rfl | exact hst.sl 3 rfl | exact hst.sl 4 rfl | assumption | exact hst.old (by decide) (by assumption)) (by first | exact oneCell_bytes | (simp [Value.oneCell']; done) | exact piecesL_ones _) (by omega) ?_; clear hst; intro A30 c30 W30 hst; simp only [List.set_cons_zero, List.set_cons_succ, List.nil_append, Nat.zero_add] at hst)
        | (refine L_appendO (d := some 30) rfl rfl hst rfl (by rfl) (by rfl) Tryd.underlying37 el_S_uint8 rfl (by decide) (by decide) 1 rfl (by first | rfl | omega) (by first | exact hst.sl 0 rfl | exact hst.sl 1 rfl | exact hst.sl 2 rfl | exact hst.sl 3 rfl | exact hst.sl 4 rfl | assumption | exact hst.old (by decide) (by assumption)) (by first | exact oneCell_bytes | (simp [Value.oneCell']; done) | exact piecesL_ones _) (by omega) ?_; clear hst; intro A30 c30 W30 hst; simp only [List.set_cons_zero, List.set_cons_succ, List.nil_append, Nat.zero_add] at hst)
        | (refine L_appendO (d := some 30) rfl rfl hst rfl (by rfl) (by rfl) Tryd.underlying37 el_S_uint8 rfl (by decide) (by decide) 2 rfl (by first | rfl | omega) (by first | exact hst.sl 0 rfl | exact hst.sl 1 rfl | exact hst.sl 2 rfl | exact hst.sl 3 rfl | exact hst.sl 4 rfl | assumption | exact hst.old (by decide) (by assumption)) (by first | exact oneCell_bytes | (simp [Value.oneCell']; done) | exact piecesL_ones _) (by omega) ?_; clear hst; intro A30 c30 W30 hst; simp only [List.set_cons_zero, List.set_cons_succ, List.nil_append, Nat.zero_add] at hst)
        | (refine L_appendO (d := some 30) rfl rfl hst rfl (by rfl) (by rfl) Tryd.underlying37 el_S_uint8 rfl (by decide) (by decide) 3 rfl (by first | rfl | omega) (by first | exact hst.sl 0 rfl | exact hst.sl 1 rfl | exact hst.sl 2 rfl | exact hst.sl 3 rfl | exact hst.sl 4 rfl | assumption | exact hst.old (by decide) (by assumption)) (by first | exact oneCell_bytes | (simp [Value.oneCell']; done) | exact piecesL_ones _) (by omega) ?_; clear hst; intro A30 c30 W30 hst; simp only [List.set_cons_zero, List.set_cons_succ, List.nil_append, Nat.zero_add] at hst)
        | (refine L_appendO (d := some 30) rfl rfl hst rfl (by rfl) (by rfl) Tryd.underlying37 el_S_uint8 rfl (by decide) (by decide) 4 rfl (by first | rfl | omega) (by first | exact hst.sl 0 rfl | exact hst.sl 1 rfl | exact hst.sl 2 rfl | exact hst.sl 3 rfl | exact hst.sl 4 rfl | assumption | exact hst.old (by decide) (by assumption)) (by first | exact oneCell_bytes | (simp [Value.oneCell']; done) | exact piecesL_ones _) (by omega) ?_; clear hst; intro A30 c30 W30 hst; simp only [List.set_cons_zero, List.set_cons_succ, List.nil_append, Nat.zero_add] at hst)
        | (refine L_appendF (d := some 30) rfl rfl rfl (by rfl) (by rfl) Tryd.underlying37 el_S_uint8 rfl (by decide) (by assumption) (by first | assumption | exact hst.sl 0 rfl | exact hst.sl 1 rfl | exact hst.sl 2 rfl | exact hst.sl 3 rfl | exact hst.sl 4 rfl | assumption | exact hst.old (by decide) (by assumption)) (by omega) (by omega) (by omega) ?_; (try clear hnew); intro A30 c30 W30 hnew; replace hst := hst.trans hnew; simp only [List.cons_append, List.nil_append] at hst)
        | fail)
      clear hnew
      go_roundg (gk - 1)
      case measure => have := HG.out; omega
      case rel =>
        obtain ⟨g1, g2, g3, g4, g5⟩ := HG.out
        have hl := congrArg List.length hle
        rw [List.length_append, length_frameD] at hl
        have hrl := slr_len hrest
        refine ⟨ps ++ [(A28, n', c28, rec)], dmark last rec, rest', R', L', _, r', rc', lc', k + 1, _, Lib.hid ⟨by omega, hrl.symm, by omega, length_dmark _ _, by rw [List.length_append, g5]; rfl⟩, Lib.hid ?_, Lib.hid hrest, Lib.hid (fun W X h => h.old (by decide) hlast), rfl, ?_⟩
        · rw [hr2]
          simp [recsP]
        · have h1 := hst.tail
          rw [List.reverse_append, List.reverse_singleton, List.singleton_append, clonesR_cons]
          have e : piecesL (ps ++ [(A28, n', c28, rec)]) = piecesL ps ++ [.slice A28 n' c28] := by simp [piecesL, Piece.v]
          rw [e]
          exact h1.perm (List.perm_middle (l₁ := [_, _, _])).symm

theorem add_full (d r : List UInt8) (A B : Option Addr) (n c m k : Nat) (w : World) (hm : 1000 < m) :
    Calls Tryd.prog 33 #[.slice A n c, .slice B m k] w fun e w' => e = .returned (.tuple #[.slice none 0 0, errV 4]) ∧ St w w' [] := by
  have hst := St.refl w
  have h1 : (1000 : Int) < (m : Int) := by omega
  go_enter Tryd.func33, Tryd.ntmps33
  go_wp2_with (first
    | fail)
  go_ret2
  exact ⟨rfl, hst⟩

set_option maxHeartbeats 4000000 in
set_option maxRecDepth 100000 in
theorem add_any (d r : List UInt8) (A B : Option Addr) (n c m k : Nat) (w : World) (hT : Tb w) (hd : SlR w A n c 1 (bytesL d)) (hr : SlR w B m k 1 (bytesL r)) (hn : n ≤ 16777216) (hm : m ≤ 1000) :
    Calls Tryd.prog 33 #[.slice A n c, .slice B m k] w fun e w' => ((readD zero8 d).2 ≠ [] ∧ e = .returned (.tuple #[.slice none 0 0, errV 1]) ∧ St w w' []) ∨
      ((readD zero8 d).2 = [] ∧ ∃ O oc, e = .returned (.tuple #[.slice O (n + m + 10) oc, .nilIface]) ∧ St w w' [.row O (n + m + 10) oc 5 1 (bytesL (d ++ frameD (lastN zero8 (readD zero8 d).1) r))]) := by
  have hst := St.refl w
  have HT := Lib.hid hT
  have hdl := Lib.hid (slr_len hd)
  have hml := Lib.hid (slr_len hr)
  have hnc := hd.2.1
  have hcm := hd.2.2.1
  simp only [maxLen] at hcm
  have t1 : ¬ (1000 : Int) < (m : Int) := by omega
  clear hT
  have hls := Lib.hid (readD_split d.length zero8 d (Nat.le_refl _))
  generalize htot : readD zero8 d = tot at hls ⊢
  replace htot := Lib.hid htot
  go_enter Tryd.func33, Tryd.ntmps33
  go_wp2_with (first
    | (go_at_call 56; (try clear hnew); refine (begun_any A n c _).mono ?_; rintro e W9 ⟨g, Z, rfl, hnew⟩; replace hst := hst.trans hnew; simp only [List.cons_append, List.nil_append] at hst)
    | fail)
  clear hnew
  go_loopg [7] (n + 2) (fun gk s7 wr => ∃ (is : Bool) (rs : List (List UInt8)) (last rest : List UInt8) (R Lp : Option Addr) (r rc lc : Nat), Hid (rest.length + (if is then 1 else 0) < gk ∧ rest.length = r ∧ r ≤ n ∧ last.length = 8 ∧ last = lastN zero8 rs ∧ (is = false → nextD last rest = none)) ∧ Hid (tot = (rs ++ (readD last rest).1, (readD last rest).2)) ∧ Hid (SlR w R r rc 1 (bytesL rest)) ∧
    Hid (∀ W X, St w W (.blk g 99 (cuArr R r rc Lp lc) :: .row Z 8 8 5 1 (bytesL zero8) :: X) → SlR W Lp 8 lc 1 (bytesL last)) ∧ s7 = .bool is ∧
    St w wr [.blk g 99 (cuArr R r rc Lp lc), .row Z 8 8 5 1 (bytesL zero8)])
  case atStart => exact ⟨true, [], zero8, d, A, Z, n, c, 8, Lib.hid ⟨by have := hdl.out; simp; omega, hdl.out.symm, by omega, rfl, rfl, fun h => by cases h⟩, Lib.hid (by rw [← htot.out]; rfl), Lib.hid hd, Lib.hid (fun W X h => h.sl 1 rfl), rfl, hst⟩
  case round =>
    clear hst
    obtain ⟨is, rs, last, rest, R, Lp, r', rc, lc, HG, HR, HS, HL, rfl, hst⟩ := hrel
    have hrn : r' ≤ n := HG.out.2.2.1
    cases is with
    | true =>
      cases hx : nextD last rest with
      | none =>
        have HN := Lib.hid (fun W L h => next_none last rest g R Lp r' rc lc w W (.row Z 8 8 5 1 (bytesL zero8) :: L) HT.out HS.out (fun W' h' => HL.out W' _ h') HG.out.2.2.2.1 h hx)
        go_wp2_with (first
          | (go_at_call 57; (try clear hnew); refine (HN.out _ _ hst).mono ?_; rintro e W12 ⟨rfl, hst'⟩; clear hst; have hst := hst'; clear hst')
          | fail)
        go_roundg (gk - 1)
        case measure => have := HG.out; simp at this; omega
        case rel =>
          obtain ⟨g1, g2, g3, g4, g5, _⟩ := HG.out
          exact ⟨false, rs, last, rest, R, Lp, r', rc, lc, Lib.hid ⟨by simp at g1 ⊢; omega, g2, g3, g4, g5, fun _ => hx⟩, HR, HS, HL, rfl, hst⟩
      | some q =>
        obtain ⟨rec, rest'⟩ := q
        have HN := Lib.hid (fun W L h => next_some last rest rec rest' g R Lp r' rc lc w W (.row Z 8 8 5 1 (bytesL zero8) :: L) HT.out HS.out (fun W' h' => HL.out W' _ h') HG.out.2.2.2.1 h hx)
        have hr2 := HR.out
        rw [readD_some hx] at hr2
        have hle := (nextD_some hx).2
        go_wp2_with (first
          | (go_at_call 57; (try clear hnew); refine (HN.out _ _ hst).mono ?_; rintro e W12 ⟨A', n', c', R', r'', rc', L', lc', rfl, hrec, hn', hrest, hlast, hst'⟩; clear hst; have hst := hst'; clear hst')
          | fail)
        go_roundg (gk - 1)
        case measure => have := HG.out; simp at this; omega
        case rel =>
          obtain ⟨g1, g2, g3, g4, g5, _⟩ := HG.out
          have hl := congrArg List.length hle
          rw [List.length_append, length_frameD] at hl
          have hrl := slr_len hrest
          refine ⟨true, rs ++ [rec], dmark last rec, rest', R', L', r'', rc', lc', Lib.hid ⟨by simp at g1 ⊢; omega, hrl.symm, by omega, length_dmark _ _, by rw [lastN_append, ← g5]; rfl, fun h => by cases h⟩, Lib.hid ?_, Lib.hid hrest, Lib.hid (fun W X h => h.old (by decide) hlast), rfl, hst⟩
          rw [hr2]
          simp
    | false =>
      obtain ⟨g1, g2, g3, g4, g5, g6⟩ := HG.out
      have hx := g6 rfl
      have hr2 := HR.out
      rw [readD_none hx, List.append_nil] at hr2
      clear g1 g6
      by_cases h0 : r' = 0
      · subst h0
        obtain rfl : rest = [] := List.eq_nil_of_length_eq_zero g2
        have t0 : ¬ (0 : Int) < ((0 : Nat) : Int) := by omega
        have HC := Lib.hid (show [Value.int .u8 ((m : Int) / 256), .int .u8 ((m : Int) % 256)] = bytesL [UInt8.ofNat (m / 256), UInt8.ofNat m] by
          simp only [bytesL, List.map_cons, List.map_nil, byteV, UInt8.toNat_ofNat']
          rw [show m / 256 % 2 ^ 8 = m / 256 by omega]
          rfl)
        go_upto_region 7 with (first
          | fail)
        go_upto_region 9 with (first
          | (refine L_load1 (d := some 23) rfl rfl rfl (by rfl) Tryd.underlying49 rfl (by first | assumption | exact cell_of (hst.get 0 rfl) cuArr_0 | exact cell_of (hst.get 0 rfl) rfl) ?_)
          | fail)
        go_wp2_with (first
          | (go_at_call 59; (try clear hnew); simp only [List.cons_append, List.nil_append] at hst; rw [HC.out] at hst; refine (dmark_any last r Lp B 8 lc m k _ (HT.out.of hst) (HL.out _ _ hst.tail) (hst.old (by decide) hr) (by decide) (by omega)).mono ?_; rintro e Wm ⟨gm, rfl, hnew⟩; replace hst := hst.trans hnew; simp only [List.cons_append, List.nil_append] at hst)
          | (go_at_call 50; (try clear hnew); refine (concat4_any d [UInt8.ofNat (m / 256), UInt8.ofNat m] r (dmark last r) _ _ _ _ _ _ _ _ _ _ _ _ _ _ _ (hst.sl 0 rfl) (hst.old (by decide) hd) (hst.sl 2 rfl) (hst.old (by decide) hr) (mark_slr (hst.get 1 rfl)) (by omega)).mono ?_; rintro e Wc ⟨O44, c44, rfl, hnew⟩; replace hst := hst.trans hnew; simp only [List.cons_append, List.nil_append] at hst)
          | (refine L_buildS (d := some 35) rfl rfl rfl [_, _] (bs_2 (ev_tmp rfl) (ev_tmp rfl)) rfl Tryd.underlying49 el_uint8 rfl (by first | (simp [Value.cells]; done) | (simp [Value.cells, Dig.size]; done)) (by decide) (by decide) ?_; (try clear hnew); intro g35 W35 hnew; replace hst := hst.trans hnew; simp only [List.cons_append, List.nil_append] at hst; simp only [List.flatMap_cons, List.flatMap_nil, List.append_nil, Value.cells, List.toList_toArray] at hst)
          | (refine L_load1 (d := some 40) rfl rfl rfl (by rfl) Tryd.underlying49 rfl (by first | assumption | exact cell_of (hst.get 0 rfl) cuArr_1 | exact cell_of (hst.get 0 rfl) rfl | exact cell_of (hst.get 1 rfl) cuArr_1 | exact cell_of (hst.get 1 rfl) rfl | exact cell_of (hst.get 2 rfl) cuArr_1 | exact cell_of (hst.get 2 rfl) rfl) ?_)
          | (refine L_buildS (d := some 43) rfl rfl rfl [_, _, _, _] (bs_4 (ev_tmp rfl) (ev_tmp rfl) (ev_tmp rfl) (ev_tmp rfl)) rfl Tryd.underlying37 el_S_uint8 rfl (by first | (simp [Value.cells]; done) | (simp [Value.cells, Dig.size]; done)) (by decide) (by decide) ?_; (try clear hnew); intro g43 W43 hnew; replace hst := hst.trans hnew; simp only [List.cons_append, List.nil_append] at hst; simp only [List.flatMap_cons, List.flatMap_nil, List.append_nil, Value.cells, List.toList_toArray] at hst)
          | fail)
        go_ret2
        refine .inr ⟨by rw [hr2], O44, c44, by rw [show n + m + 10 = n + 2 + m + 8 by omega]; rfl, ?_⟩
        rw [show n + m + 10 = n + 2 + m + 8 by omega, hr2, ← g5, frameD, ← hml.out]
        exact hst.pick [0] (by decide)
      · have t0 : (0 : Int) < (r' : Int) := by omega
        go_wp2_with (first
          | (refine L_load1 (d := some 23) rfl rfl rfl (by rfl) Tryd.underlying49 rfl (by first | assumption | exact cell_of (hst.get 0 rfl) cuArr_0 | exact cell_of (hst.get 0 rfl) rfl) ?_)
          | fail)
        go_ret2
        exact .inl ⟨fun h => h0 (by rw [← g2, show rest = [] from h]; rfl), rfl, hst.forget⟩
end Go.Proofs.YtkbleigmfcleaaaDoor
