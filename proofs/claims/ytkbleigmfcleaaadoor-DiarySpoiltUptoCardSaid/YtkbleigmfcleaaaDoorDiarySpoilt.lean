/-
  Proved here: the walk of the law DiarySpoilt: it returns true. Condition: records and bytes of a bulk.
-/
import Derived.Test.YtkbleigmfcleaaaDoorDiaryTorn
set_option maxRecDepth 20000
set_option linter.unusedSimpArgs false
set_option linter.unusedVariables false
namespace Go.Proofs.YtkbleigmfcleaaaDoor
open Go.RowKit

theorem rows_more {W : World} {ps : List Piece} {A C : Option Addr} {n c rn rc : Nat} {rec : List UInt8} {ls : List (List UInt8)} (h : SlR W A n c 1 (piecesL ps ++ [.slice C rn rc])) (hp : ∀ p ∈ ps, SlR W p.1 p.2.1 p.2.2.1 1 (bytesL p.2.2.2)) (hr : SlR W C rn rc 1 (bytesL rec)) (he : recsP ps = ls) : RowsAt W A n c (ls ++ [rec]) :=
  ⟨ps ++ [(C, rn, rc, rec)], by rw [piecesL, List.map_append]; exact h, fun p hq => by
    rcases List.mem_append.1 hq with hq | hq
    · exact hp p hq
    · rw [List.mem_singleton.1 hq]; exact hr, by rw [recsP, List.map_append]; exact congrArg (· ++ [rec]) he⟩
theorem endD_ge : ∀ ls : List (List UInt8), 10 * ls.length ≤ endD ls := by
  intro ls
  induction ls with
  | nil => exact Nat.le_refl _
  | cons r ls ih => rw [endD_cons, List.length_cons]; omega
theorem ones_cut (l : List UInt8) (j k : Nat) : ∀ u ∈ ((bytesL l).drop j).take k, u.oneCell' = true := fun u hu => oneCell_bytes u (List.mem_of_mem_drop (List.mem_of_mem_take hu))
theorem pieces_app1 (ps : List Piece) (A : Option Addr) (n c : Nat) (l : List UInt8) : piecesL (ps ++ [(A, n, c, l)]) = piecesL ps ++ [.slice A n c] := by simp [piecesL, Piece.v]

set_option maxHeartbeats 8000000 in
set_option maxRecDepth 100000 in
theorem diarySpoilt_any (w : World) (hT : Tb w) (A : Option Addr) (n c : Nat) (rs : List (List UInt8)) (hx : RowsAt w A n c rs) (hb : endD rs ≤ 11534336) (t : Int) (ht1 : -9223372036854775808 ≤ t) (ht2 : t ≤ 9223372036854775807) (tail : List UInt8) (B : Option Addr) (tn tc : Nat) (htl : SlR w B tn tc 1 (bytesL tail)) (htn : tn ≤ 1048576) (rec : List UInt8) (C : Option Addr) (rn rc : Nat) (hrec : SlR w C rn rc 1 (bytesL rec)) (hrn : rn ≤ 1048576) :
    Calls Tryd.prog 9 #[.slice A n c, .int .i64 t, .slice B tn tc, .slice C rn rc] w fun e w' => e = .returned (.bool true) ∧ St w w' [] := by
  have hst := St.refl w
  have HT := Lib.hid hT
  have HX := Lib.hid hx
  have hnl := hx.len
  have Hnl := Lib.hid hnl.1
  have hnc := hnl.2.1
  have hcm := hnl.2.2
  simp only [maxLen] at hcm
  clear hT hx hnl
  by_cases hs : ∀ r ∈ rs, r.length ≤ 1000
  case neg =>
    obtain ⟨j, hj, hlo, hsh⟩ := first_long rs hs
    have HW := Lib.hid (fun w hT h => written_no rs A n c w hT h (by omega) j hj hlo hsh)
    clear hs hlo hsh hj
    have hb40 : (40 : Int) < (n : Int) ∨ ¬ (40 : Int) < (n : Int) := by omega
    rcases hb40 with k40 | k40
    all_goals
      go_enter Tryd.func9, Tryd.ntmps9
      go_upto_region 1 with (first
        | fail)
      go_upto_region 2 with (first
        | (go_at_call 28; (try clear hnew); refine (wrote_any _ (HT.out.of hst)).mono ?_; rintro e Wk1 ⟨rfl, hnew⟩; replace hst := hst.keep hnew)
        | fail)
      go_upto_region 4 with (first
        | fail)
      go_upto_region 5 with (first
        | (go_at_call 29; (try clear hnew); refine (HW.out _ (HT.out.of hst) (HX.out.old hst)).mono ?_; rintro e Wk2 ⟨rfl, hnew⟩; replace hst := hst.keep hnew)
        | fail)
      go_upto_region 6 with (first
        | (first | (refine L_pickF (d := some 37) rfl rfl rfl (ev_tmp rfl) (ev_tmp rfl) ?_) | (refine L_pickT (d := some 37) rfl rfl rfl (ev_tmp rfl) ev_const ?_))
        | (first | (refine L_pickF (d := some 41) rfl rfl rfl (ev_tmp rfl) (ev_tmp rfl) ?_) | (refine L_pickT (d := some 41) rfl rfl rfl (ev_tmp rfl) ev_const ?_))
        | (first | (refine L_pickF (d := some 47) rfl rfl rfl (ev_tmp rfl) (ev_tmp rfl) ?_) | (refine L_pickT (d := some 47) rfl rfl rfl (ev_tmp rfl) ev_const ?_))
        | (first | (refine L_pickF (d := some 52) rfl rfl rfl (ev_tmp rfl) (ev_tmp rfl) ?_) | (refine L_pickT (d := some 52) rfl rfl rfl (ev_tmp rfl) ev_const ?_))
        | fail)
      go_wp2_with (first
        | fail)
      go_ret
      exact ⟨rfl, hst⟩
  case pos =>
  have HW := Lib.hid (fun w hT h => written_any rs A n c w hT h (by omega) hs)
  by_cases hbad : 40 < n ∨ t < 0 ∨ ((endD rs : Nat) : Int) < t ∨ 1000 < rn
  · have hbb : (40 : Int) < (n : Int) ∨ ¬ (40 : Int) < (n : Int) ∧ t < 0 ∨ ¬ (40 : Int) < (n : Int) ∧ ¬ t < 0 ∧ ((endD rs : Nat) : Int) < t ∨ ¬ (40 : Int) < (n : Int) ∧ ¬ t < 0 ∧ ¬ ((endD rs : Nat) : Int) < t ∧ (1000 : Int) < (rn : Int) := by omega
    generalize endD rs = xn at *
    clear hbad hs
    rcases hbb with k1 | ⟨k1, k2⟩ | ⟨k1, k2, k3⟩ | ⟨k1, k2, k3, k4⟩
    all_goals
      go_enter Tryd.func9, Tryd.ntmps9
      go_upto_region 1 with (first
        | fail)
      go_upto_region 2 with (first
        | (go_at_call 28; (try clear hnew); refine (wrote_any _ (HT.out.of hst)).mono ?_; rintro e Wk3 ⟨rfl, hnew⟩; replace hst := hst.keep hnew)
        | fail)
      go_upto_region 4 with (first
        | fail)
      go_upto_region 5 with (first
        | (go_at_call 29; (try clear hnew); refine (HW.out _ (HT.out.of hst) (HX.out.old hst)).mono ?_; rintro e Wk4 ⟨X, xc, rfl, hnew⟩; replace hst := hst.trans hnew; simp only [List.cons_append, List.nil_append] at hst)
        | fail)
      go_upto_region 6 with (first
        | (first | (refine L_pickF (d := some 37) rfl rfl rfl (ev_tmp rfl) (ev_tmp rfl) ?_) | (refine L_pickT (d := some 37) rfl rfl rfl (ev_tmp rfl) ev_const ?_))
        | (first | (refine L_pickF (d := some 41) rfl rfl rfl (ev_tmp rfl) (ev_tmp rfl) ?_) | (refine L_pickT (d := some 41) rfl rfl rfl (ev_tmp rfl) ev_const ?_))
        | (first | (refine L_pickF (d := some 47) rfl rfl rfl (ev_tmp rfl) (ev_tmp rfl) ?_) | (refine L_pickT (d := some 47) rfl rfl rfl (ev_tmp rfl) ev_const ?_))
        | (first | (refine L_pickF (d := some 52) rfl rfl rfl (ev_tmp rfl) (ev_tmp rfl) ?_) | (refine L_pickT (d := some 52) rfl rfl rfl (ev_tmp rfl) ev_const ?_))
        | fail)
      go_wp2_with (first
        | fail)
      go_ret
      exact ⟨rfl, hst.forget⟩
  · obtain ⟨q, rfl⟩ : ∃ q : Nat, t = (q : Int) := ⟨t.toNat, by omega⟩
    have k1 : ¬ (40 : Int) < (n : Int) := by omega
    have k2 : ¬ (q : Int) < 0 := by omega
    have k3 : ¬ ((endD rs : Nat) : Int) < (q : Int) := by omega
    have k4 : ¬ (1000 : Int) < (rn : Int) := by omega
    have hqx : q ≤ endD rs := by omega
    have hr1000 : rn ≤ 1000 := by omega
    have Htl := Lib.hid (slr_len htl)
    have Hrl := Lib.hid (slr_len hrec)
    obtain ⟨yl, hyl⟩ : ∃ yl, yl = (diaryN zero8 rs).take q ++ tail := ⟨_, rfl⟩
    have hyn : yl.length = q + tn := by rw [hyl, List.length_append, List.length_take, length_diaryN, ← Htl.out]; omega
    obtain ⟨ss, hss⟩ := readD_spoilt rs zero8 tail q (by rw [length_diaryN]; exact hqx) hs
    rw [← hyl] at hss
    obtain ⟨hsp, hsh, _⟩ := readD_split yl.length zero8 yl (Nat.le_refl _)
    have HR1 := Lib.hid (fun w Y yc hT (h : SlR w Y (q + tn) yc 1 (bytesL yl)) => read_any yl Y (q + tn) yc w hT h (by omega))
    obtain ⟨ls, rest, htot⟩ : ∃ ls rest, readD zero8 yl = (ls, rest) := ⟨_, _, rfl⟩
    rw [htot] at hsp hsh HR1 hss
    dsimp only at hsp hsh HR1 hss
    have hmq : q + tn = endD ls + rest.length := by rw [← hyn, hsp, List.length_append, length_diaryN]
    have hmi : ((q + tn : Nat) : Int) - (rest.length : Int) = ((endD ls : Nat) : Int) := by omega
    rw [hmi] at HR1
    have hme : endD ls ≤ q + tn := by omega
    have HYm := Lib.hid (show ((bytesL yl).drop (0 * 1)).take ((endD ls - 0) * 1) = bytesL (diaryN zero8 ls) by
      rw [Nat.zero_mul, List.drop_zero, Nat.sub_zero, Nat.mul_one, hsp, bytesL_append, List.take_left' (by rw [length_bytesL, length_diaryN])])
    have HAd := Lib.hid (fun w M mc hT (h : SlR w M (endD ls) mc 1 (bytesL (diaryN zero8 ls))) h2 => add_any (diaryN zero8 ls) rec M C (endD ls) mc rn rc w hT h h2 (by omega) hr1000)
    rw [readD_of_diary ls hsh] at HAd
    have HR2 := Lib.hid (fun w Z zc hT (h : SlR w Z (endD ls + rn + 10) zc 1 (bytesL (diaryN zero8 ls ++ frameD (lastN zero8 ls) rec))) => read_any (diaryN zero8 ls ++ frameD (lastN zero8 ls) rec) Z (endD ls + rn + 10) zc w hT h (by omega))
    rw [readD_more ls zero8 rec hsh (by rw [← Hrl.out]; exact hr1000)] at HR2
    simp only [List.length_nil, Int.natCast_zero, Int.sub_zero] at HR2
    have HXq := Lib.hid (show ((bytesL (diaryN zero8 rs)).drop (0 * 1)).take ((q - 0) * 1) ++ bytesL tail = bytesL yl by
      rw [Nat.zero_mul, List.drop_zero, Nat.sub_zero, Nat.mul_one, hyl, bytesL_append]; simp [bytesL, List.map_take])
    obtain ⟨wl, we⟩ := wholeN_le rs q
    have HWs := Lib.hid (fun i h => wholeN_take rs i q h)
    have HET := Lib.hid (fun i h => endD_take_succ rs i h)
    have HEL := Lib.hid (fun i => endD_take_le rs i)
    have HSS := Lib.hid hss
    have HRb := Lib.hid (show 10 * ls.length ≤ endD ls from endD_ge ls)
    have hm16 : endD ls ≤ 12582912 := by omega
    clear htot hsp hsh hmq hmi hyl hyn hbad hs hss
    generalize hwh : wholeN rs q = wh at *
    generalize diaryN zero8 ls ++ frameD (lastN zero8 ls) rec = zl at HAd HR2
    generalize diaryN zero8 ls = dl at HYm HAd
    generalize endD ls = m at *
    generalize diaryN zero8 rs = xl at HW HXq
    go_enter Tryd.func9, Tryd.ntmps9
    go_upto_region 1 with (first
      | fail)
    go_upto_region 2 with (first
      | (go_at_call 28; (try clear hnew); refine (wrote_any _ (HT.out.of hst)).mono ?_; rintro e Wk5 ⟨rfl, hnew⟩; replace hst := hst.keep hnew)
      | fail)
    go_upto_region 4 with (first
      | fail)
    go_upto_region 5 with (first
      | (go_at_call 29; (try clear hnew); refine (HW.out _ (HT.out.of hst) (HX.out.old hst)).mono ?_; rintro e Wk6 ⟨X, xc, rfl, hnew⟩; replace hst := hst.trans hnew; simp only [List.cons_append, List.nil_append] at hst)
      | fail)
    go_upto_region 7 with (first
      | (first | (refine L_pickF (d := some 37) rfl rfl rfl (ev_tmp rfl) (ev_tmp rfl) ?_) | (refine L_pickT (d := some 37) rfl rfl rfl (ev_tmp rfl) ev_const ?_))
      | (first | (refine L_pickF (d := some 41) rfl rfl rfl (ev_tmp rfl) (ev_tmp rfl) ?_) | (refine L_pickT (d := some 41) rfl rfl rfl (ev_tmp rfl) ev_const ?_))
      | (first | (refine L_pickF (d := some 47) rfl rfl rfl (ev_tmp rfl) (ev_tmp rfl) ?_) | (refine L_pickT (d := some 47) rfl rfl rfl (ev_tmp rfl) ev_const ?_))
      | (first | (refine L_pickF (d := some 52) rfl rfl rfl (ev_tmp rfl) (ev_tmp rfl) ?_) | (refine L_pickT (d := some 52) rfl rfl rfl (ev_tmp rfl) ev_const ?_))
      | fail)
    (try clear hnew)
    have hxs := hst.sl 0 rfl
    have hxc := hxs.2.1
    have hxm := hxs.2.2.1
    simp only [maxLen] at hxm
    go_upto_region 8 with (first
      | (refine L_buildS (d := some 53) rfl rfl rfl [] (bs_0 ) rfl Tryd.underlying49 el_uint8 rfl (by first | (simp [Value.cells]; done) | (simp [Value.cells, Dig.size]; done)) (by decide) (by decide) ?_; (try clear hnew); intro g53 W53 hnew; replace hst := hst.trans hnew; simp only [List.cons_append, List.nil_append] at hst; simp only [List.flatMap_cons, List.flatMap_nil, List.append_nil, Value.cells, List.toList_toArray] at hst)
      | (first | (refine L_cutS (d := some 56) rfl rfl rfl (by rfl) Tryd.underlying49 el_uint8 (by decide) (by first | exact hst.old (by decide) htl | exact hnew.old (by decide) hxs | assumption | exact hst.old (by decide) (by assumption) | exact hst.sl 0 rfl | exact hst.sl 1 rfl) 0 q _ (Or.inl ⟨rfl, rfl⟩) (Or.inr ⟨_, _, rfl, by first | exact ev_tmp rfl | (rw [ev_tmp rfl]; congr 1; omega)⟩) (Or.inl ⟨rfl, rfl⟩) (by omega) (by omega) (by omega) (by omega) ?_; intro A56 c56 hs56))
      | (refine L_appendO (d := some 57) rfl rfl hst rfl (by rfl) (by rfl) Tryd.underlying49 el_uint8 rfl (by decide) (by decide) 0 rfl (by first | rfl | omega) (by first | exact hst.old (by decide) htl | exact hnew.old (by decide) hxs | exact hst.sl 0 rfl | exact hst.sl 1 rfl | assumption | exact hst.old (by decide) (by assumption)) (by first | exact oneCell_bytes | (simp [Value.oneCell']; done) | exact ones_cut _ _ _) (by omega) ?_; clear hst; intro A57 c57 W57 hst; simp only [List.set_cons_zero, List.set_cons_succ, List.nil_append, Nat.zero_add] at hst)
      | (refine L_appendO (d := some 57) rfl rfl hst rfl (by rfl) (by rfl) Tryd.underlying49 el_uint8 rfl (by decide) (by decide) 1 rfl (by first | rfl | omega) (by first | exact hst.old (by decide) htl | exact hnew.old (by decide) hxs | exact hst.sl 0 rfl | exact hst.sl 1 rfl | assumption | exact hst.old (by decide) (by assumption)) (by first | exact oneCell_bytes | (simp [Value.oneCell']; done) | exact ones_cut _ _ _) (by omega) ?_; clear hst; intro A57 c57 W57 hst; simp only [List.set_cons_zero, List.set_cons_succ, List.nil_append, Nat.zero_add] at hst)
      | (refine L_appendF (d := some 57) rfl rfl rfl (by rfl) (by rfl) Tryd.underlying49 el_uint8 rfl (by decide) (by assumption) (by first | assumption | exact hst.old (by decide) htl | exact hnew.old (by decide) hxs | exact hst.sl 0 rfl | exact hst.sl 1 rfl | assumption | exact hst.old (by decide) (by assumption)) (by omega) (by omega) (by omega) ?_; (try clear hnew); intro A57 c57 W57 hnew; replace hst := hst.trans hnew; simp only [List.cons_append, List.nil_append] at hst)
      | fail)
    go_upto_region 9 with (first
      | (refine L_appendO (d := some 60) rfl rfl hst rfl (by rfl) (by rfl) Tryd.underlying49 el_uint8 rfl (by decide) (by decide) 0 rfl (by first | rfl | omega) (by first | exact hst.old (by decide) htl | exact hnew.old (by decide) hxs | exact hst.sl 0 rfl | exact hst.sl 1 rfl | assumption | exact hst.old (by decide) (by assumption)) (by first | exact oneCell_bytes | (simp [Value.oneCell']; done) | exact ones_cut _ _ _) (by omega) ?_; clear hst; intro A60 c60 W60 hst; simp only [List.set_cons_zero, List.set_cons_succ, List.nil_append, Nat.zero_add] at hst)
      | (refine L_appendO (d := some 60) rfl rfl hst rfl (by rfl) (by rfl) Tryd.underlying49 el_uint8 rfl (by decide) (by decide) 1 rfl (by first | rfl | omega) (by first | exact hst.old (by decide) htl | exact hnew.old (by decide) hxs | exact hst.sl 0 rfl | exact hst.sl 1 rfl | assumption | exact hst.old (by decide) (by assumption)) (by first | exact oneCell_bytes | (simp [Value.oneCell']; done) | exact ones_cut _ _ _) (by omega) ?_; clear hst; intro A60 c60 W60 hst; simp only [List.set_cons_zero, List.set_cons_succ, List.nil_append, Nat.zero_add] at hst)
      | (refine L_appendF (d := some 60) rfl rfl rfl (by rfl) (by rfl) Tryd.underlying49 el_uint8 rfl (by decide) (by assumption) (by first | assumption | exact hst.old (by decide) htl | exact hnew.old (by decide) hxs | exact hst.sl 0 rfl | exact hst.sl 1 rfl | assumption | exact hst.old (by decide) (by assumption)) (by omega) (by omega) (by omega) ?_; (try clear hnew); intro A60 c60 W60 hnew; replace hst := hst.trans hnew; simp only [List.cons_append, List.nil_append] at hst)
      | fail)
    have hst : St w W60 [.row A60 (q + tn) c60 5 1 (bytesL yl)] := by
      have := hst.pick [0] (by decide)
      rw [← HXq.out]
      exact this
    have hys := hst.sl 0 rfl
    have hyc := hys.2.1
    have hym := hys.2.2.1
    simp only [maxLen] at hym
    clear hxs hxc hxm hys HXq HW k1 k2 k3 k4
    go_upto_region 10 with (first
      | (go_at_call 30; (try clear hnew); refine (HR1.out _ _ _ (HT.out.of hst) (hst.sl 0 rfl)).mono ?_; rintro e Wr ⟨ps, O, oc, rfl, hps, hnew⟩; replace hst := hst.trans hnew)
      | fail)
    go_upto_region 11 with (first
      | fail)
    go_wp2_with (first
      | fail)
    (try clear hnew)
    obtain ⟨r, hr⟩ : ∃ r, ls.length = r := ⟨_, rfl⟩
    have hpl : ps.length = r := by rw [← hr, ← hps, recsP, List.length_map]
    have Hlr := Lib.hid hr
    have Hps := Lib.hid hps
    obtain ⟨LL, hLL⟩ : ∃ LL, LL = (.row O ps.length oc 49 1 (piecesL ps) :: clonesR ps.reverse ++ [.row A60 (q + tn) c60 5 1 (bytesL yl)] : List Res) := ⟨_, rfl⟩
    have HGr := Lib.hid (fun W (h : St w W LL) => (show SlR W O ps.length oc 1 (piecesL ps) from h.slm (e := 49) (by rw [hLL]; exact List.mem_append_left _ (List.mem_cons_self ..))))
    have HGp := Lib.hid (fun W (h : St w W LL) => (show ∀ p ∈ ps, SlR W p.1 p.2.1 p.2.2.1 1 (bytesL p.2.2.2) from fun p hp => h.slm (e := 5) (by rw [hLL]; exact List.mem_append_left _ (List.mem_cons_of_mem _ (List.mem_map.2 ⟨p, List.mem_reverse.2 hp, rfl⟩)))))
    have HY := Lib.hid (fun W (h : St w W LL) => (show SlR W A60 (q + tn) c60 1 (bytesL yl) from h.slm (e := 5) (by rw [hLL]; exact List.mem_append_right _ (List.mem_singleton.2 rfl))))
    rw [← hLL] at hst
    rw [hpl] at HGr ⊢
    clear hLL hps hr
    have Hpr := Lib.hid hpl
    obtain ⟨qs, hq1, hq2, hq3⟩ := HX.out.ex
    have Hq2 := Lib.hid hq2
    have Hq3 := Lib.hid hq3
    have Hql := Lib.hid (show qs.length = n by have := hq1.1; simp only [piecesL, List.length_map, Nat.mul_one] at this; exact this)
    have hwr : wh ≤ r := by
      have := congrArg List.length HSS.out
      rw [Hlr.out, List.length_append, List.length_take] at this
      omega
    have hrb : r ≤ 2000000 := by
      have h1 := HGr.out _ hst
      have := h1.2.1
      have h2 := HRb.out
      rw [Hlr.out] at h2
      omega
    clear hq2 hq3 HX HR1 hwh hpl
    go_loopg [15, 16] n (fun gk s15 s16 wr => ∃ (i k : Nat), Hid (i + gk = n ∧ i ≤ wh) ∧ Hid (endD (rs.take i) = k) ∧ k ≤ q ∧ s15 = .int .i64 (k : Int) ∧ s16 = .int .i64 (i : Int) ∧ St w wr LL)
    case atStart => exact ⟨0, 0, Lib.hid ⟨by omega, by omega⟩, Lib.hid rfl, by omega, rfl, rfl, hst⟩
    case round =>
      clear hst
      obtain ⟨i, k, HI, HK, hkq, rfl, rfl, hst⟩ := hrel
      have hi := HI.out.1
      by_cases hin : i < n
      · clear hi
        have hip := Lib.hid (show i < qs.length by rw [Hql.out]; exact hin)
        have hir := Lib.hid (show i < rs.length by rw [Hnl.out]; exact hin)
        have HC := Lib.hid (fun (W : World) (g off : Nat) h => piece_at (W := W) (g := g) (off := off) (i := i) (ps := qs) h hip.out)
        have HP := Hq2.out (qs[i]'hip.out) (List.getElem_mem hip.out)
        have heq : (qs[i]'hip.out).2.2.2 = rs[i]'hir.out := by
          have := congrArg (fun l => l[i]?) Hq3.out
          simpa [recsP, hip.out, hir.out] using this
        have hws := HWs.out i hir.out (by rw [HK.out]; exact hkq) HI.out.2
        have het := HET.out i hir.out
        have hel := HEL.out (i + 1)
        rw [HK.out] at hws het
        rw [← heq] at hws het
        have hgq : ∃ p : Piece, Hid (p = qs[i]'hip.out) := ⟨_, Lib.hid rfl⟩
        obtain ⟨p, hgq⟩ := hgq
        rw [← hgq.out] at HC HP heq hws het
        obtain ⟨PA, pn, pc, pl⟩ := p
        dsimp only at HC HP heq hws het
        have hpl := slr_len HP
        rw [← hpl] at hws het
        have hsz : k + pn + 10 ≤ 16777216 := by omega
        have Het := Lib.hid het
        replace heq := Lib.hid heq
        clear het hel hpl
        by_cases hf : k + pn + 10 ≤ q
        · have h1 := hws.1 hf
          have h1 := Lib.hid h1
          have kf : ¬ (q : Int) < (k : Int) + (2 + (pn : Int) + 8) := by omega
          have hir2 : i < r := by have := h1.out; omega
          have kg : ¬ (r : Int) ≤ (i : Int) := by omega
          have hgi := Lib.hid (show i < ps.length by rw [Hpr.out]; exact hir2)
          have HG := Lib.hid (fun (W : World) (g off : Nat) h => piece_at (W := W) (g := g) (off := off) (i := i) (ps := ps) h hgi.out)
          have heg : (ps[i]'hgi.out).2.2.2 = pl := by
            have h2 := congrArg (fun l => l[i]?) Hps.out
            have h3 : ls[i]? = some (rs[i]'hir.out) := by
              have hlt : i < wh := by have := h1.out; omega
              rw [HSS.out, List.getElem?_append_left (by rw [List.length_take]; have := hir.out; omega), List.getElem?_take, if_pos hlt, List.getElem?_eq_getElem hir.out]
            simp only [recsP, List.getElem?_map, List.getElem?_eq_getElem hgi.out, Option.map_some] at h2
            rw [h3] at h2
            rw [heq.out]
            exact Option.some.inj h2
          have HGP := Lib.hid (fun W (h : St w W LL) => HGp.out W h (ps[i]'hgi.out) (List.getElem_mem hgi.out))
          generalize ps[i]'hgi.out = g at HG HGP heg
          obtain ⟨GA, gn, gc, gl⟩ := g
          dsimp only at HG HGP heg
          subst heg
          have HB := Lib.hid (fun w h1 h2 => sameB_any gl gl GA PA gn gc pn pc w h1 h2)
          rw [show (gl == gl) = true by simp] at HB
          clear hws
          go_wp2_with (first
            | (refine L_load1 (d := some 76) rfl rfl rfl (by rfl) Tryd.underlying49 rfl (HC.out _ _ _ hr75) ?_)
            | (refine L_idxS (d := some 75) rfl rfl rfl (by rfl) (by rfl) Tryd.underlying37 el_S_uint8 (by first | exact hst.old (by decide) hq1 | assumption | exact hst.sl 0 rfl | exact hst.old (by decide) (by assumption)) (by omega) (by omega) ?_; intro o75 p75 ha75 hr75; (first | subst ha75 | (obtain ⟨h1, h2⟩ := some_addr ha75; subst h1; subst h2; clear ha75) | skip))
            | (refine L_load1 (d := some 76) rfl rfl rfl (by rfl) Tryd.underlying49 rfl (by first | assumption | exact cell_of (hst.get 0 rfl) rfl) ?_)
            | fail)
          refine wp_region_idx [(0, 0), (1, 0), (2, 0), (3, 0), (4, 0), (5, 2), (6, 2), (7, 2), (8, 2), (9, 2)] (by kernel_rfl) (by kernel_rfl) ?_
          replace hst := hst.drew
          refine idx_q rfl rfl ?_; go_wp2_with fail
          refine idx_q rfl rfl ?_; go_wp2_with fail
          refine idx_q rfl rfl ?_; go_wp2_with (first | (refine L_idxS (d := some 90) rfl rfl rfl (by rfl) (by rfl) Tryd.underlying37 el_S_uint8 (by first | exact hst.old (by decide) hq1 | exact HGr.out _ hst | assumption | exact hst.sl 0 rfl | exact hst.old (by decide) (by assumption)) (by omega) (by omega) ?_; intro o90 p90 ha90 hr90; (first | subst ha90 | (obtain ⟨h1, h2⟩ := some_addr ha90; subst h1; subst h2; clear ha90) | skip)) | fail)
          refine idx_q rfl rfl ?_; go_wp2_with (first | (refine L_load1 (d := some 91) rfl rfl rfl (by rfl) Tryd.underlying49 rfl (HG.out _ _ _ hr90) ?_) | (refine L_load1 (d := some 91) rfl rfl rfl (by rfl) Tryd.underlying49 rfl (by first | assumption | exact cell_of (hst.get 0 rfl) rfl) ?_) | fail)
          refine idx_q rfl rfl ?_; go_wp2_with fail
          refine idx_g rfl ?_; go_wp2_with fail; refine ⟨by first | exact Below.refl _ _ | exact hnew.below, ?_⟩
          refine idx_g rfl ?_; go_wp2_with (first | (refine L_idxS (d := some 94) rfl rfl rfl (by rfl) (by rfl) Tryd.underlying37 el_S_uint8 (by first | exact hst.old (by decide) hq1 | exact HGr.out _ hst | assumption | exact hst.sl 0 rfl | exact hst.old (by decide) (by assumption)) (by omega) (by omega) ?_; intro o94 p94 ha94 hr94; (first | subst ha94 | (obtain ⟨h1, h2⟩ := some_addr ha94; subst h1; subst h2; clear ha94) | skip)) | fail); refine ⟨by first | exact Below.refl _ _ | exact hnew.below, ?_⟩
          refine idx_g rfl ?_; go_wp2_with (first | (refine L_load1 (d := some 95) rfl rfl rfl (by rfl) Tryd.underlying49 rfl (HC.out _ _ _ hr94) ?_) | (refine L_load1 (d := some 95) rfl rfl rfl (by rfl) Tryd.underlying49 rfl (by first | assumption | exact cell_of (hst.get 0 rfl) rfl) ?_) | fail); refine ⟨by first | exact Below.refl _ _ | exact hnew.below, ?_⟩
          refine idx_g rfl ?_; go_wp2_with (first | (refine L_load1 (d := some 91) rfl rfl rfl (by rfl) Tryd.underlying49 rfl (HG.out _ _ _ hr90) ?_) | (refine L_load1 (d := some 95) rfl rfl rfl (by rfl) Tryd.underlying49 rfl (HC.out _ _ _ hr94) ?_) | (go_at_call 32; (try clear hnew); refine (HB.out _ (HGP.out _ hst) (hst.old (by decide) HP)).mono ?_; rintro e Wk7 ⟨rfl, hnew⟩; replace hst := hst.keep hnew) | fail); refine ⟨by first | exact Below.refl _ _ | exact hnew.below, ?_⟩
          refine idx_g rfl ?_; go_wp2_with fail; refine ⟨by first | exact Below.refl _ _ | exact hnew.below, ?_⟩
          refine idx_nil ?_
          clear hnew
          go_wp2_with (first
            | fail)
          go_roundg (gk - 1)
          case measure => have hi := HI.out.1; omega
          case rel =>
            have hi := HI.out.1
            exact ⟨i + 1, k + pn + 10, Lib.hid ⟨by omega, h1.out⟩, Lib.hid Het.out, hf, by go_num, by go_num, hst⟩
        · have kf : (q : Int) < (k : Int) + (2 + (pn : Int) + 8) := by omega
          have km : ¬ (m : Int) < 0 := by omega
          have kn : ¬ ((q + tn : Nat) : Int) < (m : Int) := by omega
          clear hws
          go_upto_region 14 with (first
            | fail)
          go_upto_region 15 with (first
            | (refine L_load1 (d := some 76) rfl rfl rfl (by rfl) Tryd.underlying49 rfl (HC.out _ _ _ hr75) ?_)
            | (refine L_idxS (d := some 75) rfl rfl rfl (by rfl) (by rfl) Tryd.underlying37 el_S_uint8 (by first | exact hst.old (by decide) hq1 | assumption | exact hst.sl 0 rfl | exact hst.old (by decide) (by assumption)) (by omega) (by omega) ?_; intro o75 p75 ha75 hr75; (first | subst ha75 | (obtain ⟨h1, h2⟩ := some_addr ha75; subst h1; subst h2; clear ha75) | skip))
            | (refine L_load1 (d := some 76) rfl rfl rfl (by rfl) Tryd.underlying49 rfl (by first | assumption | exact cell_of (hst.get 0 rfl) rfl) ?_)
            | fail)
          go_upto_region 21 with (first
            | fail)
          go_upto_region 23 with (first
            | (first | (refine L_pickF (d := some 106) rfl rfl rfl (ev_tmp rfl) (ev_tmp rfl) ?_) | (refine L_pickT (d := some 106) rfl rfl rfl (ev_tmp rfl) ev_const ?_))
            | fail)
          go_upto_region 24 with (first
            | (go_at_call 33; (try clear hnew); refine (HAd.out _ _ _ (HT.out.of hst) (by rw [← HYm.out]; exact hs110) (hst.old (by decide) hrec)).mono ?_; rintro e Wa (⟨h0, _, _⟩ | ⟨_, Z, zc, rfl, hnew⟩); exact absurd rfl h0; replace hst := hst.trans hnew)
            | (first | (refine L_cutS (d := some 110) rfl rfl rfl (by rfl) Tryd.underlying49 el_uint8 (by decide) (by first | exact HY.out _ hst | assumption | exact hst.old (by decide) (by assumption) | exact hst.sl 0 rfl) 0 m _ (Or.inl ⟨rfl, rfl⟩) (Or.inr ⟨_, _, rfl, by first | exact ev_tmp rfl | (rw [ev_tmp rfl]; congr 1; omega)⟩) (Or.inl ⟨rfl, rfl⟩) (by omega) (by omega) (by omega) (by omega) ?_; intro A110 c110 hs110))
            | fail)
          (try clear hnew)
          go_upto_region 25 with (first
            | (go_at_call 30; (try clear hnew); refine (HR2.out _ _ _ (HT.out.of hst) (hst.sl 0 rfl)).mono ?_; rintro e Wr ⟨ps3, O3, oc3, rfl, hps3, hnew⟩; replace hst := hst.trans hnew)
            | fail)
          (try clear hnew)
          have hpl3 : ps3.length = r + 1 := by
            have := congrArg List.length hps3
            rw [recsP, List.length_map, List.length_append, Hlr.out] at this
            exact this
          obtain ⟨L3, hL3⟩ : ∃ L3, L3 = (.row O3 ps3.length oc3 49 1 (piecesL ps3) :: clonesR ps3.reverse ++ ([.row Z (m + rn + 10) zc 5 1 (bytesL zl)] ++ LL) : List Res) := ⟨_, rfl⟩
          have HRow3 := Lib.hid (fun W (h : St w W L3) => (show RowsAt W O3 ps3.length oc3 (ls ++ [rec]) by
            have := RowsAt.read (ps := ps3) (O := O3) (k := ps3.length) (oc := oc3) h (by rw [hL3]; exact List.mem_append_left _ (List.mem_cons_self ..)) (fun r hr => by rw [hL3]; exact List.mem_append_left _ (List.mem_cons_of_mem _ hr))
            rwa [hps3] at this))
          have HGs := Lib.hid (fun W (h : St w W L3) => (show SlR W O r oc 1 (piecesL ps) from HGr.out W (h.drop (by rw [hL3]; exact (List.sublist_append_right _ _).trans (List.sublist_append_right _ _)))))
          have HGe := Lib.hid (fun W (h : St w W L3) => HGp.out W (h.drop (by rw [hL3]; exact (List.sublist_append_right _ _).trans (List.sublist_append_right _ _))))
          have hst : St w Wr L3 := by rw [hL3]; exact hst
          rw [hpl3] at HRow3 ⊢
          clear hL3 hps3 hpl3
          go_upto_region 26 with (first
            | (go_at_call 31; (try clear hnew); refine (sameRows_any (ls ++ [rec]) _ _ _ _ _ _ (HRow3.out _ (hst.tailN 2)) (rows_more (hst.sl 1 rfl) (HGe.out _ (hst.tailN 2)) (hst.old (by decide) hrec) Hps.out)).mono ?_; rintro e We ⟨rfl, hnew⟩; replace hst := hst.keep hnew)
            | (refine L_buildS (d := some 121) rfl rfl rfl [] (bs_0 ) rfl Tryd.underlying37 el_S_uint8 rfl (by first | (simp [Value.cells]; done) | (simp [Value.cells, Dig.size]; done)) (by decide) (by decide) ?_; (try clear hnew); intro g121 W121 hnew; replace hst := hst.trans hnew; simp only [List.cons_append, List.nil_append] at hst; simp only [List.flatMap_cons, List.flatMap_nil, List.append_nil, Value.cells, List.toList_toArray] at hst)
            | (refine L_appendO (d := some 123) rfl rfl hst rfl (by rfl) (by rfl) Tryd.underlying37 el_S_uint8 rfl (by decide) (by decide) 0 rfl (by first | rfl | omega) (by first | exact HGs.out _ (hst.tailN 1) | exact hst.sl 0 rfl | exact hst.sl 1 rfl | assumption | exact hst.old (by decide) (by assumption)) (by first | exact oneCell_bytes | (simp [Value.oneCell']; done) | exact piecesL_ones _) (by omega) ?_; clear hst; intro A123 c123 W123 hst; simp only [List.set_cons_zero, List.set_cons_succ, List.nil_append, Nat.zero_add] at hst)
            | (refine L_appendO (d := some 123) rfl rfl hst rfl (by rfl) (by rfl) Tryd.underlying37 el_S_uint8 rfl (by decide) (by decide) 1 rfl (by first | rfl | omega) (by first | exact HGs.out _ (hst.tailN 1) | exact hst.sl 0 rfl | exact hst.sl 1 rfl | assumption | exact hst.old (by decide) (by assumption)) (by first | exact oneCell_bytes | (simp [Value.oneCell']; done) | exact piecesL_ones _) (by omega) ?_; clear hst; intro A123 c123 W123 hst; simp only [List.set_cons_zero, List.set_cons_succ, List.nil_append, Nat.zero_add] at hst)
            | (refine L_appendF (d := some 123) rfl rfl rfl (by rfl) (by rfl) Tryd.underlying37 el_S_uint8 rfl (by decide) (by assumption) (by first | assumption | exact HGs.out _ (hst.tailN 1) | exact hst.sl 0 rfl | exact hst.sl 1 rfl | assumption | exact hst.old (by decide) (by assumption)) (by omega) (by omega) (by omega) ?_; (try clear hnew); intro A123 c123 W123 hnew; replace hst := hst.trans hnew; simp only [List.cons_append, List.nil_append] at hst)
            | (refine L_buildS (d := some 125) rfl rfl rfl [_] (bs_1 (ev_tmp rfl)) rfl Tryd.underlying37 el_S_uint8 rfl (by first | (simp [Value.cells]; done) | (simp [Value.cells, Dig.size]; done)) (by decide) (by decide) ?_; (try clear hnew); intro g125 W125 hnew; replace hst := hst.trans hnew; simp only [List.cons_append, List.nil_append] at hst; simp only [List.flatMap_cons, List.flatMap_nil, List.append_nil, Value.cells, List.toList_toArray] at hst)
            | (refine L_appendO (d := some 126) rfl rfl hst rfl (by rfl) (by rfl) Tryd.underlying37 el_S_uint8 rfl (by decide) (by decide) 0 rfl (by first | rfl | omega) (by first | exact HGs.out _ (hst.tailN 1) | exact hst.sl 0 rfl | exact hst.sl 1 rfl | assumption | exact hst.old (by decide) (by assumption)) (by first | exact oneCell_bytes | (simp [Value.oneCell']; done) | exact piecesL_ones _) (by omega) ?_; clear hst; intro A126 c126 W126 hst; simp only [List.set_cons_zero, List.set_cons_succ, List.nil_append, Nat.zero_add] at hst)
            | (refine L_appendO (d := some 126) rfl rfl hst rfl (by rfl) (by rfl) Tryd.underlying37 el_S_uint8 rfl (by decide) (by decide) 1 rfl (by first | rfl | omega) (by first | exact HGs.out _ (hst.tailN 1) | exact hst.sl 0 rfl | exact hst.sl 1 rfl | assumption | exact hst.old (by decide) (by assumption)) (by first | exact oneCell_bytes | (simp [Value.oneCell']; done) | exact piecesL_ones _) (by omega) ?_; clear hst; intro A126 c126 W126 hst; simp only [List.set_cons_zero, List.set_cons_succ, List.nil_append, Nat.zero_add] at hst)
            | (refine L_appendF (d := some 126) rfl rfl rfl (by rfl) (by rfl) Tryd.underlying37 el_S_uint8 rfl (by decide) (by assumption) (by first | assumption | exact HGs.out _ (hst.tailN 1) | exact hst.sl 0 rfl | exact hst.sl 1 rfl | assumption | exact hst.old (by decide) (by assumption)) (by omega) (by omega) (by omega) ?_; (try clear hnew); intro A126 c126 W126 hnew; replace hst := hst.trans hnew; simp only [List.cons_append, List.nil_append] at hst)
            | fail)
          (try clear hnew)
          go_wp2_with (first
            | (first | (refine L_pickF (d := some 132) rfl rfl rfl (ev_tmp rfl) ev_const ?_) | (refine L_pickT (d := some 132) rfl rfl rfl (ev_tmp rfl) (ev_tmp rfl) ?_))
            | (first | (refine L_pickF (d := some 138) rfl rfl rfl (ev_tmp rfl) ev_const ?_) | (refine L_pickT (d := some 138) rfl rfl rfl (ev_tmp rfl) (ev_tmp rfl) ?_))
            | fail)
          go_ret
          exact ⟨rfl, hst.forget⟩
      · obtain rfl : i = n := by omega
        have km : ¬ (m : Int) < 0 := by omega
        have kn : ¬ ((q + tn : Nat) : Int) < (m : Int) := by omega
        go_upto_region 21 with (first
          | fail)
        go_upto_region 23 with (first
          | (first | (refine L_pickF (d := some 106) rfl rfl rfl (ev_tmp rfl) (ev_tmp rfl) ?_) | (refine L_pickT (d := some 106) rfl rfl rfl (ev_tmp rfl) ev_const ?_))
          | fail)
        go_upto_region 24 with (first
          | (go_at_call 33; (try clear hnew); refine (HAd.out _ _ _ (HT.out.of hst) (by rw [← HYm.out]; exact hs110) (hst.old (by decide) hrec)).mono ?_; rintro e Wa (⟨h0, _, _⟩ | ⟨_, Z, zc, rfl, hnew⟩); exact absurd rfl h0; replace hst := hst.trans hnew)
          | (first | (refine L_cutS (d := some 110) rfl rfl rfl (by rfl) Tryd.underlying49 el_uint8 (by decide) (by first | exact HY.out _ hst | assumption | exact hst.old (by decide) (by assumption) | exact hst.sl 0 rfl) 0 m _ (Or.inl ⟨rfl, rfl⟩) (Or.inr ⟨_, _, rfl, by first | exact ev_tmp rfl | (rw [ev_tmp rfl]; congr 1; omega)⟩) (Or.inl ⟨rfl, rfl⟩) (by omega) (by omega) (by omega) (by omega) ?_; intro A110 c110 hs110))
          | fail)
        (try clear hnew)
        go_upto_region 25 with (first
          | (go_at_call 30; (try clear hnew); refine (HR2.out _ _ _ (HT.out.of hst) (hst.sl 0 rfl)).mono ?_; rintro e Wr ⟨ps3, O3, oc3, rfl, hps3, hnew⟩; replace hst := hst.trans hnew)
          | fail)
        (try clear hnew)
        have hpl3 : ps3.length = r + 1 := by
          have := congrArg List.length hps3
          rw [recsP, List.length_map, List.length_append, Hlr.out] at this
          exact this
        obtain ⟨L3, hL3⟩ : ∃ L3, L3 = (.row O3 ps3.length oc3 49 1 (piecesL ps3) :: clonesR ps3.reverse ++ ([.row Z (m + rn + 10) zc 5 1 (bytesL zl)] ++ LL) : List Res) := ⟨_, rfl⟩
        have HRow3 := Lib.hid (fun W (h : St w W L3) => (show RowsAt W O3 ps3.length oc3 (ls ++ [rec]) by
          have := RowsAt.read (ps := ps3) (O := O3) (k := ps3.length) (oc := oc3) h (by rw [hL3]; exact List.mem_append_left _ (List.mem_cons_self ..)) (fun r hr => by rw [hL3]; exact List.mem_append_left _ (List.mem_cons_of_mem _ hr))
          rwa [hps3] at this))
        have HGs := Lib.hid (fun W (h : St w W L3) => (show SlR W O r oc 1 (piecesL ps) from HGr.out W (h.drop (by rw [hL3]; exact (List.sublist_append_right _ _).trans (List.sublist_append_right _ _)))))
        have HGe := Lib.hid (fun W (h : St w W L3) => HGp.out W (h.drop (by rw [hL3]; exact (List.sublist_append_right _ _).trans (List.sublist_append_right _ _))))
        have hst : St w Wr L3 := by rw [hL3]; exact hst
        rw [hpl3] at HRow3 ⊢
        clear hL3 hps3 hpl3
        go_upto_region 26 with (first
          | (go_at_call 31; (try clear hnew); refine (sameRows_any (ls ++ [rec]) _ _ _ _ _ _ (HRow3.out _ (hst.tailN 2)) (rows_more (hst.sl 1 rfl) (HGe.out _ (hst.tailN 2)) (hst.old (by decide) hrec) Hps.out)).mono ?_; rintro e We ⟨rfl, hnew⟩; replace hst := hst.keep hnew)
          | (refine L_buildS (d := some 121) rfl rfl rfl [] (bs_0 ) rfl Tryd.underlying37 el_S_uint8 rfl (by first | (simp [Value.cells]; done) | (simp [Value.cells, Dig.size]; done)) (by decide) (by decide) ?_; (try clear hnew); intro g121 W121 hnew; replace hst := hst.trans hnew; simp only [List.cons_append, List.nil_append] at hst; simp only [List.flatMap_cons, List.flatMap_nil, List.append_nil, Value.cells, List.toList_toArray] at hst)
          | (refine L_appendO (d := some 123) rfl rfl hst rfl (by rfl) (by rfl) Tryd.underlying37 el_S_uint8 rfl (by decide) (by decide) 0 rfl (by first | rfl | omega) (by first | exact HGs.out _ (hst.tailN 1) | exact hst.sl 0 rfl | exact hst.sl 1 rfl | assumption | exact hst.old (by decide) (by assumption)) (by first | exact oneCell_bytes | (simp [Value.oneCell']; done) | exact piecesL_ones _) (by omega) ?_; clear hst; intro A123 c123 W123 hst; simp only [List.set_cons_zero, List.set_cons_succ, List.nil_append, Nat.zero_add] at hst)
          | (refine L_appendO (d := some 123) rfl rfl hst rfl (by rfl) (by rfl) Tryd.underlying37 el_S_uint8 rfl (by decide) (by decide) 1 rfl (by first | rfl | omega) (by first | exact HGs.out _ (hst.tailN 1) | exact hst.sl 0 rfl | exact hst.sl 1 rfl | assumption | exact hst.old (by decide) (by assumption)) (by first | exact oneCell_bytes | (simp [Value.oneCell']; done) | exact piecesL_ones _) (by omega) ?_; clear hst; intro A123 c123 W123 hst; simp only [List.set_cons_zero, List.set_cons_succ, List.nil_append, Nat.zero_add] at hst)
          | (refine L_appendF (d := some 123) rfl rfl rfl (by rfl) (by rfl) Tryd.underlying37 el_S_uint8 rfl (by decide) (by assumption) (by first | assumption | exact HGs.out _ (hst.tailN 1) | exact hst.sl 0 rfl | exact hst.sl 1 rfl | assumption | exact hst.old (by decide) (by assumption)) (by omega) (by omega) (by omega) ?_; (try clear hnew); intro A123 c123 W123 hnew; replace hst := hst.trans hnew; simp only [List.cons_append, List.nil_append] at hst)
          | (refine L_buildS (d := some 125) rfl rfl rfl [_] (bs_1 (ev_tmp rfl)) rfl Tryd.underlying37 el_S_uint8 rfl (by first | (simp [Value.cells]; done) | (simp [Value.cells, Dig.size]; done)) (by decide) (by decide) ?_; (try clear hnew); intro g125 W125 hnew; replace hst := hst.trans hnew; simp only [List.cons_append, List.nil_append] at hst; simp only [List.flatMap_cons, List.flatMap_nil, List.append_nil, Value.cells, List.toList_toArray] at hst)
          | (refine L_appendO (d := some 126) rfl rfl hst rfl (by rfl) (by rfl) Tryd.underlying37 el_S_uint8 rfl (by decide) (by decide) 0 rfl (by first | rfl | omega) (by first | exact HGs.out _ (hst.tailN 1) | exact hst.sl 0 rfl | exact hst.sl 1 rfl | assumption | exact hst.old (by decide) (by assumption)) (by first | exact oneCell_bytes | (simp [Value.oneCell']; done) | exact piecesL_ones _) (by omega) ?_; clear hst; intro A126 c126 W126 hst; simp only [List.set_cons_zero, List.set_cons_succ, List.nil_append, Nat.zero_add] at hst)
          | (refine L_appendO (d := some 126) rfl rfl hst rfl (by rfl) (by rfl) Tryd.underlying37 el_S_uint8 rfl (by decide) (by decide) 1 rfl (by first | rfl | omega) (by first | exact HGs.out _ (hst.tailN 1) | exact hst.sl 0 rfl | exact hst.sl 1 rfl | assumption | exact hst.old (by decide) (by assumption)) (by first | exact oneCell_bytes | (simp [Value.oneCell']; done) | exact piecesL_ones _) (by omega) ?_; clear hst; intro A126 c126 W126 hst; simp only [List.set_cons_zero, List.set_cons_succ, List.nil_append, Nat.zero_add] at hst)
          | (refine L_appendF (d := some 126) rfl rfl rfl (by rfl) (by rfl) Tryd.underlying37 el_S_uint8 rfl (by decide) (by assumption) (by first | assumption | exact HGs.out _ (hst.tailN 1) | exact hst.sl 0 rfl | exact hst.sl 1 rfl | assumption | exact hst.old (by decide) (by assumption)) (by omega) (by omega) (by omega) ?_; (try clear hnew); intro A126 c126 W126 hnew; replace hst := hst.trans hnew; simp only [List.cons_append, List.nil_append] at hst)
          | fail)
        (try clear hnew)
        go_wp2_with (first
          | (first | (refine L_pickF (d := some 132) rfl rfl rfl (ev_tmp rfl) ev_const ?_) | (refine L_pickT (d := some 132) rfl rfl rfl (ev_tmp rfl) (ev_tmp rfl) ?_))
          | (first | (refine L_pickF (d := some 138) rfl rfl rfl (ev_tmp rfl) ev_const ?_) | (refine L_pickT (d := some 138) rfl rfl rfl (ev_tmp rfl) (ev_tmp rfl) ?_))
          | fail)
        go_ret
        exact ⟨rfl, hst.forget⟩
end Go.Proofs.YtkbleigmfcleaaaDoor
