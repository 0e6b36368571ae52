/-
  Proved here: the walk of the law DiaryBack: it returns true. Condition: records and bytes of a bulk.
-/
import Derived.Test.YtkbleigmfcleaaaDoorWritten
set_option maxRecDepth 20000
set_option linter.unusedSimpArgs false
set_option linter.unusedVariables false
namespace Go.Proofs.YtkbleigmfcleaaaDoor
open Go.RowKit

theorem first_long : ∀ (rs : List (List UInt8)), ¬ (∀ r ∈ rs, r.length ≤ 1000) → ∃ (j : Nat) (hj : j < rs.length), 1000 < rs[j].length ∧ ∀ r ∈ rs.take j, r.length ≤ 1000 := by
  intro rs
  induction rs with
  | nil => intro h; exact absurd (by simp) h
  | cons r rs ih =>
    intro h
    by_cases hr : r.length ≤ 1000
    · obtain ⟨j, hj, h1, h2⟩ := ih (fun h' => h (fun x hx => by
        rcases List.mem_cons.1 hx with rfl | hx
        · exact hr
        · exact h' x hx))
      refine ⟨j + 1, by simpa using hj, by simpa using h1, fun x hx => ?_⟩
      rw [List.take_succ_cons] at hx
      rcases List.mem_cons.1 hx with rfl | hx
      · exact hr
      · exact h2 x hx
    · exact ⟨0, by simp, by simpa using hr, by simp⟩

set_option maxHeartbeats 8000000 in
set_option maxRecDepth 100000 in
theorem diaryBack_any (w : World) (hT : Tb w) (A : Option Addr) (n c : Nat) (rs : List (List UInt8)) (hx : RowsAt w A n c rs) (hb : endD rs ≤ 16777216) (d : List UInt8) (D : Option Addr) (m dc : Nat) (hd : SlR w D m dc 1 (bytesL d)) (hm : m ≤ 1048576) :
    Calls Tryd.prog 7 #[.slice A n c, .slice D m dc] w fun e w' => e = .returned (.bool true) ∧ St w w' [] := by
  have hst := St.refl w
  have HT := Lib.hid hT
  have HX := Lib.hid hx
  have hnl := hx.len
  have Hnl := Lib.hid hnl.1
  have hnc := hnl.2.1
  have hcm := hnl.2.2
  have hmc := hd.2.1
  have hmm := hd.2.2.1
  simp only [maxLen] at hcm hmm
  have Hdl := Lib.hid (slr_len hd)
  clear hT hx hnl
  obtain ⟨hsp, hsh, _⟩ := readD_split d.length zero8 d (Nat.le_refl _)
  have HRd0 := Lib.hid (fun w hT hd => read_any d D m dc w hT hd (by omega))
  obtain ⟨ls, rest, htot⟩ : ∃ ls rest, readD zero8 d = (ls, rest) := ⟨_, _, rfl⟩
  rw [htot] at hsp hsh HRd0
  dsimp only at hsp hsh HRd0
  have hq : m = endD ls + rest.length := by rw [Hdl.out, hsp, List.length_append, length_diaryN]
  have hls16 : endD ls ≤ 16777216 := by omega
  have HWr := Lib.hid (fun w O k oc hT h => written_any ls O k oc w hT h hls16 hsh)
  have HLd := Lib.hid (show ((bytesL d).drop (0 * 1)).take ((endD ls - 0) * 1) = bytesL (diaryN zero8 ls) by
    rw [Nat.zero_mul, List.drop_zero, Nat.sub_zero, Nat.mul_one, hsp, bytesL_append, List.take_left' (by rw [length_bytesL, length_diaryN])])
  have hqi : (m : Int) - (rest.length : Int) = ((endD ls : Nat) : Int) := by omega
  have HRd := Lib.hid (fun w hT hd => HRd0.out w hT hd)
  rw [hqi] at HRd
  have hqm : endD ls ≤ m := by omega
  clear HRd0 htot hsp hsh hq hqi hls16
  generalize diaryN zero8 ls = dl at HWr HLd
  generalize endD ls = q at *
  by_cases hs : ∀ r ∈ rs, r.length ≤ 1000
  · have HW := Lib.hid (fun w hT h => written_any rs A n c w hT h hb hs)
    have HR1 := Lib.hid (fun w X xc hT h => read_any (diaryN zero8 rs) X (endD rs) xc w hT h hb)
    rw [readD_of_diary rs hs] at HR1
    simp only [List.length_nil, Int.natCast_zero, Int.sub_zero] at HR1
    generalize diaryN zero8 rs = xl at HW HR1
    generalize endD rs = xn at *
    clear hs
    by_cases h40 : n ≤ 40
    · have k40 : (n : Int) ≤ 40 := by omega
      go_enter Tryd.func7, Tryd.ntmps7
      go_upto_region 1 with (first
        | fail)
      go_upto_region 2 with (first
        | (go_at_call 28; (try clear hnew); refine (wrote_any _ (HT.out.of hst)).mono ?_; rintro e Wk1 ⟨rfl, hnew⟩; replace hst := hst.keep hnew)
        | fail)
      go_upto_region 4 with (first
        | fail)
      go_upto_region 5 with (first
        | (go_at_call 29; (try clear hnew); refine (HW.out _ (HT.out.of hst) (HX.out.old hst)).mono ?_; rintro e Wk2 ⟨X, xc, rfl, hnew⟩; replace hst := hst.trans hnew; simp only [List.cons_append, List.nil_append] at hst)
        | fail)
      go_upto_region 6 with (first
        | fail)
      (try clear hnew)
      go_upto_region 7 with (first
        | (go_at_call 30; (try clear hnew); refine (HR1.out _ _ _ (HT.out.of hst) (hst.sl 0 rfl)).mono ?_; rintro e Wr ⟨ps, O, oc, rfl, hps, hnew⟩; replace hst := hst.trans hnew)
        | fail)
      (try clear hnew)
      have hrow := RowsAt.read hst (List.mem_append_left _ (List.mem_cons_self ..)) (fun r h => List.mem_append_left _ (List.mem_cons_of_mem _ h))
      rw [hps] at hrow
      have hpl : ps.length = n := by rw [← Hnl.out, ← hps, recsP, List.length_map]
      rw [hpl] at hrow ⊢
      clear hps
      go_upto_region 8 with (first
        | (go_at_call 31; (try clear hnew); refine (sameRows_any rs _ _ _ _ _ _ hrow (HX.out.old hst)).mono ?_; rintro e We ⟨rfl, hnew⟩; replace hst := hst.keep hnew)
        | fail)
      go_upto_region 10 with (first
        | fail)
      (try clear hnew)
      replace hst := hst.forget
      clear hrow hpl HR1 HW
      go_upto_region 11 with (first
        | (go_at_call 30; (try clear hnew); refine (HRd.out _ (HT.out.of hst) (hst.old (by decide) hd)).mono ?_; rintro e Wr ⟨ps, O, oc, rfl, hps, hnew⟩; replace hst := hst.trans hnew; simp only [List.append_nil] at hst)
        | fail)
      (try clear hnew)
      have hrow := RowsAt.read hst (List.mem_cons_self ..) (fun r h => List.mem_cons_of_mem _ h)
      rw [hps] at hrow
      clear hps
      generalize ps.length = pk at *
      go_upto_region 13 with (first
        | fail)
      go_upto_region 14 with (first
        | (go_at_call 29; (try clear hnew); refine (HWr.out _ _ _ _ (HT.out.of hst) hrow).mono ?_; rintro e Ww ⟨Y, yc, rfl, hnew⟩; replace hst := hst.trans hnew; simp only [List.cons_append, List.nil_append] at hst)
        | fail)
      (try clear hnew)
      go_upto_region 15 with (first
        | (go_at_call 32; (try clear hnew); refine (sameB_any dl dl _ _ _ _ _ _ _ (hst.sl 0 rfl) (by rw [← HLd.out]; exact hst.old (by decide) hs67)).mono ?_; rw [show (dl == dl) = true by simp]; rintro e We ⟨rfl, hnew⟩; replace hst := hst.keep hnew)
        | (first | (refine L_cutV (d := some 67) rfl rfl rfl (by rfl) Tryd.underlying49 el_uint8 (by decide) hd 0 q _ (Or.inl ⟨rfl, rfl⟩) (Or.inr ⟨_, _, rfl, by first | exact ev_tmp rfl | (rw [ev_tmp rfl]; congr 1; omega)⟩) (Or.inl ⟨rfl, rfl⟩) (by omega) (by omega) (by omega) (by omega) ?_; intro A67 c67 hs67) | (refine L_cutO (d := some 67) rfl rfl hst rfl (by rfl) Tryd.underlying49 el_uint8 0 rfl (by first | rfl | omega) 0 q _ (Or.inl ⟨rfl, rfl⟩) (Or.inr ⟨_, _, rfl, by first | exact ev_tmp rfl | (rw [ev_tmp rfl]; congr 1; omega)⟩) (Or.inl ⟨rfl, rfl⟩) (by omega) (by omega) (by omega) (by omega) ?_; clear hst; intro A67 c67 hst; simp only [List.set_cons_zero, List.set_cons_succ] at hst) | (refine L_cutS (d := some 67) rfl rfl rfl (by rfl) Tryd.underlying49 el_uint8 (by decide) (by first | assumption | exact hst.old (by decide) (by assumption) | exact hst.sl 0 rfl) 0 q _ (Or.inl ⟨rfl, rfl⟩) (Or.inr ⟨_, _, rfl, by first | exact ev_tmp rfl | (rw [ev_tmp rfl]; congr 1; omega)⟩) (Or.inl ⟨rfl, rfl⟩) (by omega) (by omega) (by omega) (by omega) ?_; intro A67 c67 hs67))
        | fail)
      go_wp2_with (first
        | (first | (refine L_pickF (d := some 72) rfl rfl rfl (ev_tmp rfl) ev_const ?_) | (refine L_pickT (d := some 72) rfl rfl rfl (ev_tmp rfl) (ev_tmp rfl) ?_))
        | fail)
      go_ret
      exact ⟨rfl, hst.forget⟩
    · have k40 : ¬ (n : Int) ≤ 40 := by omega
      clear HR1
      go_enter Tryd.func7, Tryd.ntmps7
      go_upto_region 1 with (first
        | fail)
      go_upto_region 2 with (first
        | (go_at_call 28; (try clear hnew); refine (wrote_any _ (HT.out.of hst)).mono ?_; rintro e Wk3 ⟨rfl, hnew⟩; replace hst := hst.keep hnew)
        | fail)
      go_upto_region 4 with (first
        | fail)
      go_upto_region 5 with (first
        | (go_at_call 29; (try clear hnew); refine (HW.out _ (HT.out.of hst) (HX.out.old hst)).mono ?_; rintro e Wk4 ⟨X, xc, rfl, hnew⟩; replace hst := hst.trans hnew; simp only [List.cons_append, List.nil_append] at hst)
        | fail)
      go_upto_region 10 with (first
        | fail)
      (try clear hnew)
      replace hst := hst.forget
      go_upto_region 11 with (first
        | (go_at_call 30; (try clear hnew); refine (HRd.out _ (HT.out.of hst) (hst.old (by decide) hd)).mono ?_; rintro e Wr ⟨ps, O, oc, rfl, hps, hnew⟩; replace hst := hst.trans hnew; simp only [List.append_nil] at hst)
        | fail)
      (try clear hnew)
      have hrow := RowsAt.read hst (List.mem_cons_self ..) (fun r h => List.mem_cons_of_mem _ h)
      rw [hps] at hrow
      clear hps
      generalize ps.length = pk at *
      go_upto_region 13 with (first
        | fail)
      go_upto_region 14 with (first
        | (go_at_call 29; (try clear hnew); refine (HWr.out _ _ _ _ (HT.out.of hst) hrow).mono ?_; rintro e Ww ⟨Y, yc, rfl, hnew⟩; replace hst := hst.trans hnew; simp only [List.cons_append, List.nil_append] at hst)
        | fail)
      (try clear hnew)
      go_upto_region 15 with (first
        | (go_at_call 32; (try clear hnew); refine (sameB_any dl dl _ _ _ _ _ _ _ (hst.sl 0 rfl) (by rw [← HLd.out]; exact hst.old (by decide) hs67)).mono ?_; rw [show (dl == dl) = true by simp]; rintro e We ⟨rfl, hnew⟩; replace hst := hst.keep hnew)
        | (first | (refine L_cutV (d := some 67) rfl rfl rfl (by rfl) Tryd.underlying49 el_uint8 (by decide) hd 0 q _ (Or.inl ⟨rfl, rfl⟩) (Or.inr ⟨_, _, rfl, by first | exact ev_tmp rfl | (rw [ev_tmp rfl]; congr 1; omega)⟩) (Or.inl ⟨rfl, rfl⟩) (by omega) (by omega) (by omega) (by omega) ?_; intro A67 c67 hs67) | (refine L_cutO (d := some 67) rfl rfl hst rfl (by rfl) Tryd.underlying49 el_uint8 0 rfl (by first | rfl | omega) 0 q _ (Or.inl ⟨rfl, rfl⟩) (Or.inr ⟨_, _, rfl, by first | exact ev_tmp rfl | (rw [ev_tmp rfl]; congr 1; omega)⟩) (Or.inl ⟨rfl, rfl⟩) (by omega) (by omega) (by omega) (by omega) ?_; clear hst; intro A67 c67 hst; simp only [List.set_cons_zero, List.set_cons_succ] at hst) | (refine L_cutS (d := some 67) rfl rfl rfl (by rfl) Tryd.underlying49 el_uint8 (by decide) (by first | assumption | exact hst.old (by decide) (by assumption) | exact hst.sl 0 rfl) 0 q _ (Or.inl ⟨rfl, rfl⟩) (Or.inr ⟨_, _, rfl, by first | exact ev_tmp rfl | (rw [ev_tmp rfl]; congr 1; omega)⟩) (Or.inl ⟨rfl, rfl⟩) (by omega) (by omega) (by omega) (by omega) ?_; intro A67 c67 hs67))
        | fail)
      go_wp2_with (first
        | (first | (refine L_pickF (d := some 72) rfl rfl rfl (ev_tmp rfl) ev_const ?_) | (refine L_pickT (d := some 72) rfl rfl rfl (ev_tmp rfl) (ev_tmp rfl) ?_))
        | fail)
      go_ret
      exact ⟨rfl, hst.forget⟩
  · obtain ⟨j, hj, hlo, hsh⟩ := first_long rs hs
    have HW := Lib.hid (fun w hT h => written_no rs A n c w hT h hb j hj hlo hsh)
    clear hs hlo hsh hj
    go_enter Tryd.func7, Tryd.ntmps7
    go_upto_region 1 with (first
      | fail)
    go_upto_region 2 with (first
      | (go_at_call 28; (try clear hnew); refine (wrote_any _ (HT.out.of hst)).mono ?_; rintro e Wk5 ⟨rfl, hnew⟩; replace hst := hst.keep hnew)
      | fail)
    go_upto_region 4 with (first
      | fail)
    go_upto_region 5 with (first
      | (go_at_call 29; (try clear hnew); refine (HW.out _ (HT.out.of hst) (HX.out.old hst)).mono ?_; rintro e Wk6 ⟨rfl, hnew⟩; replace hst := hst.keep hnew)
      | fail)
    go_upto_region 10 with (first
      | fail)
    all_goals
      (try clear hnew)
      go_upto_region 11 with (first
        | (go_at_call 30; (try clear hnew); refine (HRd.out _ (HT.out.of hst) (hst.old (by decide) hd)).mono ?_; rintro e Wr ⟨ps, O, oc, rfl, hps, hnew⟩; replace hst := hst.trans hnew; simp only [List.append_nil] at hst)
        | fail)
      (try clear hnew)
      have hrow := RowsAt.read hst (List.mem_cons_self ..) (fun r h => List.mem_cons_of_mem _ h)
      rw [hps] at hrow
      clear hps
      generalize ps.length = pk at *
      go_upto_region 13 with (first
        | fail)
      go_upto_region 14 with (first
        | (go_at_call 29; (try clear hnew); refine (HWr.out _ _ _ _ (HT.out.of hst) hrow).mono ?_; rintro e Ww ⟨Y, yc, rfl, hnew⟩; replace hst := hst.trans hnew; simp only [List.cons_append, List.nil_append] at hst)
        | fail)
      (try clear hnew)
      go_upto_region 15 with (first
        | (go_at_call 32; (try clear hnew); refine (sameB_any dl dl _ _ _ _ _ _ _ (hst.sl 0 rfl) (by rw [← HLd.out]; exact hst.old (by decide) hs67)).mono ?_; rw [show (dl == dl) = true by simp]; rintro e We ⟨rfl, hnew⟩; replace hst := hst.keep hnew)
        | (first | (refine L_cutV (d := some 67) rfl rfl rfl (by rfl) Tryd.underlying49 el_uint8 (by decide) hd 0 q _ (Or.inl ⟨rfl, rfl⟩) (Or.inr ⟨_, _, rfl, by first | exact ev_tmp rfl | (rw [ev_tmp rfl]; congr 1; omega)⟩) (Or.inl ⟨rfl, rfl⟩) (by omega) (by omega) (by omega) (by omega) ?_; intro A67 c67 hs67) | (refine L_cutO (d := some 67) rfl rfl hst rfl (by rfl) Tryd.underlying49 el_uint8 0 rfl (by first | rfl | omega) 0 q _ (Or.inl ⟨rfl, rfl⟩) (Or.inr ⟨_, _, rfl, by first | exact ev_tmp rfl | (rw [ev_tmp rfl]; congr 1; omega)⟩) (Or.inl ⟨rfl, rfl⟩) (by omega) (by omega) (by omega) (by omega) ?_; clear hst; intro A67 c67 hst; simp only [List.set_cons_zero, List.set_cons_succ] at hst) | (refine L_cutS (d := some 67) rfl rfl rfl (by rfl) Tryd.underlying49 el_uint8 (by decide) (by first | assumption | exact hst.old (by decide) (by assumption) | exact hst.sl 0 rfl) 0 q _ (Or.inl ⟨rfl, rfl⟩) (Or.inr ⟨_, _, rfl, by first | exact ev_tmp rfl | (rw [ev_tmp rfl]; congr 1; omega)⟩) (Or.inl ⟨rfl, rfl⟩) (by omega) (by omega) (by omega) (by omega) ?_; intro A67 c67 hs67))
        | fail)
      go_wp2_with (first
        | (first | (refine L_pickF (d := some 72) rfl rfl rfl (ev_tmp rfl) ev_const ?_) | (refine L_pickT (d := some 72) rfl rfl rfl (ev_tmp rfl) (ev_tmp rfl) ?_))
        | fail)
      go_ret
      exact ⟨rfl, hst.forget⟩
end Go.Proofs.YtkbleigmfcleaaaDoor
