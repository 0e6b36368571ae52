/-
  Proved here: the walk of the law DiaryTorn: it returns true. Condition: records of a bulk.
-/
import Derived.Test.YtkbleigmfcleaaaDoorDiaryBack
set_option maxRecDepth 20000
set_option linter.unusedSimpArgs false
set_option linter.unusedVariables false
namespace Go.Proofs.YtkbleigmfcleaaaDoor
open Go.RowKit

/-- how many end within so many bytes: step by step -/
theorem wholeN_take : ∀ (rs : List (List UInt8)) (i n : Nat) (h : i < rs.length), endD (rs.take i) ≤ n → i ≤ wholeN rs n → (endD (rs.take i) + rs[i].length + 10 ≤ n → i + 1 ≤ wholeN rs n) ∧ (n < endD (rs.take i) + rs[i].length + 10 → wholeN rs n = i) := by
  intro rs
  induction rs with
  | nil => intro i n h; exact absurd h (by simp)
  | cons r rs ih =>
    intro i n h h1 h2
    cases i with
    | zero =>
      simp only [List.take_zero, List.getElem_cons_zero, wholeN]
      have : endD [] = 0 := rfl
      rw [this]
      constructor
      · intro h3; rw [if_neg (by omega)]; omega
      · intro h3; rw [if_pos (by omega)]
    | succ i =>
      simp only [List.take_succ_cons, endD_cons, List.getElem_cons_succ, wholeN] at *
      by_cases hc : n < 2 + r.length + 8
      · rw [if_pos hc] at h2; omega
      · rw [if_neg hc] at h2 ⊢
        obtain ⟨a, b⟩ := ih i (n - (2 + r.length + 8)) (by simpa using h) (by omega) (by omega)
        constructor
        · intro h3; have := a (by omega); omega
        · intro h3; have := b (by omega); omega
theorem rows_cut {w : World} {qs : List Piece} {A : Option Addr} {i c : Nat} {rs : List (List UInt8)} (h : SlR w A (i - 0) c 1 (((piecesL qs).drop (0 * 1)).take ((i - 0) * 1))) (h2 : ∀ p ∈ qs, SlR w p.1 p.2.1 p.2.2.1 1 (bytesL p.2.2.2)) (h3 : recsP qs = rs) : RowsAt w A i c (rs.take i) := by
  rw [Nat.zero_mul, List.drop_zero, Nat.sub_zero, Nat.mul_one] at h
  exact ⟨qs.take i, by rw [piecesL, List.map_take]; exact h, fun p hp => h2 p (List.mem_of_mem_take hp), by rw [recsP, List.map_take, ← h3]; rfl⟩
theorem wholeN_all (rs : List (List UInt8)) (n : Nat) (h : endD rs ≤ n) : wholeN rs n = rs.length := by
  induction rs generalizing n with
  | nil => rfl
  | cons r rs ih =>
    rw [endD_cons] at h
    simp only [wholeN, List.length_cons]
    rw [if_neg (by omega), ih _ (by omega)]

set_option maxHeartbeats 8000000 in
set_option maxRecDepth 100000 in
theorem diaryTorn_any (w : World) (hT : Tb w) (A : Option Addr) (n c : Nat) (rs : List (List UInt8)) (hx : RowsAt w A n c rs) (hb : endD rs ≤ 16777216) (t : Int) (ht1 : -9223372036854775808 ≤ t) (ht2 : t ≤ 9223372036854775807) :
    Calls Tryd.prog 8 #[.slice A n c, .int .i64 t] w fun e w' => e = .returned (.bool true) ∧ St w w' [] := by
  have hst := St.refl w
  have HT := Lib.hid hT
  have HX := Lib.hid hx
  have hnl := hx.len
  have Hnl := Lib.hid hnl.1
  have hnc := hnl.2.1
  have hcm := hnl.2.2
  simp only [maxLen] at hcm
  clear hT hx hnl
  by_cases hs : ∀ r ∈ rs, r.length ≤ 1000
  case neg =>
    obtain ⟨j, hj, hlo, hsh⟩ := first_long rs hs
    have HW := Lib.hid (fun w hT h => written_no rs A n c w hT h hb j hj hlo hsh)
    clear hs hlo hsh hj
    by_cases h40 : 40 < n
    · have k40 : (40 : Int) < (n : Int) := by omega
      go_enter Tryd.func8, Tryd.ntmps8
      go_upto_region 1 with (first
        | fail)
      go_upto_region 2 with (first
        | (go_at_call 28; (try clear hnew); refine (wrote_any _ (HT.out.of hst)).mono ?_; rintro e Wk1 ⟨rfl, hnew⟩; replace hst := hst.keep hnew)
        | fail)
      go_upto_region 4 with (first
        | fail)
      go_upto_region 5 with (first
        | (go_at_call 29; (try clear hnew); refine (HW.out _ (HT.out.of hst) (HX.out.old hst)).mono ?_; rintro e Wk2 ⟨rfl, hnew⟩; replace hst := hst.keep hnew)
        | fail)
      go_upto_region 6 with (first
        | (first | (refine L_pickF (d := some 29) rfl rfl rfl (ev_tmp rfl) (ev_tmp rfl) ?_) | (refine L_pickT (d := some 29) rfl rfl rfl (ev_tmp rfl) ev_const ?_))
        | (first | (refine L_pickF (d := some 33) rfl rfl rfl (ev_tmp rfl) (ev_tmp rfl) ?_) | (refine L_pickT (d := some 33) rfl rfl rfl (ev_tmp rfl) ev_const ?_))
        | (first | (refine L_pickF (d := some 39) rfl rfl rfl (ev_tmp rfl) (ev_tmp rfl) ?_) | (refine L_pickT (d := some 39) rfl rfl rfl (ev_tmp rfl) ev_const ?_))
        | fail)
      go_wp2_with (first
        | fail)
      go_ret
      exact ⟨rfl, hst⟩
    · have k40 : ¬ (40 : Int) < (n : Int) := by omega
      go_enter Tryd.func8, Tryd.ntmps8
      go_upto_region 1 with (first
        | fail)
      go_upto_region 2 with (first
        | (go_at_call 28; (try clear hnew); refine (wrote_any _ (HT.out.of hst)).mono ?_; rintro e Wk3 ⟨rfl, hnew⟩; replace hst := hst.keep hnew)
        | fail)
      go_upto_region 4 with (first
        | fail)
      go_upto_region 5 with (first
        | (go_at_call 29; (try clear hnew); refine (HW.out _ (HT.out.of hst) (HX.out.old hst)).mono ?_; rintro e Wk4 ⟨rfl, hnew⟩; replace hst := hst.keep hnew)
        | fail)
      go_upto_region 6 with (first
        | (first | (refine L_pickF (d := some 29) rfl rfl rfl (ev_tmp rfl) (ev_tmp rfl) ?_) | (refine L_pickT (d := some 29) rfl rfl rfl (ev_tmp rfl) ev_const ?_))
        | (first | (refine L_pickF (d := some 33) rfl rfl rfl (ev_tmp rfl) (ev_tmp rfl) ?_) | (refine L_pickT (d := some 33) rfl rfl rfl (ev_tmp rfl) ev_const ?_))
        | (first | (refine L_pickF (d := some 39) rfl rfl rfl (ev_tmp rfl) (ev_tmp rfl) ?_) | (refine L_pickT (d := some 39) rfl rfl rfl (ev_tmp rfl) ev_const ?_))
        | fail)
      go_wp2_with (first
        | fail)
      go_ret
      exact ⟨rfl, hst⟩
  case pos =>
  have HW := Lib.hid (fun w hT h => written_any rs A n c w hT h hb hs)
  by_cases hbad : 40 < n ∨ t < 0 ∨ ((endD rs : Nat) : Int) < t
  · have hbb : (40 : Int) < (n : Int) ∨ ¬ (40 : Int) < (n : Int) ∧ t < 0 ∨ ¬ (40 : Int) < (n : Int) ∧ ¬ t < 0 ∧ ((endD rs : Nat) : Int) < t := by omega
    generalize endD rs = xn at *
    clear hbad hs
    rcases hbb with k1 | ⟨k1, k2⟩ | ⟨k1, k2, k3⟩
    all_goals
      go_enter Tryd.func8, Tryd.ntmps8
      go_upto_region 1 with (first
        | fail)
      go_upto_region 2 with (first
        | (go_at_call 28; (try clear hnew); refine (wrote_any _ (HT.out.of hst)).mono ?_; rintro e Wk5 ⟨rfl, hnew⟩; replace hst := hst.keep hnew)
        | fail)
      go_upto_region 4 with (first
        | fail)
      go_upto_region 5 with (first
        | (go_at_call 29; (try clear hnew); refine (HW.out _ (HT.out.of hst) (HX.out.old hst)).mono ?_; rintro e Wk6 ⟨X, xc, rfl, hnew⟩; replace hst := hst.trans hnew; simp only [List.cons_append, List.nil_append] at hst)
        | fail)
      go_upto_region 6 with (first
        | (first | (refine L_pickF (d := some 29) rfl rfl rfl (ev_tmp rfl) (ev_tmp rfl) ?_) | (refine L_pickT (d := some 29) rfl rfl rfl (ev_tmp rfl) ev_const ?_))
        | (first | (refine L_pickF (d := some 33) rfl rfl rfl (ev_tmp rfl) (ev_tmp rfl) ?_) | (refine L_pickT (d := some 33) rfl rfl rfl (ev_tmp rfl) ev_const ?_))
        | (first | (refine L_pickF (d := some 39) rfl rfl rfl (ev_tmp rfl) (ev_tmp rfl) ?_) | (refine L_pickT (d := some 39) rfl rfl rfl (ev_tmp rfl) ev_const ?_))
        | fail)
      go_wp2_with (first
        | fail)
      go_ret
      exact ⟨rfl, hst.forget⟩
  · obtain ⟨q, rfl⟩ : ∃ q : Nat, t = (q : Int) := ⟨t.toNat, by omega⟩
    have k1 : ¬ (40 : Int) < (n : Int) := by omega
    have k2 : ¬ (q : Int) < 0 := by omega
    have k3 : ¬ ((endD rs : Nat) : Int) < (q : Int) := by omega
    have hqx : q ≤ endD rs := by omega
    have h40 : n ≤ 40 := by omega
    obtain ⟨htn1, htn2⟩ := readD_torn rs zero8 q (by rw [length_diaryN]; exact hqx) hs
    obtain ⟨wl, we⟩ := wholeN_le rs q
    have HR1 := Lib.hid (fun w X xc hT (h : SlR w X q xc 1 (bytesL ((diaryN zero8 rs).take q))) => read_any ((diaryN zero8 rs).take q) X q xc w hT h (by omega))
    have hlq : ((diaryN zero8 rs).take q).length = q := by rw [List.length_take, length_diaryN]; omega
    have hend : (q : Int) - ((readD zero8 ((diaryN zero8 rs).take q)).2.length : Int) = ((endD (rs.take (wholeN rs q)) : Nat) : Int) := by
      have := congrArg List.length htn2
      rw [hlq, List.length_append, length_diaryN] at this
      omega
    rw [hend, htn1] at HR1
    have HXq := Lib.hid (show ((bytesL (diaryN zero8 rs)).drop (0 * 1)).take ((q - 0) * 1) = bytesL ((diaryN zero8 rs).take q) by
      rw [Nat.zero_mul, List.drop_zero, Nat.sub_zero, Nat.mul_one]; simp [bytesL, List.map_take])
    have HWs := Lib.hid (fun i h => wholeN_take rs i q h)
    have HWa := Lib.hid (wholeN_all rs q)
    have HET := Lib.hid (fun i h => endD_take_succ rs i h)
    have HEL := Lib.hid (fun i => endD_take_le rs i)
    clear htn1 htn2 hend hlq hbad hs
    generalize hwh : wholeN rs q = wh at *
    generalize (diaryN zero8 rs).take q = tl at HR1 HXq
    generalize diaryN zero8 rs = xl at HW HXq
    go_enter Tryd.func8, Tryd.ntmps8
    go_upto_region 1 with (first
      | fail)
    go_upto_region 2 with (first
      | (go_at_call 28; (try clear hnew); refine (wrote_any _ (HT.out.of hst)).mono ?_; rintro e Wk7 ⟨rfl, hnew⟩; replace hst := hst.keep hnew)
      | fail)
    go_upto_region 4 with (first
      | fail)
    go_upto_region 5 with (first
      | (go_at_call 29; (try clear hnew); refine (HW.out _ (HT.out.of hst) (HX.out.old hst)).mono ?_; rintro e Wk8 ⟨X, xc, rfl, hnew⟩; replace hst := hst.trans hnew; simp only [List.cons_append, List.nil_append] at hst)
      | fail)
    go_upto_region 7 with (first
      | (first | (refine L_pickF (d := some 29) rfl rfl rfl (ev_tmp rfl) (ev_tmp rfl) ?_) | (refine L_pickT (d := some 29) rfl rfl rfl (ev_tmp rfl) ev_const ?_))
      | (first | (refine L_pickF (d := some 33) rfl rfl rfl (ev_tmp rfl) (ev_tmp rfl) ?_) | (refine L_pickT (d := some 33) rfl rfl rfl (ev_tmp rfl) ev_const ?_))
      | (first | (refine L_pickF (d := some 39) rfl rfl rfl (ev_tmp rfl) (ev_tmp rfl) ?_) | (refine L_pickT (d := some 39) rfl rfl rfl (ev_tmp rfl) ev_const ?_))
      | fail)
    (try clear hnew)
    have hxs := hst.sl 0 rfl
    have hxc := hxs.2.1
    have hxm := hxs.2.2.1
    simp only [maxLen] at hxm
    go_upto_region 8 with (first
      | (go_at_call 30; (try clear hnew); refine (HR1.out _ _ _ (HT.out.of hst) (by rw [← HXq.out]; exact hs43)).mono ?_; rintro e Wr ⟨ps, O, oc, rfl, hps, hnew⟩; replace hst := hst.trans hnew)
      | (first | (refine L_cutS (d := some 43) rfl rfl rfl (by rfl) Tryd.underlying49 el_uint8 (by decide) (by first | assumption | exact hst.old (by decide) (by assumption) | exact hst.sl 0 rfl) 0 q _ (Or.inl ⟨rfl, rfl⟩) (Or.inr ⟨_, _, rfl, by first | exact ev_tmp rfl | (rw [ev_tmp rfl]; congr 1; omega)⟩) (Or.inl ⟨rfl, rfl⟩) (by omega) (by omega) (by omega) (by omega) ?_; intro A43 c43 hs43))
      | fail)
    go_upto_region 9 with (first
      | fail)
    go_upto_region 10 with (first
      | fail)
    go_wp2_with (first
      | fail)
    (try clear hnew)
    have hpl : ps.length = wh := by
      have := congrArg List.length hps
      rw [recsP, List.length_map, List.length_take] at this
      omega
    obtain ⟨LL, hLL⟩ : ∃ LL, LL = (.row O ps.length oc 49 1 (piecesL ps) :: clonesR ps.reverse ++ [.row X (endD rs) xc 5 1 (bytesL xl)] : List Res) := ⟨_, rfl⟩
    have HRow := Lib.hid (fun W (h : St w W LL) => (show RowsAt W O ps.length oc (rs.take wh) by
      have := RowsAt.read (ps := ps) (O := O) (k := ps.length) (oc := oc) h (by rw [hLL]; exact List.mem_append_left _ (List.mem_cons_self ..)) (fun r hr => by rw [hLL]; exact List.mem_append_left _ (List.mem_cons_of_mem _ hr))
      rwa [hps] at this))
    rw [← hLL] at hst
    rw [hpl] at HRow ⊢
    clear hLL hps hpl hxs hs43
    obtain ⟨qs, hq1, hq2, hq3⟩ := HX.out.ex
    have Hq2 := Lib.hid hq2
    have Hq3 := Lib.hid hq3
    have Hql := Lib.hid (show qs.length = n by have := hq1.1; simp only [piecesL, List.length_map, Nat.mul_one] at this; exact this)
    clear hq2 hq3 HX HW HR1 k1 k2 k3 hwh
    go_loopg [10, 11, 12] n (fun gk s10 s11 s12 wr => ∃ (i k : Nat), Hid (i + gk = n ∧ i ≤ wh) ∧ Hid (endD (rs.take i) = k) ∧ k ≤ q ∧ s10 = .int .i64 (i : Int) ∧ s11 = .int .i64 (k : Int) ∧ s12 = .int .i64 (i : Int) ∧ St w wr LL)
    case atStart => exact ⟨0, 0, Lib.hid ⟨by omega, by omega⟩, Lib.hid rfl, by omega, rfl, rfl, rfl, hst⟩
    case round =>
      clear hst
      obtain ⟨i, k, HI, HK, hkq, rfl, rfl, rfl, hst⟩ := hrel
      have hi := HI.out.1
      by_cases hin : i < n
      · clear hi
        have hip := Lib.hid (show i < qs.length by rw [Hql.out]; exact hin)
        have hir := Lib.hid (show i < rs.length by rw [Hnl.out]; exact hin)
        have HC := Lib.hid (fun (W : World) (g off : Nat) h => piece_at (W := W) (g := g) (off := off) (i := i) (ps := qs) h hip.out)
        have HP := Hq2.out (qs[i]'hip.out) (List.getElem_mem hip.out)
        have heq : (qs[i]'hip.out).2.2.2 = rs[i]'hir.out := by
          have := congrArg (fun l => l[i]?) Hq3.out
          simpa [recsP, hip.out, hir.out] using this
        have hws := HWs.out i hir.out (by rw [HK.out]; exact hkq) HI.out.2
        have het := HET.out i hir.out
        have hel := HEL.out (i + 1)
        rw [HK.out] at hws het
        rw [← heq] at hws het
        generalize qs[i]'hip.out = p at HC HP heq hws het
        obtain ⟨PA, pn, pc, pl⟩ := p
        dsimp only at HC HP heq hws het
        have hpl := slr_len HP
        rw [← hpl] at hws het
        have hsz : k + pn + 10 ≤ 16777216 := by omega
        have Het := Lib.hid het
        clear het hel heq hpl
        by_cases hf : k + pn + 10 ≤ q
        · have h1 := Lib.hid (hws.1 hf)
          have kf : ¬ (q : Int) < (k : Int) + 2 + (pn : Int) + 8 := by omega
          clear hws
          go_wp2_with (first
            | (refine L_load1 (d := some 58) rfl rfl rfl (by rfl) Tryd.underlying49 rfl (HC.out _ _ _ hr57) ?_)
            | (refine L_idxS (d := some 57) rfl rfl rfl (by rfl) (by rfl) Tryd.underlying37 el_S_uint8 (by first | exact hst.old (by decide) hq1 | assumption | exact hst.sl 0 rfl | exact hst.old (by decide) (by assumption)) (by omega) (by omega) ?_; intro o57 p57 ha57 hr57; (first | subst ha57 | (obtain ⟨h1, h2⟩ := some_addr ha57; subst h1; subst h2; clear ha57) | skip))
            | (refine L_load1 (d := some 58) rfl rfl rfl (by rfl) Tryd.underlying49 rfl (by first | assumption | exact cell_of (hst.get 0 rfl) rfl) ?_)
            | fail)
          go_roundg (gk - 1)
          case measure => have hi := HI.out.1; omega
          case rel =>
            have hi := HI.out.1
            exact ⟨i + 1, k + pn + 10, Lib.hid ⟨by omega, h1.out⟩, Lib.hid Het.out, hf, by go_num, by go_num, by go_num, hst⟩
        · have h1 : wh = i := hws.2 (by omega)
          have kf : (q : Int) < (k : Int) + 2 + (pn : Int) + 8 := by omega
          have hiw := HI.out.2
          clear hws
          obtain rfl := h1
          obtain rfl := HK.out
          go_upto_region 13 with (first
            | fail)
          go_upto_region 14 with (first
            | (refine L_load1 (d := some 58) rfl rfl rfl (by rfl) Tryd.underlying49 rfl (HC.out _ _ _ hr57) ?_)
            | (refine L_idxS (d := some 57) rfl rfl rfl (by rfl) (by rfl) Tryd.underlying37 el_S_uint8 (by first | exact hst.old (by decide) hq1 | assumption | exact hst.sl 0 rfl | exact hst.old (by decide) (by assumption)) (by omega) (by omega) ?_; intro o57 p57 ha57 hr57; (first | subst ha57 | (obtain ⟨h1, h2⟩ := some_addr ha57; subst h1; subst h2; clear ha57) | skip))
            | (refine L_load1 (d := some 58) rfl rfl rfl (by rfl) Tryd.underlying49 rfl (by first | assumption | exact cell_of (hst.get 0 rfl) rfl) ?_)
            | fail)
          go_upto_region 17 with (first
            | fail)
          go_upto_region 18 with (first
            | (go_at_call 31; (try clear hnew); refine (sameRows_any (rs.take wh) _ _ _ _ _ _ (HRow.out _ hst) (RowsAt.old (rows_cut hs71 Hq2.out Hq3.out) hst)).mono ?_; rintro e We ⟨rfl, hnew⟩; replace hst := hst.keep hnew)
            | (first | (refine L_cutV (d := some 71) rfl rfl rfl (by rfl) Tryd.underlying37 el_S_uint8 (by decide) hq1 0 wh _ (Or.inl ⟨rfl, rfl⟩) (Or.inr ⟨_, _, rfl, by first | exact ev_tmp rfl | (rw [ev_tmp rfl]; congr 1; omega)⟩) (Or.inl ⟨rfl, rfl⟩) (by omega) (by omega) (by omega) (by omega) ?_; intro A71 c71 hs71) | (refine L_cutO (d := some 71) rfl rfl hst rfl (by rfl) Tryd.underlying37 el_S_uint8 0 rfl (by first | rfl | omega) 0 wh _ (Or.inl ⟨rfl, rfl⟩) (Or.inr ⟨_, _, rfl, by first | exact ev_tmp rfl | (rw [ev_tmp rfl]; congr 1; omega)⟩) (Or.inl ⟨rfl, rfl⟩) (by omega) (by omega) (by omega) (by omega) ?_; clear hst; intro A71 c71 hst; simp only [List.set_cons_zero, List.set_cons_succ] at hst) | (refine L_cutS (d := some 71) rfl rfl rfl (by rfl) Tryd.underlying37 el_S_uint8 (by decide) (by first | exact hst.old (by decide) hq1 | assumption | exact hst.old (by decide) (by assumption) | exact hst.sl 0 rfl) 0 wh _ (Or.inl ⟨rfl, rfl⟩) (Or.inr ⟨_, _, rfl, by first | exact ev_tmp rfl | (rw [ev_tmp rfl]; congr 1; omega)⟩) (Or.inl ⟨rfl, rfl⟩) (by omega) (by omega) (by omega) (by omega) ?_; intro A71 c71 hs71))
            | fail)
          go_wp2_with (first
            | (first | (refine L_pickF (d := some 78) rfl rfl rfl (ev_tmp rfl) ev_const ?_) | (refine L_pickT (d := some 78) rfl rfl rfl (ev_tmp rfl) (ev_tmp rfl) ?_))
            | fail)
          go_ret
          exact ⟨rfl, hst.forget⟩
      · obtain rfl : i = n := by omega
        have h1 : wh = i := by have := HI.out.2; have := Hnl.out; omega
        obtain rfl := h1
        obtain rfl := HK.out
        go_upto_region 17 with (first
          | fail)
        go_upto_region 18 with (first
          | (go_at_call 31; (try clear hnew); refine (sameRows_any (rs.take wh) _ _ _ _ _ _ (HRow.out _ hst) (RowsAt.old (rows_cut hs71 Hq2.out Hq3.out) hst)).mono ?_; rintro e We ⟨rfl, hnew⟩; replace hst := hst.keep hnew)
          | (first | (refine L_cutV (d := some 71) rfl rfl rfl (by rfl) Tryd.underlying37 el_S_uint8 (by decide) hq1 0 wh _ (Or.inl ⟨rfl, rfl⟩) (Or.inr ⟨_, _, rfl, by first | exact ev_tmp rfl | (rw [ev_tmp rfl]; congr 1; omega)⟩) (Or.inl ⟨rfl, rfl⟩) (by omega) (by omega) (by omega) (by omega) ?_; intro A71 c71 hs71) | (refine L_cutO (d := some 71) rfl rfl hst rfl (by rfl) Tryd.underlying37 el_S_uint8 0 rfl (by first | rfl | omega) 0 wh _ (Or.inl ⟨rfl, rfl⟩) (Or.inr ⟨_, _, rfl, by first | exact ev_tmp rfl | (rw [ev_tmp rfl]; congr 1; omega)⟩) (Or.inl ⟨rfl, rfl⟩) (by omega) (by omega) (by omega) (by omega) ?_; clear hst; intro A71 c71 hst; simp only [List.set_cons_zero, List.set_cons_succ] at hst) | (refine L_cutS (d := some 71) rfl rfl rfl (by rfl) Tryd.underlying37 el_S_uint8 (by decide) (by first | assumption | exact hst.old (by decide) (by assumption) | exact hst.sl 0 rfl) 0 wh _ (Or.inl ⟨rfl, rfl⟩) (Or.inr ⟨_, _, rfl, by first | exact ev_tmp rfl | (rw [ev_tmp rfl]; congr 1; omega)⟩) (Or.inl ⟨rfl, rfl⟩) (by omega) (by omega) (by omega) (by omega) ?_; intro A71 c71 hs71))
          | fail)
        go_wp2_with (first
          | (first | (refine L_pickF (d := some 78) rfl rfl rfl (ev_tmp rfl) ev_const ?_) | (refine L_pickT (d := some 78) rfl rfl rfl (ev_tmp rfl) (ev_tmp rfl) ?_))
          | fail)
        go_ret
        exact ⟨rfl, hst.forget⟩
end Go.Proofs.YtkbleigmfcleaaaDoor
