/-
  Proved here: the walk of the law ChainBack: it returns true. No condition beyond the machine's numbers.
-/
import Derived.Test.YtkkmfkpanpjgbaaDoorChainBk
import Derived.Test.YtkkmfkpanpjgbaaDoorErrs
import Derived.Test.YtkkmfkpanpjgbaaDoorEb
import Derived.Deep.LoopGhost
import Derived.Laws.Small
set_option maxRecDepth 20000
set_option linter.unusedSimpArgs false
set_option linter.unusedVariables false
namespace Go.Proofs.YtkkmfkpanpjgbaaDoor
open Go.RowKit

theorem St.back {w0 W : World} {X Y : List Res} (h : St w0 W (X ++ Y)) : St w0 W (Y ++ X) := h.perm List.perm_append_comm
/-- a chain of which so many digests are left -/
def ChS (g : Nat) (seed : Dig) : Nat → Option Addr → Nat → List Res
  | 0, A, c => [.blk g 41 (chArr A 0 c (-1))]
  | m + 1, A, c => Ch g seed m m A c
theorem cnext_any (seed : Dig) (g m c : Nat) (A : Option Addr) (w0 w : World) (L : List Res) (hT : Tb w0) (hm : m ≤ 1023) (hst : St w0 w (Ch g seed m m A c ++ L)) :
    Calls Tryd.prog 7 #[.pointer (some ⟨g, 0, none⟩)] w fun e w' => e = .returned (.tuple #[(walkN seed m).v, .nilIface]) ∧ ∃ A' c', St w0 w' (ChS g seed m A' c' ++ L) := by
  cases m with
  | zero =>
    refine (cnext_last seed g c A w0 w L hst).mono ?_
    rintro e w' ⟨rfl, A', c', h⟩
    exact ⟨rfl, A', c', h⟩
  | succ m => exact cnext_mid seed g (m + 1) c A w0 w L hT (by omega) hm hst

set_option maxHeartbeats 40000000 in
set_option maxRecDepth 100000 in
theorem chainBack_any (w : World) (hT : Tb w) (hE : Eb w) (seed : Dig) (k : Int) (hk1 : -9223372036854775808 ≤ k) (hk2 : k ≤ 9223372036854775807) :
    Calls Tryd.prog 3 #[seed.v, .int .i64 k] w fun e w' => e = .returned (.bool true) ∧ St w w' [] := by
  have hst := St.refl w
  have HT := Lib.hid hT
  have HEb := Lib.hid hE
  by_cases cA : k < 0
  · have HN := Lib.hid (fun w' => cnew_no seed k w' (.inl cA))
    have e1 : decide (k < 0) = true := decide_eq_true cA
    clear hT hE
    go_enter Tryd.func3, Tryd.ntmps3
    go_upto_region 1 with (go_big_may; (refine L_boxA (d := some 2) rfl rfl rfl (ev_tmp rfl) ?_; (try clear hnew); intro g2 W2 hnew; replace hst := hst.trans hnew; simp only [List.cons_append, List.nil_append] at hst))
    go_upto_region 2 with (go_big_may; first | (go_at_call 4; (try clear hnew); refine (HN.out _).mono ?_; rintro e Wk1 ⟨rfl, hnew⟩; replace hst := hst.keep hnew) | ((refine L_loadA (d := some 21) rfl rfl rfl (by rfl) Tryd.underlying23 rfl el_api_Digest (by (exact hst.get 0 rfl)) (by (exact Dig.size _)) ?_)))
    go_upto_region 3 with (first | (with_reducible refine L_pass (t := 29) rfl (by kernel_rfl) ?_) | (with_reducible refine L_pass (t := 30) rfl (by kernel_rfl) ?_))
    go_upto_region 4 with (go_big_may; (go_at_call 5; (try clear hnew); refine (sError_any 2 _ (HEb.out.of hst)).mono ?_; rintro e Wk2 ⟨rfl, hnew⟩; replace hst := hst.keep hnew))
    go_wp2_with (fail)
    go_ret
    exact ⟨rfl, hst.forget⟩
  have e1 : decide (k < 0) = false := decide_eq_false cA
  by_cases cB : 10 < k
  · have HN := Lib.hid (fun w' => cnew_no seed k w' (.inr cB))
    clear hT hE
    go_enter Tryd.func3, Tryd.ntmps3
    go_upto_region 1 with (go_big_may; (refine L_boxA (d := some 2) rfl rfl rfl (ev_tmp rfl) ?_; (try clear hnew); intro g2 W2 hnew; replace hst := hst.trans hnew; simp only [List.cons_append, List.nil_append] at hst))
    go_upto_region 2 with (go_big_may; first | (go_at_call 4; (try clear hnew); refine (HN.out _).mono ?_; rintro e Wk3 ⟨rfl, hnew⟩; replace hst := hst.keep hnew) | ((refine L_loadA (d := some 21) rfl rfl rfl (by rfl) Tryd.underlying23 rfl el_api_Digest (by (exact hst.get 0 rfl)) (by (exact Dig.size _)) ?_)))
    go_upto_region 3 with (go_big_may; fail)
    go_upto_region 4 with (go_big_may; (go_at_call 5; (try clear hnew); refine (sError_any 2 _ (HEb.out.of hst)).mono ?_; rintro e Wk4 ⟨rfl, hnew⟩; replace hst := hst.keep hnew))
    go_wp2_with (fail)
    go_ret
    exact ⟨rfl, hst.forget⟩
  obtain ⟨k0, rfl⟩ := Int.eq_ofNat_of_zero_le (show 0 ≤ k by omega)
  have hk10 : k0 ≤ 10 := by omega
  have HN := Lib.hid (fun (w' : World) (h : Tb w') => cnew_any seed k0 w' h hk10)
  clear hT hE cA
  go_enter Tryd.func3, Tryd.ntmps3
  go_upto_region 1 with (go_big_may; (refine L_boxA (d := some 2) rfl rfl rfl (ev_tmp rfl) ?_; (try clear hnew); intro g2 W2 hnew; replace hst := hst.trans hnew; simp only [List.cons_append, List.nil_append] at hst))
  go_upto_region 2 with (go_big_may; first | (go_at_call 4; (try clear hnew); refine (HN.out _ (HT.out.of hst)).mono ?_; rintro e Wn ⟨g, A, c, rfl, hnew⟩; replace hst := hst.trans hnew; clear hnew) | ((refine L_loadA (d := some 21) rfl rfl rfl (by rfl) Tryd.underlying23 rfl el_api_Digest (by (exact hst.get 0 rfl)) (by (exact Dig.size _)) ?_)))
  go_upto_region 5 with (go_big_may; fail)
  go_upto_region 7 with (go_big_may; fail)
  go_upto_region 8 with (go_big_may; fail)
  go_wp2_with (fail)
  clear HN
  obtain ⟨n, hn⟩ : ∃ n, n = 2 ^ k0 := ⟨_, rfl⟩
  have HNk := Lib.hid hn
  rewrite [← hn] at hst
  clear hn
  go_loopg [8, 9] k0 (fun gk s8 s9 wr => ∃ (i z : Nat), Hid (i + gk = k0) ∧ Hid (z = 2 ^ i) ∧ s8 = .int .i64 (z : Int) ∧ s9 = .int .i64 (i : Int) ∧ St w wr (Ch g seed (n - 1) (n - 1) A c ++ [.blk g2 23 seed.arr]))
  case atStart => exact ⟨0, 1, Lib.hid (by omega), Lib.hid rfl, rfl, rfl, hst⟩
  case round =>
    clear hst
    obtain ⟨i, z, HI, HZ, rfl, rfl, hst⟩ := hrel
    have hi := HI.out
    by_cases hin : i < k0
    · have hz : z ≤ 1024 := by
        rw [HZ.out]
        exact Nat.le_trans (Nat.pow_le_pow_right (n := 2) (by decide) (show i ≤ 10 by omega)) (by decide)
      clear hi
      go_upto_region 11 with (go_big_may; fail)
      go_upto_region 10 with (go_big_may; fail)
      go_wp2_with (fail)
      go_roundg (gk - 1)
      case measure => have := HI.out; omega
      case rel => exact ⟨i + 1, 2 * z, Lib.hid (by have := HI.out; omega), Lib.hid (by rw [HZ.out, Nat.pow_succ, Nat.mul_comm]), by go_num, by go_num, hst⟩
    · obtain rfl : i = k0 := by omega
      obtain rfl : z = n := by rw [HZ.out, HNk.out]
      have hn1 : 1 ≤ z := by rw [HZ.out]; exact Nat.two_pow_pos i
      have hn2 : z ≤ 1024 := by
        rw [HZ.out]
        exact Nat.le_trans (Nat.pow_le_pow_right (n := 2) (by decide) hk10) (by decide)
      have HB := Lib.hid (fun (m : Nat) (h : m < z) => onesN_bits i m (by rw [← HZ.out]; exact h))
      obtain ⟨y, rfl⟩ : ∃ y, z = y + 1 := ⟨z - 1, by omega⟩
      rewrite [Nat.add_sub_cancel] at hst
      clear hi hin HI HZ HNk hn1
      go_upto_region 12 with (go_big_may; fail)
      go_upto_region 13 with (go_big_may; (refine L_allocA (d := some 10) rfl rfl rfl el_api_Digest ?_; (try clear hnew); intro g10 W10 hnew; replace hst := hst.trans hnew; simp only [List.cons_append, List.nil_append] at hst))
      go_wp2_with (fail)
      simp only [Ch, List.cons_append, List.nil_append] at hst
      replace hst : St w _ (ChS g seed (y + 1) A c ++ [.blk g10 23 zeroD.arr, .blk g2 23 seed.arr]) := hst.pick [1, 2, 0, 3] (by decide)
      go_loopg [11] (y + 1) (fun gk s11 wr => ∃ (v : Int) (lst : Dig) (A1 : Option Addr) (c1 : Nat), Hid (v = (gk : Int) - 1) ∧ Hid (gk ≤ y + 1) ∧ Hid (gk < y + 1 → lst = walkN seed gk) ∧ s11 = .int .i64 v ∧ St w wr (ChS g seed gk A1 c1 ++ [.blk g10 23 lst.arr, .blk g2 23 seed.arr]))
      case atStart => exact ⟨_, zeroD, A, c, Lib.hid rfl, Lib.hid (by omega), Lib.hid (fun h => absurd h (by omega)), by go_num, hst⟩
      case round =>
        clear hst
        obtain ⟨v, lst, A1, c1, HV, HGk, HLs, rfl, hst⟩ := hrel
        cases gk with
        | zero =>
          obtain rfl : v = -1 := HV.out
          obtain rfl : lst = seed := HLs.out (by omega)
          have HD := Lib.hid (show decide (lst = lst) = true from decide_eq_true rfl)
          clear HV HGk HLs HB
          unfold ChS at hst
          simp only [List.cons_append, List.nil_append] at hst
          go_upto_region 32 with (go_big_may; fail)
          go_upto_region 33 with (go_big_may; (go_at_call 7; refine (cnext_none _ _ _ _ w _ _ hst).mono ?_; rintro e Wx ⟨rfl, hst'⟩; clear hst; have hst := hst'; clear hst'))
          go_upto_region 34 with (go_big_may; (go_at_call 5; (try clear hnew); refine (sError_any 6 _ (HEb.out.of hst)).mono ?_; rintro e Wk5 ⟨rfl, hnew⟩; replace hst := hst.keep hnew))
          go_wp2_with (first | (go_at_call 6; refine (ckept_any _ _ _ _ _ w _ _ hst).mono ?_; rintro e Wx ⟨rfl, hst'⟩; clear hst; have hst := hst'; clear hst') | ((refine L_loadA (d := some 126) rfl rfl rfl (by rfl) Tryd.underlying23 rfl el_api_Digest (by (exact hst.get 1 rfl)) (by (exact Dig.size _)) ?_)) | ((refine L_loadA (d := some 127) rfl rfl rfl (by rfl) Tryd.underlying23 rfl el_api_Digest (by (exact hst.get 2 rfl)) (by (exact Dig.size _)) ?_)) | (refine L_eqD (d := some 128) rfl rfl rfl Tryd.underlying23 Tryd.underlying5 el_uint8 eqG_D (ev_tmp rfl) (ev_tmp rfl) ?_; (try rw [HD.out])))
          go_ret
          exact ⟨rfl, hst.forget⟩
        | succ m =>
          obtain rfl : v = (m : Int) := by rw [HV.out]; omega
          have hm : m ≤ y := by have := HGk.out; omega
          have hr0 := HB.out m (by omega)
          obtain ⟨r, hr⟩ : ∃ r, r = onesN m + 1 := ⟨_, rfl⟩
          have hr1 : 1 ≤ r ∧ r ≤ i + 1 := by omega
          have e1 : decide ((r : Int) < 1) = false := decide_eq_false (by omega)
          have p1 : ¬ (r : Int) < 1 := by omega
          have p2 : ¬ (i : Int) + 1 < (r : Int) := by omega
          have HNx := Lib.hid (fun (w' : World) (L : List Res) (h : St w w' (Ch g seed m m A1 c1 ++ L)) => cnext_any seed g m c1 A1 w w' L HT.out (by omega) h)
          unfold ChS at hst
          have HKp := Lib.hid (fun (w' : World) (L : List Res) (h : St w w' (Ch g seed m m A1 c1 ++ L)) => show Calls Tryd.prog 6 #[.pointer (some ⟨g, 0, none⟩)] w' fun e w2 => e = .returned (.int .i64 (r : Int)) ∧ St w w2 (Ch g seed m m A1 c1 ++ L) by
            rw [hr]
            exact ckept_any g (onesN m + 1) c1 A1 (m : Int) w w' (.row A1 (onesN m + 1) c1 38 33 (pairsL (keptP seed m)) :: L) h)
          clear hr0 hr
          go_upto_region 16 with (go_big_may; fail)
          go_upto_region 17 with (go_big_may; (go_at_call 6; refine (HKp.out _ _ hst).mono ?_; rintro e Wx ⟨rfl, hst'⟩; clear hst; have hst := hst'; clear hst'))
          clear HKp
          go_upto_region 18 with (go_big_may; first | (go_at_call 7; refine (HNx.out _ _ hst).mono ?_; rintro e Wx ⟨rfl, A2, c2, hst'⟩; clear hst; have hst := hst'; clear hst') | (refine L_allocA (d := some 13) rfl rfl rfl el_api_Digest ?_; (try clear hnew); intro g13 W13 hnew; replace hst := hst.trans hnew; simp only [List.cons_append, List.nil_append] at hst) | (refine wpl_at (.store 23 (.tmp 13) (.tmp 63)) rfl ?_; (refine L_storeA rfl rfl hst rfl (by rfl) (ev_tmp rfl) (by (exact Dig.one _)) el_api_Digest (by (exact Dig.size _)) 0 rfl (by (rfl)) ?_; clear hst; intro WS6 hst; simp only [List.set_cons_zero, List.set_cons_succ] at hst)))
          clear hnew
          replace hst := St.back (X := .blk g13 _ _ :: ChS g seed m A2 c2) (Y := [_, _]) hst
          simp only [List.cons_append, List.nil_append] at hst
          obtain ⟨D, hD⟩ : ∃ D, D = walkN seed m := ⟨_, rfl⟩
          have HDm := Lib.hid hD
          rewrite [← hD] at hst
          rewrite [← hD]
          clear HNx HB
          by_cases cm : m = y
          · subst cm
            have HW0 := Lib.hid (fun (w' : World) (ht : Tb w') => cwalk_any seed 0 w' ht (by decide))
            have HDn := Lib.hid (show (!decide (D = D)) = false by simp)
            clear hD HLs
            go_upto_region 20 with (go_big_may; fail)
            go_upto_region 21 with (go_big_may; fail)
            go_upto_region 22 with (go_big_may; first | (go_at_call 8; (try clear hnew); refine (HW0.out _ (HT.out.of hst)).mono ?_; rintro e Ww ⟨rfl, hnew⟩; replace hst := hst.keep hnew) | ((refine L_loadA (d := some 82) rfl rfl rfl (by rfl) Tryd.underlying23 rfl el_api_Digest (by (exact hst.get 1 rfl)) (by (exact Dig.size _)) ?_)) | (refine L_allocA (d := some 15) rfl rfl rfl el_api_Digest ?_; (try clear hnew); intro g15 W15 hnew; replace hst := hst.trans hnew; simp only [List.cons_append, List.nil_append] at hst) | (refine wpl_at (.store 23 (.tmp 15) (.tmp 84)) rfl ?_; (refine L_storeA rfl rfl hst rfl (by rfl) (ev_tmp rfl) (by (exact Dig.one _)) el_api_Digest (by (exact Dig.size _)) 0 rfl (by (rfl)) ?_; clear hst; intro WS6 hst; simp only [List.set_cons_zero, List.set_cons_succ] at hst)))
            go_wp2_with (fail)
            (try clear hnew)
            clear HW0
            go_loopg [16, 17] m (fun gk s16 s17 wr => ∃ (s : Nat), Hid (s = gk) ∧ Hid (s ≤ m) ∧ s16 = .nilIface ∧ s17 = .int .i64 (s : Int) ∧ St w wr (.blk g15 23 (walkN seed (m - s)).arr :: .blk g10 23 lst.arr :: .blk g2 23 seed.arr :: .blk g13 23 D.arr :: ChS g seed m A2 c2))
            case atStart => exact ⟨m, Lib.hid rfl, Lib.hid (Nat.le_refl _), rfl, by go_num, by rw [Nat.sub_self]; exact hst⟩
            case round =>
              clear hst
              obtain ⟨s, HS, HSm, rfl, rfl, hst⟩ := hrel
              have hsm := HSm.out
              by_cases cs : s = 0
              · subst cs
                rewrite [Nat.sub_zero, ← HDm.out] at hst
                clear hsm HS HSm
                go_upto_region 27 with (first | (with_reducible refine L_pass (t := 91) rfl (by kernel_rfl) ?_) | (with_reducible refine L_pass (t := 92) rfl (by kernel_rfl) ?_))
                go_upto_region 31 with (go_big_may; first | ((refine L_loadA (d := some 108) rfl rfl rfl (by rfl) Tryd.underlying23 rfl el_api_Digest (by (exact hst.get 0 rfl)) (by (exact Dig.size _)) ?_)) | ((refine L_loadA (d := some 109) rfl rfl rfl (by rfl) Tryd.underlying23 rfl el_api_Digest (by (exact hst.get 3 rfl)) (by (exact Dig.size _)) ?_)) | (refine L_neD (d := some 110) rfl rfl rfl Tryd.underlying23 Tryd.underlying5 el_uint8 eqG_D (ev_tmp rfl) (ev_tmp rfl) ?_; (try rw [HDn.out])))
                go_upto_region 15 with (go_big_may; first | ((refine L_loadA (d := some 116) rfl rfl rfl (by rfl) Tryd.underlying23 rfl el_api_Digest (by (exact hst.get 3 rfl)) (by (exact Dig.size _)) ?_)) | (refine wpl_at (.store 23 (.tmp 10) (.tmp 116)) rfl ?_; (refine L_storeA rfl rfl hst rfl (by rfl) (ev_tmp rfl) (by (exact Dig.one _)) el_api_Digest (by (exact Dig.size _)) 1 rfl (by (exact Dig.size _)) ?_; clear hst; intro WS1 hst; simp only [List.set_cons_zero, List.set_cons_succ] at hst)))
                go_wp2_with (fail)
                go_roundg m
                case measure => omega
                case rel =>
                  refine ⟨(m : Int) - 1, D, A2, c2, Lib.hid rfl, Lib.hid (by omega), Lib.hid (fun _ => HDm.out), by go_num, ?_⟩
                  exact (St.back (X := [_, _, _, _]) (Y := ChS g seed m A2 c2) hst).drop (List.Sublist.append (List.Sublist.refl _) (.cons _ (.cons_cons _ (.cons_cons _ (.cons _ .slnil)))))
              · obtain ⟨D2, hD2⟩ : ∃ D2, D2 = walkN seed (m - s) := ⟨_, rfl⟩
                have HD2 := Lib.hid hD2
                rewrite [← hD2] at hst
                clear hD2
                have p5 : (0 : Int) < (s : Int) := by omega
                by_cases cg : 1000 < s
                · have HW := Lib.hid (fun (w' : World) (ht : Tb w') => cwalk_any D2 1000 w' ht (by decide))
                  have HE := Lib.hid (show walkN D2 1000 = walkN seed (m - (s - 1000)) by rw [HD2.out, walkN_add]; congr 1; omega)
                  have p6 : (1000 : Int) < (s : Int) := by omega
                  rewrite [HE.out] at HW
                  go_upto_region 24 with (go_big_may; fail)
                  go_upto_region 25 with (go_big_may; fail)
                  go_upto_region 26 with (go_big_may; first | (go_at_call 8; (try clear hnew); refine (HW.out _ (HT.out.of hst)).mono ?_; rintro e Ww ⟨rfl, hnew⟩; replace hst := hst.keep hnew) | ((refine L_loadA (d := some 97) rfl rfl rfl (by rfl) Tryd.underlying23 rfl el_api_Digest (by (exact hst.get 0 rfl)) (by (exact Dig.size _)) ?_)) | (refine wpl_at (.store 23 (.tmp 15) (.tmp 100)) rfl ?_; (refine L_storeA rfl rfl hst rfl (by rfl) (ev_tmp rfl) (by (exact Dig.one _)) el_api_Digest (by (exact Dig.size _)) 0 rfl (by (exact Dig.size _)) ?_; clear hst; intro WS6 hst; simp only [List.set_cons_zero, List.set_cons_succ] at hst)))
                  go_wp2_with (fail)
                  (try clear hnew)
                  go_roundg (s - 1000)
                  case measure => have := HS.out; omega
                  case rel => exact ⟨s - 1000, Lib.hid rfl, Lib.hid (by omega), rfl, by go_num, hst⟩
                · have HW := Lib.hid (fun (w' : World) (ht : Tb w') => cwalk_any D2 s w' ht (by omega))
                  have HE := Lib.hid (show walkN D2 s = walkN seed (m - 0) by rw [HD2.out, walkN_add]; congr 1; omega)
                  have p6 : ¬ (1000 : Int) < (s : Int) := by omega
                  rewrite [HE.out] at HW
                  go_upto_region 24 with (go_big_may; fail)
                  go_upto_region 25 with (go_big_may; fail)
                  go_upto_region 26 with (go_big_may; first | (go_at_call 8; (try clear hnew); refine (HW.out _ (HT.out.of hst)).mono ?_; rintro e Ww ⟨rfl, hnew⟩; replace hst := hst.keep hnew) | ((refine L_loadA (d := some 97) rfl rfl rfl (by rfl) Tryd.underlying23 rfl el_api_Digest (by (exact hst.get 0 rfl)) (by (exact Dig.size _)) ?_)) | (refine wpl_at (.store 23 (.tmp 15) (.tmp 100)) rfl ?_; (refine L_storeA rfl rfl hst rfl (by rfl) (ev_tmp rfl) (by (exact Dig.one _)) el_api_Digest (by (exact Dig.size _)) 0 rfl (by (exact Dig.size _)) ?_; clear hst; intro WS6 hst; simp only [List.set_cons_zero, List.set_cons_succ] at hst)))
                  go_wp2_with (fail)
                  (try clear hnew)
                  go_roundg 0
                  case measure => have := HS.out; omega
                  case rel => exact ⟨0, Lib.hid rfl, Lib.hid (by omega), rfl, by go_num, hst⟩
          · have hlst : lst = stepN D := by rw [HLs.out (by omega), hD]; rfl
            have HSt := Lib.hid (fun (w' : World) (ht : Tb w') => by
              have := step_any D w' ht
              rewrite [← hlst] at this
              exact this)
            have HDn := Lib.hid (show (!decide (lst = lst)) = false by simp)
            have e3 : ((m : Int) == (y : Int)) = false := by rw [beq_eq_false_iff_ne]; omega
            clear hD HLs hlst
            go_upto_region 20 with (go_big_may; fail)
            go_upto_region 29 with (go_big_may; fail)
            refine wp_region_idx [(0, 0), (2, 0), (1, 2), (3, 2)] (by kernel_rfl) (by kernel_rfl) ?_
            replace hst := hst.drew
            refine idx_q rfl rfl ?_; go_wp2_with (((refine L_loadA (d := some 112) rfl rfl rfl (by rfl) Tryd.underlying23 rfl el_api_Digest (by (exact hst.get 2 rfl)) (by (exact Dig.size _)) ?_)))
            refine idx_q rfl rfl ?_; go_wp2_with (((refine L_loadA (d := some 114) rfl rfl rfl (by rfl) Tryd.underlying23 rfl el_api_Digest (by (exact hst.get 0 rfl)) (by (exact Dig.size _)) ?_)))
            refine idx_g rfl ?_; go_wp2_with ((go_at_call 9; (try clear hnew); refine (HSt.out _ (HT.out.of hst)).mono ?_; rintro e Ww ⟨rfl, hnew⟩; replace hst := hst.keep hnew)); refine ⟨by (exact hnew.below), ?_⟩
            refine idx_g rfl ?_; go_wp2_with ((refine L_neD (d := some 115) rfl rfl rfl Tryd.underlying23 Tryd.underlying5 el_uint8 eqG_D (ev_tmp rfl) (ev_tmp rfl) ?_; (try rw [HDn.out]))); refine ⟨by (exact Below.refl _ _), ?_⟩
            refine idx_nil ?_
            (try clear hnew)
            go_upto_region 31 with fail
            go_upto_region 15 with (go_big_may; first | ((refine L_loadA (d := some 116) rfl rfl rfl (by rfl) Tryd.underlying23 rfl el_api_Digest (by (exact hst.get 2 rfl)) (by (exact Dig.size _)) ?_)) | (refine wpl_at (.store 23 (.tmp 10) (.tmp 116)) rfl ?_; (refine L_storeA rfl rfl hst rfl (by rfl) (ev_tmp rfl) (by (exact Dig.one _)) el_api_Digest (by (exact Dig.size _)) 0 rfl (by (exact Dig.size _)) ?_; clear hst; intro WS1 hst; simp only [List.set_cons_zero, List.set_cons_succ] at hst)))
            go_wp2_with (fail)
            go_roundg m
            case measure => omega
            case rel =>
              refine ⟨(m : Int) - 1, D, A2, c2, Lib.hid rfl, Lib.hid (by omega), Lib.hid (fun _ => HDm.out), by go_num, ?_⟩
              exact (St.back (X := [_, _, _]) (Y := ChS g seed m A2 c2) hst).drop (List.Sublist.append (List.Sublist.refl _) (.cons_cons _ (.cons_cons _ (.cons _ .slnil))))
end Go.Proofs.YtkkmfkpanpjgbaaDoor
