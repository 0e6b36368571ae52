/-
  Proved here: the contracts of the reference's chains, digits and chain keys' secrets. Condition: numbers within their bounds.
-/
import Derived.Test.YtfpppmamkmaneaaDoorRefMac
import Derived.Test.YtfpppmamkmaneaaDoorRefWalk
import Derived.Test.YtfpppmamkmaneaaDoorWotsB
import Derived.Test.YtfpppmamkmaneaaDoorSameD
set_option maxRecDepth 20000
namespace Go.Proofs.YtfpppmamkmaneaaDoor
open Go.RowKit

set_option maxHeartbeats 1000000 in
theorem rwsecret_any (seed : Dig) (i : Nat) (hi : i < 256) (w : World) : Calls Tryd.prog 75 #[seed.v, .int .i64 (i : Int)] w fun e w' => e = .returned (wSecretN seed i).v ∧ St w w' [] := by
  have hst := St.refl w
  have HB := Lib.hid (show [Value.int .u8 5, .int .u8 (i : Int)] = bytesL [5, UInt8.ofNat i] by rw [byteV_of i hi]; rfl)
  go_enter Tryd.func75, Tryd.ntmps75
  go_wp2_with (first
    | (go_at_call 95; (try clear hnew); with_reducible refine (rkeyed_any seed [5, UInt8.ofNat i] _ _ _ _ (by rw [← HB.out]; exact hst.sl 0 rfl) (by decide)).mono ?_; rintro e Wk1 ⟨rfl, hnew⟩; replace hst := hst.keep hnew)
    | (refine L_boxA (d := some 2) rfl rfl rfl (ev_tmp rfl) ?_; (try clear hnew); intro g2 W2 hnew; replace hst := hst.trans hnew; simp only [List.cons_append, List.nil_append] at hst)
    | (refine L_allocA (d := some 4) rfl rfl rfl el_api_Digest ?_; (try clear hnew); intro g4 W4 hnew; replace hst := hst.trans hnew; simp only [List.cons_append, List.nil_append] at hst)
    | (first | (refine L_loadA (d := some 5) rfl rfl rfl (by rfl) Tryd.underlying25 rfl el_api_Digest (by first | exact hst.get 0 rfl | exact hst.get 1 rfl | exact hst.get 2 rfl) (by first | rfl | exact Dig.size _ | (simp; done)) ?_) | (refine L_loadM (d := some 5) rfl rfl rfl (by rfl) Tryd.underlying25 rfl el_api_Digest (by first | assumption) (by first | rfl | exact Dig.size _ | (simp; done)) ?_))
    | (refine L_buildS (d := some 8) rfl rfl rfl [_, _] (bs_2 ev_const (ev_tmp rfl)) rfl Tryd.underlying44 el_uint8 rfl (by first | (simp [Value.cells]; done) | (simp [Value.cells, Dig.size]; done)) (by decide) (by decide) ?_; (try clear hnew); intro g8 W8 hnew; replace hst := hst.trans hnew; simp only [List.cons_append, List.nil_append] at hst; simp only [List.flatMap_cons, List.flatMap_nil, List.append_nil, Value.cells, List.toList_toArray] at hst)
    | (refine wpl_at (.store 25 (.tmp 4) (.tmp 9)) rfl ?_; first | (refine L_storeA rfl rfl hst rfl (by rfl) (ev_tmp rfl) (by first | rfl | exact Dig.one _ | (simp; done)) el_api_Digest (by first | rfl | exact Dig.size _ | (simp; done)) 0 rfl (by first | rfl | exact Dig.size _ | (simp; done)) ?_; clear hst; intro WS5 hst; simp only [List.set_cons_zero, List.set_cons_succ] at hst) | (refine L_storeA rfl rfl hst rfl (by rfl) (ev_tmp rfl) (by first | rfl | exact Dig.one _ | (simp; done)) el_api_Digest (by first | rfl | exact Dig.size _ | (simp; done)) 1 rfl (by first | rfl | exact Dig.size _ | (simp; done)) ?_; clear hst; intro WS5 hst; simp only [List.set_cons_zero, List.set_cons_succ] at hst) | (refine L_storeA rfl rfl hst rfl (by rfl) (ev_tmp rfl) (by first | rfl | exact Dig.one _ | (simp; done)) el_api_Digest (by first | rfl | exact Dig.size _ | (simp; done)) 2 rfl (by first | rfl | exact Dig.size _ | (simp; done)) ?_; clear hst; intro WS5 hst; simp only [List.set_cons_zero, List.set_cons_succ] at hst) | (refine L_storeM rfl rfl hst rfl (by rfl) (ev_tmp rfl) (by first | rfl | exact Dig.one _ | (simp; done)) el_api_Digest (by first | rfl | exact Dig.size _ | (simp; done)) 0 rfl (by first | exact of_decide_eq_true rfl | (simp; done)) ?_; clear hst; intro WS5 hst; simp only [List.set_cons_zero, List.set_cons_succ] at hst)  | (refine L_storeM rfl rfl hst rfl (by rfl) (ev_tmp rfl) (by first | rfl | exact Dig.one _ | (simp; done)) el_api_Digest (by first | rfl | exact Dig.size _ | (simp; done)) 1 rfl (by first | exact of_decide_eq_true rfl | (simp; done)) ?_; clear hst; intro WS5 hst; simp only [List.set_cons_zero, List.set_cons_succ] at hst)  | (refine L_storeM rfl rfl hst rfl (by rfl) (ev_tmp rfl) (by first | rfl | exact Dig.one _ | (simp; done)) el_api_Digest (by first | rfl | exact Dig.size _ | (simp; done)) 2 rfl (by first | exact of_decide_eq_true rfl | (simp; done)) ?_; clear hst; intro WS5 hst; simp only [List.set_cons_zero, List.set_cons_succ] at hst))
    | fail)
  refine bp_cell rfl rfl rfl (hst.get 1 rfl) Tryd.underlying25 rfl el_api_Digest (by first | rfl | exact Dig.size _ | (simp; done)) ?_
  exact ⟨rfl, hst.forget⟩

theorem nibs_at : ∀ (d : List UInt8) (i : Nat), i < 2 * d.length → (nibs d)[i]? = some (if i % 2 = 1 then (d.getD (i / 2) 0).toNat % 16 else (d.getD (i / 2) 0).toNat / 16)
  | [], i, h => by simp at h
  | b :: d, 0, _ => by simp [nibs]
  | b :: d, 1, _ => by simp [nibs]
  | b :: d, i + 2, h => by
    have := nibs_at d i (by simp only [List.length_cons] at h; omega)
    have e1 : (i + 2) / 2 = i / 2 + 1 := by omega
    have e2 : (i + 2) % 2 = i % 2 := by omega
    simp only [nibs, List.flatMap_cons] at this ⊢
    rw [List.getElem?_append_right (by simp)]
    simp only [List.length_cons, List.length_nil, Nat.zero_add, Nat.reduceAdd, Nat.add_sub_cancel, e1, e2, List.getD_cons_succ]
    exact this
theorem sum_lack : ∀ d : List UInt8, ((nibs d).map (15 - ·)).sum = lack d
  | [] => rfl
  | b :: d => by
    have := sum_lack d
    have hb := UInt8.toNat_lt b
    simp only [nibs, lack, List.flatMap_cons, List.map_append, List.map_cons, List.map_nil, List.sum_append, List.sum_cons, List.sum_nil] at this ⊢
    omega
theorem natsL_append (a b : List Nat) : natsL (a ++ b) = natsL a ++ natsL b := by simp [natsL]

set_option maxHeartbeats 1000000 in
theorem rnibbles_any (m : Dig) (w : World) : Calls Tryd.prog 45 #[m.v] w fun e w' => ∃ A c, e = .returned (.slice A 67 c) ∧ St w w' [.row A 67 c 3 1 (natsL (digitsN m.l))] := by
  have hst := St.refl w
  have hln : (nibs m.l).length = 64 := by rw [length_nibs, m.h]
  have hlk : lack m.l ≤ 960 := by have := lack_le m.l; rw [m.h] at this; exact this
  have hsl := sum_lack m.l
  obtain ⟨N, hN⟩ : ∃ N, N = nibs m.l := ⟨_, rfl⟩
  have HNA := Lib.hid (fun i (h : i < 64) => show N[i]? = some (if i % 2 = 1 then (m.l.getD (i / 2) 0).toNat % 16 else (m.l.getD (i / 2) 0).toNat / 16) by rw [hN]; exact nibs_at m.l i (by rw [m.h]; exact h))
  have HM := Lib.hid (fun i (h : i < 32) => show m.arr[i]? = some (.int .u8 (((m.l.getD i 0).toNat : Nat) : Int)) by
    have := m.h
    simp [Dig.arr, bytesV, bytesL, byteV, this, h])
  have HD := Lib.hid (show natsL (digitsN m.l) = natsL N ++ natsL [lack m.l / 256, lack m.l / 16 % 16, lack m.l % 16] by rw [digitsN, natsL_append, hN])
  have HL := Lib.hid (show N.length = 64 by rw [hN]; exact hln)
  have HS := Lib.hid (show (N.map (15 - ·)).sum = lack m.l by rw [hN]; exact hsl)
  clear hN hsl hln
  generalize lack m.l = lk at *
  go_enter Tryd.func45, Tryd.ntmps45
  go_wp2_with (first
    | (refine L_boxA (d := some 1) rfl rfl rfl (ev_tmp rfl) ?_; (try clear hnew); intro g1 W1 hnew; replace hst := hst.trans hnew; simp only [List.cons_append, List.nil_append] at hst)
    | fail)
  clear hnew
  have hst : St w W1 [.row none 0 0 3 1 (natsL (N.take 0)), .blk g1 25 m.arr] := hst.nilRow 3 1
  go_loopg [3, 4, 5, 6] 64 (fun gk s3 s4 s5 s6 wr => ∃ (i : Nat) (O : Option Addr) (oc : Nat), Hid (i + gk = 64) ∧ s3 = .slice O i oc ∧ s4 = .int .i64 ((((N.take i).map (15 - ·)).sum : Nat) : Int) ∧ s5 = .int .i64 (i : Int) ∧ St w wr [.row O i oc 3 1 (natsL (N.take i)), .blk g1 25 m.arr])
  case atStart => exact ⟨0, _, _, Lib.hid rfl, rfl, rfl, rfl, hst⟩
  case round =>
    clear hst
    obtain ⟨i, O, oc, HI, rfl, rfl, rfl, hst⟩ := hrel
    have hi := HI.out
    by_cases h64 : i < 64
    · clear hi
      have hl := HL.out
      have hle : ((N.take i).map (15 - ·)).sum ≤ 15 * i := by
        have : ∀ l : List Nat, (l.map (15 - ·)).sum ≤ 15 * l.length := by
          intro l
          induction l with
          | nil => simp
          | cons x l ih => simp only [List.map_cons, List.sum_cons, List.length_cons]; omega
        have h1 := this (N.take i)
        rw [List.length_take] at h1
        omega
      have hn := HNA.out i h64
      have hm := HM.out (i / 2) (by omega)
      have hby := UInt8.toNat_lt (m.l.getD (i / 2) 0)
      rw [List.getElem?_eq_getElem (by omega), Option.some.injEq] at hn
      have htk : N.take (i + 1) = N.take i ++ [N[i]'(by omega)] := List.take_succ_eq_append_getElem (by omega)
      have hts : ((N.take (i + 1)).map (15 - ·)).sum = ((N.take i).map (15 - ·)).sum + (15 - N[i]'(by omega)) := by
        rw [htk, List.map_append, List.sum_append]
        simp
      rw [hn] at htk hts
      generalize (m.l.getD (i / 2) 0).toNat = x at *
      have HM1 := Lib.hid hm
      generalize ((N.take i).map (15 - ·)).sum = sm at *
      clear hn hm hl
      by_cases hp : i % 2 = 1
      · have hp1 : ((i : Int) % 2 == 1) = true := by simp; omega
        rw [if_pos hp] at htk hts
        have HT := Lib.hid htk
        have HTS := Lib.hid hts
        clear htk hts hp
        go_wp2_with (first
          | (refine L_load1 (d := some 14) rfl rfl rfl (by rfl) Tryd.underlying5 rfl (by first | assumption | exact cell_of (hst.get 0 rfl) HM1.out | exact cell_of (hst.get 0 rfl) rfl | exact cell_of (hst.get 1 rfl) HM1.out | exact cell_of (hst.get 1 rfl) rfl | exact cell_of (hst.get 2 rfl) HM1.out | exact cell_of (hst.get 2 rfl) rfl) ?_)
          | (refine L_load1 (d := some 23) rfl rfl rfl (by rfl) Tryd.underlying5 rfl (by first | assumption | exact cell_of (hst.get 0 rfl) HM1.out | exact cell_of (hst.get 0 rfl) rfl | exact cell_of (hst.get 1 rfl) HM1.out | exact cell_of (hst.get 1 rfl) rfl | exact cell_of (hst.get 2 rfl) HM1.out | exact cell_of (hst.get 2 rfl) rfl) ?_)
          | (refine L_buildS (d := some 28) rfl rfl rfl [_] (bs_1 (ev_tmp rfl)) rfl Tryd.underlying63 el_int rfl (by first | (simp [Value.cells]; done) | (simp [Value.cells, Dig.size]; done)) (by decide) (by decide) ?_; (try clear hnew); intro g28 W28 hnew; replace hst := hst.trans hnew; simp only [List.cons_append, List.nil_append] at hst; simp only [List.flatMap_cons, List.flatMap_nil, List.append_nil, Value.cells, List.toList_toArray] at hst)
          | (refine L_appendO (d := some 29) rfl rfl hst rfl (by rfl) (by rfl) Tryd.underlying63 el_int rfl (by decide) (by decide) 0 rfl (by first | rfl | omega) (by first | exact hst.sl 0 rfl | exact hst.sl 1 rfl | exact hst.sl 2 rfl | assumption | exact hst.old (by decide) (by assumption)) (by first | exact oneCell_bytes | (simp [Value.oneCell']; done)) (by omega) ?_; clear hst; intro A29 c29 W29 hst; simp only [List.set_cons_zero, List.set_cons_succ, List.nil_append, Nat.zero_add] at hst)
          | (refine L_appendO (d := some 29) rfl rfl hst rfl (by rfl) (by rfl) Tryd.underlying63 el_int rfl (by decide) (by decide) 1 rfl (by first | rfl | omega) (by first | exact hst.sl 0 rfl | exact hst.sl 1 rfl | exact hst.sl 2 rfl | assumption | exact hst.old (by decide) (by assumption)) (by first | exact oneCell_bytes | (simp [Value.oneCell']; done)) (by omega) ?_; clear hst; intro A29 c29 W29 hst; simp only [List.set_cons_zero, List.set_cons_succ, List.nil_append, Nat.zero_add] at hst)
          | (refine L_appendO (d := some 29) rfl rfl hst rfl (by rfl) (by rfl) Tryd.underlying63 el_int rfl (by decide) (by decide) 2 rfl (by first | rfl | omega) (by first | exact hst.sl 0 rfl | exact hst.sl 1 rfl | exact hst.sl 2 rfl | assumption | exact hst.old (by decide) (by assumption)) (by first | exact oneCell_bytes | (simp [Value.oneCell']; done)) (by omega) ?_; clear hst; intro A29 c29 W29 hst; simp only [List.set_cons_zero, List.set_cons_succ, List.nil_append, Nat.zero_add] at hst)
          | (refine L_appendF (d := some 29) rfl rfl rfl (by rfl) (by rfl) Tryd.underlying63 el_int rfl (by decide) (by assumption) (by first | assumption | exact hst.sl 0 rfl | exact hst.sl 1 rfl | exact hst.sl 2 rfl | assumption | exact hst.old (by decide) (by assumption)) (by omega) (by omega) (by omega) ?_; (try clear hnew); intro A29 c29 W29 hnew; replace hst := hst.trans hnew; simp only [List.cons_append, List.nil_append] at hst)
          | fail)
        go_roundg (gk - 1)
        case measure => have hi := HI.out; omega
        case rel =>
          have hi := HI.out
          refine ⟨i + 1, A29, c29, Lib.hid (by omega), rfl, by rw [HTS.out]; congr 1; omega, by go_num, ?_⟩
          rw [HT.out, natsL_append]
          exact hst.pick [1, 2] (by decide)
      · have hp1 : ((i : Int) % 2 == 1) = false := by simp; omega
        rw [if_neg hp] at htk hts
        have HT := Lib.hid htk
        have HTS := Lib.hid hts
        clear htk hts hp
        go_wp2_with (first
          | (refine L_load1 (d := some 14) rfl rfl rfl (by rfl) Tryd.underlying5 rfl (by first | assumption | exact cell_of (hst.get 0 rfl) HM1.out | exact cell_of (hst.get 0 rfl) rfl | exact cell_of (hst.get 1 rfl) HM1.out | exact cell_of (hst.get 1 rfl) rfl | exact cell_of (hst.get 2 rfl) HM1.out | exact cell_of (hst.get 2 rfl) rfl) ?_)
          | (refine L_buildS (d := some 28) rfl rfl rfl [_] (bs_1 (ev_tmp rfl)) rfl Tryd.underlying63 el_int rfl (by first | (simp [Value.cells]; done) | (simp [Value.cells, Dig.size]; done)) (by decide) (by decide) ?_; (try clear hnew); intro g28 W28 hnew; replace hst := hst.trans hnew; simp only [List.cons_append, List.nil_append] at hst; simp only [List.flatMap_cons, List.flatMap_nil, List.append_nil, Value.cells, List.toList_toArray] at hst)
          | (refine L_appendO (d := some 29) rfl rfl hst rfl (by rfl) (by rfl) Tryd.underlying63 el_int rfl (by decide) (by decide) 0 rfl (by first | rfl | omega) (by first | exact hst.sl 0 rfl | exact hst.sl 1 rfl | exact hst.sl 2 rfl | assumption | exact hst.old (by decide) (by assumption)) (by first | exact oneCell_bytes | (simp [Value.oneCell']; done)) (by omega) ?_; clear hst; intro A29 c29 W29 hst; simp only [List.set_cons_zero, List.set_cons_succ, List.nil_append, Nat.zero_add] at hst)
          | (refine L_appendO (d := some 29) rfl rfl hst rfl (by rfl) (by rfl) Tryd.underlying63 el_int rfl (by decide) (by decide) 1 rfl (by first | rfl | omega) (by first | exact hst.sl 0 rfl | exact hst.sl 1 rfl | exact hst.sl 2 rfl | assumption | exact hst.old (by decide) (by assumption)) (by first | exact oneCell_bytes | (simp [Value.oneCell']; done)) (by omega) ?_; clear hst; intro A29 c29 W29 hst; simp only [List.set_cons_zero, List.set_cons_succ, List.nil_append, Nat.zero_add] at hst)
          | (refine L_appendO (d := some 29) rfl rfl hst rfl (by rfl) (by rfl) Tryd.underlying63 el_int rfl (by decide) (by decide) 2 rfl (by first | rfl | omega) (by first | exact hst.sl 0 rfl | exact hst.sl 1 rfl | exact hst.sl 2 rfl | assumption | exact hst.old (by decide) (by assumption)) (by first | exact oneCell_bytes | (simp [Value.oneCell']; done)) (by omega) ?_; clear hst; intro A29 c29 W29 hst; simp only [List.set_cons_zero, List.set_cons_succ, List.nil_append, Nat.zero_add] at hst)
          | (refine L_appendF (d := some 29) rfl rfl rfl (by rfl) (by rfl) Tryd.underlying63 el_int rfl (by decide) (by assumption) (by first | assumption | exact hst.sl 0 rfl | exact hst.sl 1 rfl | exact hst.sl 2 rfl | assumption | exact hst.old (by decide) (by assumption)) (by omega) (by omega) (by omega) ?_; (try clear hnew); intro A29 c29 W29 hnew; replace hst := hst.trans hnew; simp only [List.cons_append, List.nil_append] at hst)
          | fail)
        go_roundg (gk - 1)
        case measure => have hi := HI.out; omega
        case rel =>
          have hi := HI.out
          refine ⟨i + 1, A29, c29, Lib.hid (by omega), rfl, by rw [HTS.out]; congr 1; omega, by go_num, ?_⟩
          rw [HT.out, natsL_append]
          exact hst.pick [1, 2] (by decide)
    · obtain rfl : i = 64 := by omega
      have hta : N.take 64 = N := List.take_of_length_le (by rw [HL.out]; exact Nat.le_refl _)
      rw [hta] at hst
      rw [hta, HS.out]
      clear hi HI hta
      go_wp2_with (first
        | (refine L_buildS (d := some 42) rfl rfl rfl [_, _, _] (bs_3 (ev_tmp rfl) (ev_tmp rfl) (ev_tmp rfl)) rfl Tryd.underlying63 el_int rfl (by first | (simp [Value.cells]; done) | (simp [Value.cells, Dig.size]; done)) (by decide) (by decide) ?_; (try clear hnew); intro g42 W42 hnew; replace hst := hst.trans hnew; simp only [List.cons_append, List.nil_append] at hst; simp only [List.flatMap_cons, List.flatMap_nil, List.append_nil, Value.cells, List.toList_toArray] at hst)
        | (refine L_appendO (d := some 43) rfl rfl hst rfl (by rfl) (by rfl) Tryd.underlying63 el_int rfl (by decide) (by decide) 0 rfl (by first | rfl | omega) (by first | exact hst.sl 0 rfl | exact hst.sl 1 rfl | exact hst.sl 2 rfl | assumption | exact hst.old (by decide) (by assumption)) (by first | exact oneCell_bytes | (simp [Value.oneCell']; done)) (by omega) ?_; clear hst; intro A43 c43 W43 hst; simp only [List.set_cons_zero, List.set_cons_succ, List.nil_append, Nat.zero_add] at hst)
        | (refine L_appendO (d := some 43) rfl rfl hst rfl (by rfl) (by rfl) Tryd.underlying63 el_int rfl (by decide) (by decide) 1 rfl (by first | rfl | omega) (by first | exact hst.sl 0 rfl | exact hst.sl 1 rfl | exact hst.sl 2 rfl | assumption | exact hst.old (by decide) (by assumption)) (by first | exact oneCell_bytes | (simp [Value.oneCell']; done)) (by omega) ?_; clear hst; intro A43 c43 W43 hst; simp only [List.set_cons_zero, List.set_cons_succ, List.nil_append, Nat.zero_add] at hst)
        | (refine L_appendO (d := some 43) rfl rfl hst rfl (by rfl) (by rfl) Tryd.underlying63 el_int rfl (by decide) (by decide) 2 rfl (by first | rfl | omega) (by first | exact hst.sl 0 rfl | exact hst.sl 1 rfl | exact hst.sl 2 rfl | assumption | exact hst.old (by decide) (by assumption)) (by first | exact oneCell_bytes | (simp [Value.oneCell']; done)) (by omega) ?_; clear hst; intro A43 c43 W43 hst; simp only [List.set_cons_zero, List.set_cons_succ, List.nil_append, Nat.zero_add] at hst)
        | (refine L_appendF (d := some 43) rfl rfl rfl (by rfl) (by rfl) Tryd.underlying63 el_int rfl (by decide) (by assumption) (by first | assumption | exact hst.sl 0 rfl | exact hst.sl 1 rfl | exact hst.sl 2 rfl | assumption | exact hst.old (by decide) (by assumption)) (by omega) (by omega) (by omega) ?_; (try clear hnew); intro A43 c43 W43 hnew; replace hst := hst.trans hnew; simp only [List.cons_append, List.nil_append] at hst)
        | fail)
      go_ret
      refine ⟨_, _, rfl, ?_⟩
      rw [HD.out]
      exact hst.pick [1] (by decide)
end Go.Proofs.YtfpppmamkmaneaaDoor
