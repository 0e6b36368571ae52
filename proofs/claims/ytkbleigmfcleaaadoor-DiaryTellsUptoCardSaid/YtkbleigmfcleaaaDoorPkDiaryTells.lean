/-
  Proved here: DiaryTells: the law returns true for every input of the bulk that the statement names, and leaves its arguments as they were.
-/
import Derived.Test.YtkbleigmfcleaaaDoorDMark
import Derived.Test.YtkbleigmfcleaaaDoorRefWord
import Derived.Test.YtkbleigmfcleaaaDoorLawC
import Derived.Test.YtkbleigmfcleaaaDoorLawF
import Derived.Test.YtkbleigmfcleaaaDoorForkP
import Derived.Test.YtkbleigmfcleaaaDoorEl
import Derived.Test.YtkbleigmfcleaaaDoorClone
import Derived.Test.YtkbleigmfcleaaaDoorErr
import Derived.Test.YtkbleigmfcleaaaDoorLawB
import Derived.Deep.DeepCutAuto
import Derived.Deep.RegionWith
import Derived.Test.YtkbleigmfcleaaaDoorSame
import Derived.Test.YtkbleigmfcleaaaDoorDrawT
import Derived.Test.YtkbleigmfcleaaaDoorRefSum
import Derived.Test.YtkbleigmfcleaaaDoorErrs
import Derived.Test.YtkbleigmfcleaaaDoorRows
import Derived.LaidHandle
import Derived.LaidLaws
import Derived.ChangeSame
import Derived.ChangeVars
import Derived.JoinedOf
import Derived.RowKit
import Derived.RowKitTokens
import Derived.Stop.Joined
import Derived.Test.YtkbleigmfcleaaaDoorOpenS
import Derived.Test.YtkbleigmfcleaaaDoorBulkS
import Derived.Test.YtkbleigmfcleaaaDoorOpenB
import Derived.Test.YtkbleigmfcleaaaDoorCards
import Derived.Test.YtkbleigmfcleaaaDoorTie
import Derived.Deep.DeepHandedRow
import Derived.ProofKit
import Derived.OpenShut
set_option maxRecDepth 20000
set_option linter.unusedSimpArgs false
set_option linter.unusedVariables false
namespace Go.Proofs.YtkbleigmfcleaaaDoor
open Go.RowKit
def cuArr (R : Option Addr) (r rc : Nat) (L : Option Addr) (lc : Nat) : Array Value := #[.slice R r rc, .slice L 8 lc]
theorem cuArr_0 {R : Option Addr} {r rc : Nat} {L : Option Addr} {lc : Nat} : (cuArr R r rc L lc)[0]? = some (.slice R r rc) := rfl
theorem cuArr_1 {R : Option Addr} {r rc : Nat} {L : Option Addr} {lc : Nat} : (cuArr R r rc L lc)[1]? = some (.slice L 8 lc) := rfl
theorem cuArr_s0 (R R' : Option Addr) (r rc r' rc' : Nat) (L : Option Addr) (lc : Nat) : (cuArr R r rc L lc).setIfInBounds 0 (.slice R' r' rc') = cuArr R' r' rc' L lc := rfl
theorem cuArr_s1 (R : Option Addr) (r rc : Nat) (L L' : Option Addr) (lc lc' : Nat) : (cuArr R r rc L lc).setIfInBounds 1 (.slice L' 8 lc') = cuArr R r rc L' lc' := rfl
def zero8 : List UInt8 := [0, 0, 0, 0, 0, 0, 0, 0]
theorem el_diary_cutter : ElemIs Tryd.prog 99 (.agg #[.slice none 0 0, .slice none 0 0]) 2 48 := by unfold ElemIs; kernel_rfl
set_option maxHeartbeats 1000000 in
theorem begun_any (R : Option Addr) (r rc : Nat) (w : World) :
  Calls Tryd.prog 56 #[.slice R r rc] w fun e w' => ∃ (g : Nat) (Z : Option Addr), e = .returned (.pointer (some ⟨g, 0, none⟩)) ∧ St w w' [.blk g 99 (cuArr R r rc Z 8), .row Z 8 8 5 1 (bytesL zero8)] := by
 have hst := St.refl w
 go_enter Tryd.func56, Tryd.ntmps56
 go_wp2_with (first
  | (refine L_makeS (d := some 4) (n := 8) rfl rfl rfl (by rfl) (by rfl) Tryd.underlying49 el_uint8 rfl (by omega) (by first | decide | (simp only [maxLen]; omega)) ?_; (try clear hnew); intro g4 W4 hnew; replace hst := hst.trans hnew; simp only [List.cons_append, List.nil_append] at hst)
  | (refine L_boxA (d := some 6) rfl rfl rfl (ev_tmp rfl) ?_; (try clear hnew); intro g6 W6 hnew; replace hst := hst.trans hnew; simp only [List.cons_append, List.nil_append] at hst)
  | fail)
 go_ret
 exact ⟨_, _, rfl, hst⟩
theorem len_cons2 (a b : UInt8) (t : List UInt8) : (a :: b :: t).length = t.length + 2 := rfl
theorem or_bytes (a b : UInt8) : bits .or .i64 ((a.toNat : Int) * 256) (b.toNat : Int) = (a.toNat : Int) * 256 + (b.toNat : Int) := by
 have hx := UInt8.toNat_lt b
 have hy := UInt8.toNat_lt a
 have h1 := i64_or_nat (a.toNat * 256) b.toNat (by omega) (by omega)
 have h2 : a.toNat * 256 ||| b.toNat = a.toNat * 256 + b.toNat := by
  have := Nat.shiftLeft_add_eq_or_of_lt (i := 8) (b := b.toNat) (by omega) a.toNat
  rw [Nat.shiftLeft_eq] at this
  exact this.symm
 rw [h2] at h1
 have e : ((a.toNat * 256 : Nat) : Int) = (a.toNat : Int) * 256 := by omega
 rw [← e, h1]
 omega
set_option maxHeartbeats 4000000 in
set_option maxRecDepth 100000 in
theorem next_none (last d : List UInt8) (g : Nat) (R Lp : Option Addr) (r rc lc : Nat) (w0 w : World) (L : List Res) (hT : Tb w0) (hd : SlR w0 R r rc 1 (bytesL d)) (hl : ∀ W, St w0 W (.blk g 99 (cuArr R r rc Lp lc) :: L) → SlR W Lp 8 lc 1 (bytesL last)) (hll : last.length = 8) (hst : St w0 w (.blk g 99 (cuArr R r rc Lp lc) :: L)) (hn : nextD last d = none) :
  Calls Tryd.prog 57 #[.pointer (some ⟨g, 0, none⟩)] w fun e w' => e = .returned (.tuple #[.slice none 0 0, .bool false]) ∧ St w0 w' (.blk g 99 (cuArr R r rc Lp lc) :: L) := by
 have HT := Lib.hid hT
 have hdl := hd.1
 have hrc := hd.2.1
 have hrm := hd.2.2.1
 simp only [maxLen] at hrm
 rw [length_bytesL, Nat.mul_one] at hdl
 clear hT
 by_cases h2 : r < 2
 ·have t1 : (r : Int) < 2 := by omega
  clear hn hdl
  go_enter Tryd.func57, Tryd.ntmps57
  go_wp2_with (first
   | (refine L_load1 (d := some 10) rfl rfl rfl (by rfl) Tryd.underlying49 rfl (by first | assumption | exact cell_of (hst.get 0 rfl) cuArr_0 | exact cell_of (hst.get 0 rfl) rfl) ?_)
   | fail)
  go_ret2
  exact ⟨rfl, hst⟩
 ·obtain ⟨a, b, t, rfl⟩ : ∃ a b t, d = a :: b :: t := by
   match d, hdl with
   | [], h => simp at h; omega
   | [_], h => simp at h; omega
   | a :: b :: t, _ => exact ⟨a, b, t, rfl⟩
  have t1 : ¬ (r : Int) < 2 := by omega
  have htl : t.length + 2 = r := by simpa using hdl
  have ha : a.toNat ≤ 255 := by have := UInt8.toNat_lt a; omega
  have hb : b.toNat ≤ 255 := by have := UInt8.toNat_lt b; omega
  obtain ⟨N, hN⟩ : ∃ N : Nat, N = a.toNat * 256 + b.toNat := ⟨_, rfl⟩
  have hor : bits .or .i64 ((a.toNat : Int) * 256) (b.toNat : Int) = (N : Int) := by rw [or_bytes a b, hN]; omega
  have HC0 := Lib.hid (show (((bytesL (a :: b :: t)).drop (Int.toNat 0 * 1)).take 1)[0]? = some (.int .u8 (a.toNat : Int)) from rfl)
  have HC1 := Lib.hid (show (((bytesL (a :: b :: t)).drop (Int.toNat 1 * 1)).take 1)[0]? = some (.int .u8 (b.toNat : Int)) from rfl)
  have HL1 := Lib.hid (show ((bytesL (a :: b :: t)).drop (2 * 1)).take ((2 + N - 2) * 1) = bytesL (t.take N) by
   rw [show (2 + N - 2) * 1 = N by omega]; simp [bytesL, List.map_take])
  have HL2 := Lib.hid (show ((bytesL (a :: b :: t)).drop ((2 + N) * 1)).take ((2 + N + 8 - (2 + N)) * 1) = bytesL ((t.drop N).take 8) by
   rw [show (2 + N + 8 - (2 + N)) * 1 = 8 by omega, show (2 + N) * 1 = N + 1 + 1 by omega]; simp [bytesL, List.map_take, List.map_drop])
  simp only [nextD, ← hN] at hn
  have hN2 : N ≤ 65535 := by omega
  clear hN
  generalize hbl : bytesL (a :: b :: t) = bl at hd HC0 HC1 HL1 HL2
  clear hbl hdl
  go_enter Tryd.func57, Tryd.ntmps57
  go_wp2_with (first
   | (refine L_load1 (d := some 10) rfl rfl rfl (by rfl) Tryd.underlying49 rfl (by first | assumption | exact cell_of (hst.get 0 rfl) cuArr_0 | exact cell_of (hst.get 0 rfl) rfl) ?_)
   | fail)
  refine wp_region_idx [(0, 0), (1, 0), (2, 0), (3, 0), (4, 0), (5, 0), (6, 0), (7, 0), (8, 2), (9, 2), (10, 2), (11, 2), (12, 2), (13, 2), (14, 2), (15, 2), (16, 2)] (by kernel_rfl) (by kernel_rfl) ?_
  replace hst := hst.drew
  refine idx_q rfl rfl ?_; go_wp2_with fail
  refine idx_q rfl rfl ?_; go_wp2_with fail
  refine idx_qf rfl rfl (by kernel_rfl) ?_; go_wp2_with fail
  refine idx_q rfl rfl ?_; go_wp2_with (first | (refine L_load1 (d := some 16) rfl rfl rfl (by rfl) Tryd.underlying49 rfl (by first | assumption | exact cell_of (hst.get 0 rfl) cuArr_0 | exact cell_of (hst.get 0 rfl) rfl) ?_) | fail)
  refine idx_q rfl rfl ?_; go_wp2_with (first | (refine L_idxS (d := some 17) rfl rfl rfl (by rfl) (by rfl) Tryd.underlying49 el_uint8 (by first | exact hst.old (by decide) hd | assumption | exact hst.sl 0 rfl | exact hst.old (by decide) (by assumption)) (by omega) (by omega) ?_; intro o17 p17 ha17 hr17; (first | subst ha17 | (obtain ⟨h1, h2⟩ := some_addr ha17; subst h1; subst h2; clear ha17) | skip)) | fail)
  refine idx_q rfl rfl ?_; go_wp2_with (first | (refine L_load1 (d := some 18) rfl rfl rfl (by rfl) Tryd.underlying5 rfl (hr17 0 _ HC0.out) ?_) | (refine L_load1 (d := some 18) rfl rfl rfl (by rfl) Tryd.underlying5 rfl (by first | assumption | exact cell_of (hst.get 0 rfl) cuArr_0 | exact cell_of (hst.get 0 rfl) rfl) ?_) | fail)
  refine idx_qc rfl rfl (by rfl) Tryd.underlying3 ?_; go_wp2_with fail
  refine idx_q rfl rfl ?_; go_wp2_with fail
  refine idx_g rfl ?_; go_wp2_with fail; refine ⟨by first | exact Below.refl _ _ | exact hnew.below, ?_⟩
  refine idx_g rfl ?_; go_wp2_with fail; refine ⟨by first | exact Below.refl _ _ | exact hnew.below, ?_⟩
  refine idx_g rfl ?_; go_wp2_with fail; refine ⟨by first | exact Below.refl _ _ | exact hnew.below, ?_⟩
  refine idx_g rfl ?_; go_wp2_with (first | (refine L_load1 (d := some 24) rfl rfl rfl (by rfl) Tryd.underlying49 rfl (by first | assumption | exact cell_of (hst.get 0 rfl) cuArr_0 | exact cell_of (hst.get 0 rfl) rfl) ?_) | fail); refine ⟨by first | exact Below.refl _ _ | exact hnew.below, ?_⟩
  refine idx_g rfl ?_; go_wp2_with (first | (refine L_idxS (d := some 25) rfl rfl rfl (by rfl) (by rfl) Tryd.underlying49 el_uint8 (by first | exact hst.old (by decide) hd | assumption | exact hst.sl 0 rfl | exact hst.old (by decide) (by assumption)) (by omega) (by omega) ?_; intro o25 p25 ha25 hr25; (first | subst ha25 | (obtain ⟨h1, h2⟩ := some_addr ha25; subst h1; subst h2; clear ha25) | skip)) | fail); refine ⟨by first | exact Below.refl _ _ | exact hnew.below, ?_⟩
  refine idx_g rfl ?_; go_wp2_with (first | (refine L_load1 (d := some 26) rfl rfl rfl (by rfl) Tryd.underlying5 rfl (hr25 0 _ HC1.out) ?_) | (refine L_load1 (d := some 26) rfl rfl rfl (by rfl) Tryd.underlying5 rfl (by first | assumption | exact cell_of (hst.get 0 rfl) cuArr_0 | exact cell_of (hst.get 0 rfl) rfl) ?_) | fail); refine ⟨by first | exact Below.refl _ _ | exact hnew.below, ?_⟩
  refine idx_g rfl ?_; go_wp2_with fail; refine ⟨by first | exact Below.refl _ _ | exact hnew.below, ?_⟩
  refine idx_g rfl ?_; go_wp2_with fail; refine ⟨by first | exact Below.refl _ _ | exact hnew.below, ?_⟩
  refine idx_g rfl ?_; go_wp2_with fail; refine ⟨by first | exact Below.refl _ _ | exact hnew.below, ?_⟩
  refine idx_nil ?_
  clear hr17 hr25 hor ha hb
  by_cases hbig : 1000 < N ∨ t.length < N + 8
  ·have hb : (1000 : Int) < (N : Int) ∨ ¬ (1000 : Int) < (N : Int) ∧ (r : Int) < 2 + (N : Int) + 8 := by omega
   clear hn hbig
   rcases hb with k1 | ⟨k1, k2⟩
   all_goals
    go_wp2_with (first
     | (refine L_load1 (d := some 35) rfl rfl rfl (by rfl) Tryd.underlying49 rfl (by first | assumption | exact cell_of (hst.get 0 rfl) cuArr_0 | exact cell_of (hst.get 0 rfl) rfl) ?_)
     | fail)
    go_ret2
    exact ⟨rfl, hst⟩
  ·rw [if_neg hbig] at hn
   have hne : ¬ ((t.drop N).take 8 = dmark last (t.take N)) := fun h => by rw [if_pos h] at hn; cases hn
   have HNE := Lib.hid (show ((t.drop N).take 8 == dmark last (t.take N)) = false by rw [beq_eq_false_iff_ne]; exact hne)
   have k1 : ¬ (1000 : Int) < (N : Int) := by omega
   have k2 : ¬ (r : Int) < 2 + (N : Int) + 8 := by omega
   have k3 : 2 + N + 8 ≤ r := by omega
   clear hn hbig hne
   go_wp2_with (first
    | (refine L_load1 (d := some 35) rfl rfl rfl (by rfl) Tryd.underlying49 rfl (by first | assumption | exact cell_of (hst.get 0 rfl) cuArr_0 | exact cell_of (hst.get 0 rfl) rfl) ?_)
    | fail)
   refine wp_region_idx [(0, 0), (1, 0), (2, 0), (3, 0), (4, 0), (5, 0), (6, 0), (7, 0), (8, 0), (9, 0), (10, 0), (11, 0), (12, 0), (13, 0), (14, 0), (15, 0), (16, 0), (17, 2), (18, 2)] (by kernel_rfl) (by kernel_rfl) ?_
   replace hst := hst.drew
   refine idx_q rfl rfl ?_; go_wp2_with fail
   refine idx_q rfl rfl ?_; go_wp2_with fail
   refine idx_qf rfl rfl (by kernel_rfl) ?_; go_wp2_with fail
   refine idx_q rfl rfl ?_; go_wp2_with (first | (refine L_load1 (d := some 45) rfl rfl rfl (by rfl) Tryd.underlying49 rfl (by first | assumption | exact cell_of (hst.get 0 rfl) cuArr_0 | exact cell_of (hst.get 0 rfl) rfl) ?_) | fail)
   refine idx_q rfl rfl ?_; go_wp2_with fail
   refine idx_q rfl rfl ?_; go_wp2_with fail
   refine idx_q rfl rfl ?_; go_wp2_with (first | (first | (refine L_cutV (d := some 48) rfl rfl rfl (by rfl) Tryd.underlying49 el_uint8 (by decide) hd 2 (2 + N) _ (Or.inr ⟨_, _, rfl, rfl⟩) (Or.inr ⟨_, _, rfl, by first | exact ev_tmp rfl | exact ev_int rfl (by omega) | (rw [ev_tmp rfl]; congr 1; omega)⟩) (Or.inl ⟨rfl, rfl⟩) (by omega) (by omega) (by omega) (by omega) ?_; intro A48 c48 hs48) | (refine L_cutO (d := some 48) rfl rfl hst rfl (by rfl) Tryd.underlying49 el_uint8 0 rfl (by first | rfl | omega) 2 (2 + N) _ (Or.inr ⟨_, _, rfl, rfl⟩) (Or.inr ⟨_, _, rfl, by first | exact ev_tmp rfl | exact ev_int rfl (by omega) | (rw [ev_tmp rfl]; congr 1; omega)⟩) (Or.inl ⟨rfl, rfl⟩) (by omega) (by omega) (by omega) (by omega) ?_; clear hst; intro A48 c48 hst; simp only [List.set_cons_zero, List.set_cons_succ] at hst) | (refine L_cutS (d := some 48) rfl rfl rfl (by rfl) Tryd.underlying49 el_uint8 (by decide) (by first | assumption | exact hst.old (by decide) (by assumption) | exact hst.sl 0 rfl) 2 (2 + N) _ (Or.inr ⟨_, _, rfl, rfl⟩) (Or.inr ⟨_, _, rfl, by first | exact ev_tmp rfl | exact ev_int rfl (by omega) | (rw [ev_tmp rfl]; congr 1; omega)⟩) (Or.inl ⟨rfl, rfl⟩) (by omega) (by omega) (by omega) (by omega) ?_; intro A48 c48 hs48)) | fail)
   refine idx_q rfl rfl ?_; go_wp2_with fail
   refine idx_q rfl rfl ?_; go_wp2_with fail
   refine idx_qf rfl rfl (by kernel_rfl) ?_; go_wp2_with fail
   refine idx_q rfl rfl ?_; go_wp2_with (first | (refine L_load1 (d := some 52) rfl rfl rfl (by rfl) Tryd.underlying49 rfl (by first | assumption | exact cell_of (hst.get 0 rfl) cuArr_0 | exact cell_of (hst.get 0 rfl) rfl) ?_) | fail)
   refine idx_q rfl rfl ?_; go_wp2_with fail
   refine idx_q rfl rfl ?_; go_wp2_with fail
   refine idx_q rfl rfl ?_; go_wp2_with fail
   refine idx_q rfl rfl ?_; go_wp2_with fail
   refine idx_q rfl rfl ?_; go_wp2_with fail
   refine idx_q rfl rfl ?_; go_wp2_with (first | (first | (refine L_cutV (d := some 58) rfl rfl rfl (by rfl) Tryd.underlying49 el_uint8 (by decide) hd (2 + N) (2 + N + 8) _ (Or.inr ⟨_, _, rfl, by first | exact ev_tmp rfl | exact ev_int rfl (by omega) | (rw [ev_tmp rfl]; congr 1; omega)⟩) (Or.inr ⟨_, _, rfl, by first | exact ev_tmp rfl | exact ev_int rfl (by omega) | (rw [ev_tmp rfl]; congr 1; omega)⟩) (Or.inl ⟨rfl, rfl⟩) (by omega) (by omega) (by omega) (by omega) ?_; intro A58 c58 hs58) | (refine L_cutO (d := some 58) rfl rfl hst rfl (by rfl) Tryd.underlying49 el_uint8 0 rfl (by first | rfl | omega) (2 + N) (2 + N + 8) _ (Or.inr ⟨_, _, rfl, by first | exact ev_tmp rfl | exact ev_int rfl (by omega) | (rw [ev_tmp rfl]; congr 1; omega)⟩) (Or.inr ⟨_, _, rfl, by first | exact ev_tmp rfl | exact ev_int rfl (by omega) | (rw [ev_tmp rfl]; congr 1; omega)⟩) (Or.inl ⟨rfl, rfl⟩) (by omega) (by omega) (by omega) (by omega) ?_; clear hst; intro A58 c58 hst; simp only [List.set_cons_zero, List.set_cons_succ] at hst) | (refine L_cutS (d := some 58) rfl rfl rfl (by rfl) Tryd.underlying49 el_uint8 (by decide) (by first | assumption | exact hst.old (by decide) (by assumption) | exact hst.sl 0 rfl) (2 + N) (2 + N + 8) _ (Or.inr ⟨_, _, rfl, by first | exact ev_tmp rfl | exact ev_int rfl (by omega) | (rw [ev_tmp rfl]; congr 1; omega)⟩) (Or.inr ⟨_, _, rfl, by first | exact ev_tmp rfl | exact ev_int rfl (by omega) | (rw [ev_tmp rfl]; congr 1; omega)⟩) (Or.inl ⟨rfl, rfl⟩) (by omega) (by omega) (by omega) (by omega) ?_; intro A58 c58 hs58)) | fail)
   refine idx_g rfl ?_; go_wp2_with fail; refine ⟨by first | exact Below.refl _ _ | exact hnew.below, ?_⟩
   refine idx_g rfl ?_; go_wp2_with fail; refine ⟨by first | exact Below.refl _ _ | exact hnew.below, ?_⟩
   refine idx_nil ?_
   rw [HL1.out, show 2 + N - 2 = N by omega] at hs48
   rw [HL2.out, show 2 + N + 8 - (2 + N) = 8 by omega] at hs58
   clear hd HL1 HL2 HC0 HC1
   go_upto_region 8 with (first
    | (go_at_call 59; (try clear hnew); refine (dmark_any last (t.take N) Lp A48 8 lc N c48 _ (HT.out.of hst) (hl _ hst) (hst.old (by decide) hs48) (by decide) (by omega)).mono ?_; rintro e Wm ⟨gm, rfl, hnew⟩; replace hst := hst.trans hnew; simp only [List.cons_append, List.nil_append] at hst)
    | (go_at_call 77; (try clear hnew); refine (equalB_any _ _ _ _ _ _ _ _ _ (hst.old (by decide) hs58) (mark_slr (hst.get 0 rfl))).mono ?_; rw [HNE.out]; rintro e We ⟨rfl, hnew⟩; replace hst := hst.keep hnew)
    | (refine L_load1 (d := some 63) rfl rfl rfl (by rfl) Tryd.underlying49 rfl (by first | assumption | exact cell_of (hst.get 0 rfl) cuArr_1 | exact cell_of (hst.get 0 rfl) rfl | exact cell_of (hst.get 1 rfl) cuArr_1 | exact cell_of (hst.get 1 rfl) rfl) ?_)
    | fail)
   go_wp2_with (first
    | fail)
   go_ret2
   exact ⟨rfl, hst.tail⟩
set_option maxHeartbeats 4000000 in
set_option maxRecDepth 100000 in
theorem next_some (last d rec rest : List UInt8) (g : Nat) (R Lp : Option Addr) (r rc lc : Nat) (w0 w : World) (L : List Res) (hT : Tb w0) (hd : SlR w0 R r rc 1 (bytesL d)) (hl : ∀ W, St w0 W (.blk g 99 (cuArr R r rc Lp lc) :: L) → SlR W Lp 8 lc 1 (bytesL last)) (hll : last.length = 8) (hst : St w0 w (.blk g 99 (cuArr R r rc Lp lc) :: L)) (hn : nextD last d = some (rec, rest)) :
  Calls Tryd.prog 57 #[.pointer (some ⟨g, 0, none⟩)] w fun e w' => ∃ (A : Option Addr) (n c : Nat) (R' : Option Addr) (r' rc' : Nat) (L' : Option Addr) (lc' : Nat), e = .returned (.tuple #[.slice A n c, .bool true]) ∧ SlR w0 A n c 1 (bytesL rec) ∧ n ≤ 1000 ∧ SlR w0 R' r' rc' 1 (bytesL rest) ∧ SlR w0 L' 8 lc' 1 (bytesL (dmark last rec)) ∧
   St w0 w' (.blk g 99 (cuArr R' r' rc' L' lc') :: L) := by
 have HT := Lib.hid hT
 have hdl := hd.1
 have hrc := hd.2.1
 have hrm := hd.2.2.1
 simp only [maxLen] at hrm
 rw [length_bytesL, Nat.mul_one] at hdl
 clear hT
 obtain ⟨a, b, t, rfl⟩ : ∃ a b t, d = a :: b :: t := by
  match d, hn with
  | [], h => cases h
  | [_], h => cases h
  | a :: b :: t, _ => exact ⟨a, b, t, rfl⟩
 have htl : t.length + 2 = r := by simpa using hdl
 have ha : a.toNat ≤ 255 := by have := UInt8.toNat_lt a; omega
 have hb : b.toNat ≤ 255 := by have := UInt8.toNat_lt b; omega
 obtain ⟨N, hN⟩ : ∃ N : Nat, N = a.toNat * 256 + b.toNat := ⟨_, rfl⟩
 have hor : bits .or .i64 ((a.toNat : Int) * 256) (b.toNat : Int) = (N : Int) := by rw [or_bytes a b, hN]; omega
 have HC0 := Lib.hid (show (((bytesL (a :: b :: t)).drop (Int.toNat 0 * 1)).take 1)[0]? = some (.int .u8 (a.toNat : Int)) from rfl)
 have HC1 := Lib.hid (show (((bytesL (a :: b :: t)).drop (Int.toNat 1 * 1)).take 1)[0]? = some (.int .u8 (b.toNat : Int)) from rfl)
 have HL1 := Lib.hid (show ((bytesL (a :: b :: t)).drop (2 * 1)).take ((2 + N - 2) * 1) = bytesL (t.take N) by
  rw [show (2 + N - 2) * 1 = N by omega]; simp [bytesL, List.map_take])
 have HL2 := Lib.hid (show ((bytesL (a :: b :: t)).drop ((2 + N) * 1)).take ((2 + N + 8 - (2 + N)) * 1) = bytesL ((t.drop N).take 8) by
  rw [show (2 + N + 8 - (2 + N)) * 1 = 8 by omega, show (2 + N) * 1 = N + 1 + 1 by omega]; simp [bytesL, List.map_take, List.map_drop])
 have HL3 := Lib.hid (show ((bytesL (a :: b :: t)).drop ((2 + N + 8) * 1)).take ((r - (2 + N + 8)) * 1) = bytesL (t.drop (N + 8)) by
  rw [List.take_of_length_le (by rw [List.length_drop, length_bytesL, hdl]; omega), show (2 + N + 8) * 1 = (N + 8) + 1 + 1 by omega]
  simp [bytesL, List.map_drop])
 simp only [nextD, ← hN] at hn
 have hN2 : N ≤ 65535 := by omega
 by_cases hbig : 1000 < N ∨ t.length < N + 8
 ·rw [if_pos hbig] at hn; cases hn
 rw [if_neg hbig] at hn
 by_cases he : (t.drop N).take 8 = dmark last (t.take N)
 case neg => rw [if_neg he] at hn; cases hn
 rw [if_pos he] at hn
 simp only [Option.some.injEq, Prod.mk.injEq] at hn
 obtain ⟨rfl, rfl⟩ := hn
 rw [he] at HL2
 have HNE := Lib.hid (show (dmark last (t.take N) == dmark last (t.take N)) = true by simp)
 have k0 : ¬ (r : Int) < 2 := by omega
 have k1 : ¬ (1000 : Int) < (N : Int) := by omega
 have k2 : ¬ (r : Int) < 2 + (N : Int) + 8 := by omega
 have k3 : 2 + N + 8 ≤ r := by omega
 clear hN hbig he
 generalize hbl : bytesL (a :: b :: t) = bl at hd HC0 HC1 HL1 HL2 HL3
 clear hbl hdl
 go_enter Tryd.func57, Tryd.ntmps57
 go_wp2_with (first
  | (refine L_load1 (d := some 10) rfl rfl rfl (by rfl) Tryd.underlying49 rfl (by first | assumption | exact cell_of (hst.get 0 rfl) cuArr_0 | exact cell_of (hst.get 0 rfl) rfl) ?_)
  | fail)
 refine wp_region_idx [(0, 0), (1, 0), (2, 0), (3, 0), (4, 0), (5, 0), (6, 0), (7, 0), (8, 2), (9, 2), (10, 2), (11, 2), (12, 2), (13, 2), (14, 2), (15, 2), (16, 2)] (by kernel_rfl) (by kernel_rfl) ?_
 replace hst := hst.drew
 refine idx_q rfl rfl ?_; go_wp2_with fail
 refine idx_q rfl rfl ?_; go_wp2_with fail
 refine idx_qf rfl rfl (by kernel_rfl) ?_; go_wp2_with fail
 refine idx_q rfl rfl ?_; go_wp2_with (first | (refine L_load1 (d := some 16) rfl rfl rfl (by rfl) Tryd.underlying49 rfl (by first | assumption | exact cell_of (hst.get 0 rfl) cuArr_0 | exact cell_of (hst.get 0 rfl) rfl) ?_) | fail)
 refine idx_q rfl rfl ?_; go_wp2_with (first | (refine L_idxS (d := some 17) rfl rfl rfl (by rfl) (by rfl) Tryd.underlying49 el_uint8 (by first | exact hst.old (by decide) hd | assumption | exact hst.sl 0 rfl | exact hst.old (by decide) (by assumption)) (by omega) (by omega) ?_; intro o17 p17 ha17 hr17; (first | subst ha17 | (obtain ⟨h1, h2⟩ := some_addr ha17; subst h1; subst h2; clear ha17) | skip)) | fail)
 refine idx_q rfl rfl ?_; go_wp2_with (first | (refine L_load1 (d := some 18) rfl rfl rfl (by rfl) Tryd.underlying5 rfl (hr17 0 _ HC0.out) ?_) | (refine L_load1 (d := some 18) rfl rfl rfl (by rfl) Tryd.underlying5 rfl (by first | assumption | exact cell_of (hst.get 0 rfl) cuArr_0 | exact cell_of (hst.get 0 rfl) rfl) ?_) | fail)
 refine idx_qc rfl rfl (by rfl) Tryd.underlying3 ?_; go_wp2_with fail
 refine idx_q rfl rfl ?_; go_wp2_with fail
 refine idx_g rfl ?_; go_wp2_with fail; refine ⟨by first | exact Below.refl _ _ | exact hnew.below, ?_⟩
 refine idx_g rfl ?_; go_wp2_with fail; refine ⟨by first | exact Below.refl _ _ | exact hnew.below, ?_⟩
 refine idx_g rfl ?_; go_wp2_with fail; refine ⟨by first | exact Below.refl _ _ | exact hnew.below, ?_⟩
 refine idx_g rfl ?_; go_wp2_with (first | (refine L_load1 (d := some 24) rfl rfl rfl (by rfl) Tryd.underlying49 rfl (by first | assumption | exact cell_of (hst.get 0 rfl) cuArr_0 | exact cell_of (hst.get 0 rfl) rfl) ?_) | fail); refine ⟨by first | exact Below.refl _ _ | exact hnew.below, ?_⟩
 refine idx_g rfl ?_; go_wp2_with (first | (refine L_idxS (d := some 25) rfl rfl rfl (by rfl) (by rfl) Tryd.underlying49 el_uint8 (by first | exact hst.old (by decide) hd | assumption | exact hst.sl 0 rfl | exact hst.old (by decide) (by assumption)) (by omega) (by omega) ?_; intro o25 p25 ha25 hr25; (first | subst ha25 | (obtain ⟨h1, h2⟩ := some_addr ha25; subst h1; subst h2; clear ha25) | skip)) | fail); refine ⟨by first | exact Below.refl _ _ | exact hnew.below, ?_⟩
 refine idx_g rfl ?_; go_wp2_with (first | (refine L_load1 (d := some 26) rfl rfl rfl (by rfl) Tryd.underlying5 rfl (hr25 0 _ HC1.out) ?_) | (refine L_load1 (d := some 26) rfl rfl rfl (by rfl) Tryd.underlying5 rfl (by first | assumption | exact cell_of (hst.get 0 rfl) cuArr_0 | exact cell_of (hst.get 0 rfl) rfl) ?_) | fail); refine ⟨by first | exact Below.refl _ _ | exact hnew.below, ?_⟩
 refine idx_g rfl ?_; go_wp2_with fail; refine ⟨by first | exact Below.refl _ _ | exact hnew.below, ?_⟩
 refine idx_g rfl ?_; go_wp2_with fail; refine ⟨by first | exact Below.refl _ _ | exact hnew.below, ?_⟩
 refine idx_g rfl ?_; go_wp2_with fail; refine ⟨by first | exact Below.refl _ _ | exact hnew.below, ?_⟩
 refine idx_nil ?_
 clear hr17 hr25 hor ha hb
 replace k1 : ¬ (1000 : Int) < (N : Int) := by omega
 replace k2 : ¬ (r : Int) < 2 + (N : Int) + 8 := by omega
 go_wp2_with (first
  | (refine L_load1 (d := some 35) rfl rfl rfl (by rfl) Tryd.underlying49 rfl (by first | assumption | exact cell_of (hst.get 0 rfl) cuArr_0 | exact cell_of (hst.get 0 rfl) rfl) ?_)
  | fail)
 refine wp_region_idx [(0, 0), (1, 0), (2, 0), (3, 0), (4, 0), (5, 0), (6, 0), (7, 0), (8, 0), (9, 0), (10, 0), (11, 0), (12, 0), (13, 0), (14, 0), (15, 0), (16, 0), (17, 2), (18, 2)] (by kernel_rfl) (by kernel_rfl) ?_
 replace hst := hst.drew
 refine idx_q rfl rfl ?_; go_wp2_with fail
 refine idx_q rfl rfl ?_; go_wp2_with fail
 refine idx_qf rfl rfl (by kernel_rfl) ?_; go_wp2_with fail
 refine idx_q rfl rfl ?_; go_wp2_with (first | (refine L_load1 (d := some 45) rfl rfl rfl (by rfl) Tryd.underlying49 rfl (by first | assumption | exact cell_of (hst.get 0 rfl) cuArr_0 | exact cell_of (hst.get 0 rfl) rfl) ?_) | fail)
 refine idx_q rfl rfl ?_; go_wp2_with fail
 refine idx_q rfl rfl ?_; go_wp2_with fail
 refine idx_q rfl rfl ?_; go_wp2_with (first | (first | (refine L_cutV (d := some 48) rfl rfl rfl (by rfl) Tryd.underlying49 el_uint8 (by decide) hd 2 (2 + N) _ (Or.inr ⟨_, _, rfl, rfl⟩) (Or.inr ⟨_, _, rfl, by first | exact ev_tmp rfl | exact ev_int rfl (by omega) | (rw [ev_tmp rfl]; congr 1; omega)⟩) (Or.inl ⟨rfl, rfl⟩) (by omega) (by omega) (by omega) (by omega) ?_; intro A48 c48 hs48) | (refine L_cutO (d := some 48) rfl rfl hst rfl (by rfl) Tryd.underlying49 el_uint8 0 rfl (by first | rfl | omega) 2 (2 + N) _ (Or.inr ⟨_, _, rfl, rfl⟩) (Or.inr ⟨_, _, rfl, by first | exact ev_tmp rfl | exact ev_int rfl (by omega) | (rw [ev_tmp rfl]; congr 1; omega)⟩) (Or.inl ⟨rfl, rfl⟩) (by omega) (by omega) (by omega) (by omega) ?_; clear hst; intro A48 c48 hst; simp only [List.set_cons_zero, List.set_cons_succ] at hst) | (refine L_cutS (d := some 48) rfl rfl rfl (by rfl) Tryd.underlying49 el_uint8 (by decide) (by first | assumption | exact hst.old (by decide) (by assumption) | exact hst.sl 0 rfl) 2 (2 + N) _ (Or.inr ⟨_, _, rfl, rfl⟩) (Or.inr ⟨_, _, rfl, by first | exact ev_tmp rfl | exact ev_int rfl (by omega) | (rw [ev_tmp rfl]; congr 1; omega)⟩) (Or.inl ⟨rfl, rfl⟩) (by omega) (by omega) (by omega) (by omega) ?_; intro A48 c48 hs48)) | fail)
 refine idx_q rfl rfl ?_; go_wp2_with fail
 refine idx_q rfl rfl ?_; go_wp2_with fail
 refine idx_qf rfl rfl (by kernel_rfl) ?_; go_wp2_with fail
 refine idx_q rfl rfl ?_; go_wp2_with (first | (refine L_load1 (d := some 52) rfl rfl rfl (by rfl) Tryd.underlying49 rfl (by first | assumption | exact cell_of (hst.get 0 rfl) cuArr_0 | exact cell_of (hst.get 0 rfl) rfl) ?_) | fail)
 refine idx_q rfl rfl ?_; go_wp2_with fail
 refine idx_q rfl rfl ?_; go_wp2_with fail
 refine idx_q rfl rfl ?_; go_wp2_with fail
 refine idx_q rfl rfl ?_; go_wp2_with fail
 refine idx_q rfl rfl ?_; go_wp2_with fail
 refine idx_q rfl rfl ?_; go_wp2_with (first | (first | (refine L_cutV (d := some 58) rfl rfl rfl (by rfl) Tryd.underlying49 el_uint8 (by decide) hd (2 + N) (2 + N + 8) _ (Or.inr ⟨_, _, rfl, by first | exact ev_tmp rfl | exact ev_int rfl (by omega) | (rw [ev_tmp rfl]; congr 1; omega)⟩) (Or.inr ⟨_, _, rfl, by first | exact ev_tmp rfl | exact ev_int rfl (by omega) | (rw [ev_tmp rfl]; congr 1; omega)⟩) (Or.inl ⟨rfl, rfl⟩) (by omega) (by omega) (by omega) (by omega) ?_; intro A58 c58 hs58) | (refine L_cutO (d := some 58) rfl rfl hst rfl (by rfl) Tryd.underlying49 el_uint8 0 rfl (by first | rfl | omega) (2 + N) (2 + N + 8) _ (Or.inr ⟨_, _, rfl, by first | exact ev_tmp rfl | exact ev_int rfl (by omega) | (rw [ev_tmp rfl]; congr 1; omega)⟩) (Or.inr ⟨_, _, rfl, by first | exact ev_tmp rfl | exact ev_int rfl (by omega) | (rw [ev_tmp rfl]; congr 1; omega)⟩) (Or.inl ⟨rfl, rfl⟩) (by omega) (by omega) (by omega) (by omega) ?_; clear hst; intro A58 c58 hst; simp only [List.set_cons_zero, List.set_cons_succ] at hst) | (refine L_cutS (d := some 58) rfl rfl rfl (by rfl) Tryd.underlying49 el_uint8 (by decide) (by first | assumption | exact hst.old (by decide) (by assumption) | exact hst.sl 0 rfl) (2 + N) (2 + N + 8) _ (Or.inr ⟨_, _, rfl, by first | exact ev_tmp rfl | exact ev_int rfl (by omega) | (rw [ev_tmp rfl]; congr 1; omega)⟩) (Or.inr ⟨_, _, rfl, by first | exact ev_tmp rfl | exact ev_int rfl (by omega) | (rw [ev_tmp rfl]; congr 1; omega)⟩) (Or.inl ⟨rfl, rfl⟩) (by omega) (by omega) (by omega) (by omega) ?_; intro A58 c58 hs58)) | fail)
 refine idx_g rfl ?_; go_wp2_with fail; refine ⟨by first | exact Below.refl _ _ | exact hnew.below, ?_⟩
 refine idx_g rfl ?_; go_wp2_with fail; refine ⟨by first | exact Below.refl _ _ | exact hnew.below, ?_⟩
 refine idx_nil ?_
 rw [HL1.out, show 2 + N - 2 = N by omega] at hs48
 rw [HL2.out, show 2 + N + 8 - (2 + N) = 8 by omega] at hs58
 clear HL1 HL2 HC0 HC1
 go_upto_region 9 with (first
  | (go_at_call 59; (try clear hnew); refine (dmark_any last (t.take N) Lp A48 8 lc N c48 _ (HT.out.of hst) (hl _ hst) (hst.old (by decide) hs48) (by decide) (by omega)).mono ?_; rintro e Wm ⟨gm, rfl, hnew⟩; replace hst := hst.trans hnew; simp only [List.cons_append, List.nil_append] at hst)
  | (go_at_call 77; (try clear hnew); refine (equalB_any _ _ _ _ _ _ _ _ _ (hst.old (by decide) hs58) (mark_slr (hst.get 0 rfl))).mono ?_; rw [HNE.out]; rintro e We ⟨rfl, hnew⟩; replace hst := hst.keep hnew)
  | (refine L_load1 (d := some 63) rfl rfl rfl (by rfl) Tryd.underlying49 rfl (by first | assumption | exact cell_of (hst.get 0 rfl) cuArr_1 | exact cell_of (hst.get 0 rfl) rfl | exact cell_of (hst.get 1 rfl) cuArr_1 | exact cell_of (hst.get 1 rfl) rfl) ?_)
  | fail)
 (try clear hnew)
 replace hst := hst.tail
 refine wp_region_pm (.one 0 3 (.one 1 3 (.one 2 3 (.one 3 3 (.one 7 3 (.one 8 3 (.one 9 3 (.one 4 2 (.one 5 2 (.one 6 2 (.one 10 3 (.one 11 2 (.one 12 2 (.one 13 1 (.one 14 2 (.one 15 2 (.one 16 1 .nil))))))))))))))))) (by kernel_rfl) (by kernel_rfl) ?_
 replace hst := hst.drew
 refine pm_p rfl rfl ?_; go_wp2_with fail
 refine pm_p rfl rfl ?_; go_wp2_with fail
 refine pm_p rfl rfl ?_; go_wp2_with fail
 refine pm_p rfl rfl ?_; go_wp2_with fail
 refine pm_p rfl rfl ?_; go_wp2_with fail
 refine pm_pv rfl (pureV_add rfl (by rfl) (by rfl)) ?_; go_wp2_with fail
 refine pm_pv rfl (pureV_add rfl (by rfl) (by rfl)) ?_; go_wp2_with fail
 refine pm_g rfl ?_; go_wp2_with fail; refine ⟨by first | exact Below.refl _ _ | exact hnew.below, ?_⟩
 refine pm_g rfl ?_; go_wp2_with fail; refine ⟨by first | exact Below.refl _ _ | exact hnew.below, ?_⟩
 refine pm_g rfl ?_; go_wp2_with (first | (refine L_load1 (d := some 74) rfl rfl rfl (by rfl) Tryd.underlying49 rfl (by first | assumption | exact cell_of (hst.get 0 rfl) cuArr_0 | exact cell_of (hst.get 0 rfl) rfl) ?_) | fail); refine ⟨by first | exact Below.refl _ _ | exact hnew.below, ?_⟩
 refine pm_pv rfl (pureV_cut rfl (by rfl) Tryd.underlying49 el_uint8 (2 + N + 8) _ _ (Or.inr ⟨_, _, rfl, by first | exact ev_tmp rfl | exact ev_int rfl (by omega) | (rw [ev_tmp rfl]; congr 1; omega)⟩) (Or.inl ⟨rfl, rfl, rfl⟩) (Or.inl ⟨rfl, rfl⟩) (by omega) (by omega) (by omega) (by omega)) ?_; go_wp2_with (first | (first | (refine L_cutV (d := some 78) rfl rfl rfl (by rfl) Tryd.underlying49 el_uint8 (by decide) hd (2 + N + 8) _ _ (Or.inr ⟨_, _, rfl, by first | exact ev_tmp rfl | exact ev_int rfl (by omega) | (rw [ev_tmp rfl]; congr 1; omega)⟩) (Or.inl ⟨rfl, rfl, rfl⟩) (Or.inl ⟨rfl, rfl⟩) (by omega) (by omega) (by omega) (by omega) ?_; intro A78 c78 hs78) | (refine L_cutO (d := some 78) rfl rfl hst rfl (by rfl) Tryd.underlying49 el_uint8 0 rfl (by first | rfl | omega) (2 + N + 8) _ _ (Or.inr ⟨_, _, rfl, by first | exact ev_tmp rfl | exact ev_int rfl (by omega) | (rw [ev_tmp rfl]; congr 1; omega)⟩) (Or.inl ⟨rfl, rfl, rfl⟩) (Or.inl ⟨rfl, rfl⟩) (by omega) (by omega) (by omega) (by omega) ?_; clear hst; intro A78 c78 hst; simp only [List.set_cons_zero, List.set_cons_succ, cuArr_s0, cuArr_s1] at hst) | (refine L_cutS (d := some 78) rfl rfl rfl (by rfl) Tryd.underlying49 el_uint8 (by decide) (by first | assumption | exact hst.old (by decide) (by assumption) | exact hst.sl 0 rfl) (2 + N + 8) _ _ (Or.inr ⟨_, _, rfl, by first | exact ev_tmp rfl | exact ev_int rfl (by omega) | (rw [ev_tmp rfl]; congr 1; omega)⟩) (Or.inl ⟨rfl, rfl, rfl⟩) (Or.inl ⟨rfl, rfl⟩) (by omega) (by omega) (by omega) (by omega) ?_; intro A78 c78 hs78)) | fail)
 refine pm_g rfl ?_; go_wp2_with fail; refine ⟨by first | exact Below.refl _ _ | exact hnew.below, ?_⟩
 refine pm_g rfl ?_; go_wp2_with fail; refine ⟨by first | exact Below.refl _ _ | exact hnew.below, ?_⟩
 refine pm_e rfl ?_; go_wp2_with (first | (refine wpl_at (.store 49 (.tmp 80) (.tmp 70)) rfl ?_; first | (refine L_store1 rfl rfl hst rfl (by rfl) (ev_tmp rfl) rfl el_S_uint8 0 rfl (by first | exact of_decide_eq_true rfl | omega | (simp; done) | (simp; omega)) ?_; clear hst; intro WS13 hst; simp only [List.set_cons_zero, List.set_cons_succ, cuArr_s0, cuArr_s1] at hst)) | fail)
 refine pm_g rfl ?_; go_wp2_with fail; refine ⟨by first | exact Below.refl _ _ | exact hnew.below, ?_⟩
 refine pm_g rfl ?_; go_wp2_with fail; refine ⟨by first | exact Below.refl _ _ | exact hnew.below, ?_⟩
 refine pm_e rfl ?_; go_wp2_with (first | (refine wpl_at (.store 49 (.tmp 82) (.tmp 78)) rfl ?_; first | (refine L_store1 rfl rfl hst rfl (by rfl) (ev_tmp rfl) rfl el_S_uint8 0 rfl (by first | exact of_decide_eq_true rfl | omega | (simp; done) | (simp; omega)) ?_; clear hst; intro WS16 hst; simp only [List.set_cons_zero, List.set_cons_succ, cuArr_s0, cuArr_s1] at hst)) | fail)
 refine pm_nil ?_
 go_wp2_with (first
  | fail)
 go_ret2
 rw [HL3.out] at hs78
 exact ⟨A48, N, c48, A78, _, c78, A58, c58, rfl, hs48, by omega, hs78, hs58, hst⟩
end Go.Proofs.YtkbleigmfcleaaaDoor

set_option maxRecDepth 20000
set_option linter.unusedSimpArgs false
set_option linter.unusedVariables false
namespace Go.Proofs.YtkbleigmfcleaaaDoor
open Go.RowKit
theorem el_S_S_uint8 : ElemIs Tryd.prog 37 (.slice none 0 0) 1 24 := by unfold ElemIs; kernel_rfl
def clonesR (ps : List Piece) : List Res := ps.map fun p => .row p.1 p.2.1 p.2.2.1 5 1 (bytesL p.2.2.2)
theorem clonesR_cons (p : Piece) (ps : List Piece) : clonesR (p :: ps) = .row p.1 p.2.1 p.2.2.1 5 1 (bytesL p.2.2.2) :: clonesR ps := rfl
def recsP (ps : List Piece) : List (List UInt8) := ps.map fun p => p.2.2.2
theorem piecesL_ones (ps : List Piece) : ∀ u ∈ piecesL ps, u.oneCell' = true := by
 intro u hu
 obtain ⟨p, _, rfl⟩ := List.mem_map.1 hu
 rfl
theorem slr_len {W : World} {A : Option Addr} {n c : Nat} {l : List UInt8} (h : SlR W A n c 1 (bytesL l)) : n = l.length := by
 have := h.1
 rw [length_bytesL, Nat.mul_one] at this
 exact this.symm
set_option maxHeartbeats 4000000 in
set_option maxRecDepth 100000 in
theorem read_any (d : List UInt8) (A : Option Addr) (n c : Nat) (w : World) (hT : Tb w) (hd : SlR w A n c 1 (bytesL d)) (hn : n ≤ 16777216) :
  Calls Tryd.prog 30 #[.slice A n c] w fun e w' => ∃ (ps : List Piece) (O : Option Addr) (oc : Nat), e = .returned (.tuple #[.slice O ps.length oc, .int .i64 ((n : Int) - ((readD zero8 d).2.length : Int))]) ∧ recsP ps = (readD zero8 d).1 ∧
   St w w' (.row O ps.length oc 49 1 (piecesL ps) :: clonesR ps.reverse) := by
 have hst := St.refl w
 have HT := Lib.hid hT
 have hdl := Lib.hid (slr_len hd)
 have hnc := hd.2.1
 have hcm := hd.2.2.1
 simp only [maxLen] at hcm
 clear hT
 generalize htot : readD zero8 d = tot
 replace htot := Lib.hid htot
 go_enter Tryd.func30, Tryd.ntmps30
 go_wp2_with (first
  | (go_at_call 56; (try clear hnew); refine (begun_any A n c _).mono ?_; rintro e W9 ⟨g, Z, rfl, hnew⟩; replace hst := hst.trans hnew; simp only [List.cons_append, List.nil_append] at hst)
  | fail)
 clear hnew
 have hst : St w W9 (.blk g 99 (cuArr A n c Z 8) :: .row Z 8 8 5 1 (bytesL zero8) :: .row none 0 0 49 1 (piecesL []) :: clonesR []) := (hst.nilRow 49 1).pick [1, 2, 0] (by decide)
 go_loopg [4] (n + 1) (fun gk s4 wr => ∃ (ps : List Piece) (last rest : List UInt8) (R Lp O : Option Addr) (r rc lc k oc : Nat), Hid (rest.length < gk ∧ rest.length = r ∧ r + 10 * k ≤ n ∧ last.length = 8 ∧ ps.length = k) ∧ Hid (tot = (recsP ps ++ (readD last rest).1, (readD last rest).2)) ∧ Hid (SlR w R r rc 1 (bytesL rest)) ∧
  Hid (∀ W X, St w W (.blk g 99 (cuArr R r rc Lp lc) :: .row Z 8 8 5 1 (bytesL zero8) :: X) → SlR W Lp 8 lc 1 (bytesL last)) ∧ s4 = .slice O k oc ∧
  St w wr (.blk g 99 (cuArr R r rc Lp lc) :: .row Z 8 8 5 1 (bytesL zero8) :: .row O k oc 49 1 (piecesL ps) :: clonesR ps.reverse))
 case atStart => exact ⟨[], zero8, d, A, Z, none, n, c, 8, 0, 0, Lib.hid ⟨by have := hdl.out; omega, hdl.out.symm, by omega, rfl, rfl⟩, Lib.hid (by rw [← htot.out]; rfl), Lib.hid hd, Lib.hid (fun W X h => h.sl 1 rfl), rfl, hst⟩
 case round =>
  clear hst
  obtain ⟨ps, last, rest, R, Lp, O, r, rc, lc, k, oc, HG, HR, HS, HL, rfl, hst⟩ := hrel
  have hrn : r ≤ n := by have := HG.out; omega
  have hk10 : 10 * k ≤ n := by have := HG.out; omega
  cases hx : nextD last rest with
  | none =>
   have HN := Lib.hid (fun W L h => next_none last rest g R Lp r rc lc w W (.row Z 8 8 5 1 (bytesL zero8) :: L) HT.out HS.out (fun W' h' => HL.out W' _ h') HG.out.2.2.2.1 h hx)
   have hr2 := HR.out
   rw [readD_none hx, List.append_nil] at hr2
   go_wp2_with (first
    | (go_at_call 57; (try clear hnew); refine (HN.out _ _ hst).mono ?_; rintro e W12 ⟨rfl, hst'⟩; clear hst; have hst := hst'; clear hst')
    | fail)
   refine wp_region_idx [(0, 0), (1, 0), (2, 0), (3, 0), (4, 0), (5, 0), (6, 0), (7, 0), (8, 0), (9, 2), (10, 2)] (by kernel_rfl) (by kernel_rfl) ?_
   replace hst := hst.drew
   refine idx_q rfl rfl ?_; go_wp2_with fail
   refine idx_q rfl rfl ?_; go_wp2_with fail
   refine idx_q rfl rfl ?_; go_wp2_with fail
   refine idx_q rfl rfl ?_; go_wp2_with fail
   refine idx_q rfl rfl ?_; go_wp2_with fail
   refine idx_qf rfl rfl (by kernel_rfl) ?_; go_wp2_with fail
   refine idx_q rfl rfl ?_; go_wp2_with (first | (refine L_load1 (d := some 23) rfl rfl rfl (by rfl) Tryd.underlying49 rfl (by first | assumption | exact cell_of (hst.get 0 rfl) cuArr_0 | exact cell_of (hst.get 0 rfl) rfl) ?_) | fail)
   refine idx_q rfl rfl ?_; go_wp2_with fail
   refine idx_q rfl rfl ?_; go_wp2_with fail
   refine idx_g rfl ?_; go_wp2_with fail; refine ⟨by first | exact Below.refl _ _ | exact hnew.below, ?_⟩
   refine idx_g rfl ?_; go_wp2_with fail; refine ⟨by first | exact Below.refl _ _ | exact hnew.below, ?_⟩
   refine idx_nil ?_
   go_wp2_with fail
   go_ret2
   obtain ⟨_, g2, _, _, g5⟩ := HG.out
   subst g5
   refine ⟨ps, O, oc, ?_, by rw [hr2], (hst.drop ((List.sublist_cons_self _ _).trans (List.sublist_cons_self _ _)))⟩
   rw [hr2, g2]
   rfl
  | some q =>
   obtain ⟨rec, rest'⟩ := q
   have HN := Lib.hid (fun W L h => next_some last rest rec rest' g R Lp r rc lc w W (.row Z 8 8 5 1 (bytesL zero8) :: L) HT.out HS.out (fun W' h' => HL.out W' _ h') HG.out.2.2.2.1 h hx)
   have hr2 := HR.out
   rw [readD_some hx] at hr2
   have hle := (nextD_some hx).2
   go_wp2_with (first
    | (go_at_call 57; (try clear hnew); refine (HN.out _ _ hst).mono ?_; rintro e W12 ⟨A', n', c', R', r', rc', L', lc', rfl, hrec, hn', hrest, hlast, hst'⟩; clear hst; have hst := hst'; clear hst')
    | (go_at_call 58; (try clear hnew); refine (cloneB_any rec _ _ _ _ (hst.old (by decide) hrec) (by omega)).mono ?_; rintro e Wk1 ⟨A28, c28, rfl, hnew⟩; replace hst := hst.trans hnew; simp only [List.cons_append, List.nil_append] at hst)
    | (refine L_buildS (d := some 29) rfl rfl rfl [_] (bs_1 (ev_tmp rfl)) rfl Tryd.underlying37 el_S_uint8 rfl (by first | (simp [Value.cells]; done) | (simp [Value.cells, Dig.size]; done)) (by decide) (by decide) ?_; (try clear hnew); intro g29 W29 hnew; replace hst := hst.trans hnew; simp only [List.cons_append, List.nil_append] at hst; simp only [List.flatMap_cons, List.flatMap_nil, List.append_nil, Value.cells, List.toList_toArray] at hst)
    | (refine L_appendO (d := some 30) rfl rfl hst rfl (by rfl) (by rfl) Tryd.underlying37 el_S_uint8 rfl (by decide) (by decide) 0 rfl (by first | rfl | omega) (by first | exact hst.sl 0 rfl | exact hst.sl 1 rfl | exact hst.sl 2 rfl | exact hst.sl 3 rfl | exact hst.sl 4 rfl | assumption | exact hst.old (by decide) (by assumption)) (by first | exact oneCell_bytes | (simp [Value.oneCell']; done) | exact piecesL_ones _) (by omega) ?_; clear hst; intro A30 c30 W30 hst; simp only [List.set_cons_zero, List.set_cons_succ, List.nil_append, Nat.zero_add] at hst)
    | (refine L_appendO (d := some 30) rfl rfl hst rfl (by rfl) (by rfl) Tryd.underlying37 el_S_uint8 rfl (by decide) (by decide) 1 rfl (by first | rfl | omega) (by first | exact hst.sl 0 rfl | exact hst.sl 1 rfl | exact hst.sl 2 rfl | exact hst.sl 3 rfl | exact hst.sl 4 rfl | assumption | exact hst.old (by decide) (by assumption)) (by first | exact oneCell_bytes | (simp [Value.oneCell']; done) | exact piecesL_ones _) (by omega) ?_; clear hst; intro A30 c30 W30 hst; simp only [List.set_cons_zero, List.set_cons_succ, List.nil_append, Nat.zero_add] at hst)
    | (refine L_appendO (d := some 30) rfl rfl hst rfl (by rfl) (by rfl) Tryd.underlying37 el_S_uint8 rfl (by decide) (by decide) 2 rfl (by first | rfl | omega) (by first | exact hst.sl 0 rfl | exact hst.sl 1 rfl | exact hst.sl 2 rfl | exact hst.sl 3 rfl | exact hst.sl 4 rfl | assumption | exact hst.old (by decide) (by assumption)) (by first | exact oneCell_bytes | (simp [Value.oneCell']; done) | exact piecesL_ones _) (by omega) ?_; clear hst; intro A30 c30 W30 hst; simp only [List.set_cons_zero, List.set_cons_succ, List.nil_append, Nat.zero_add] at hst)
    | (refine L_appendO (d := some 30) rfl rfl hst rfl (by rfl) (by rfl) Tryd.underlying37 el_S_uint8 rfl (by decide) (by decide) 3 rfl (by first | rfl | omega) (by first | exact hst.sl 0 rfl | exact hst.sl 1 rfl | exact hst.sl 2 rfl | exact hst.sl 3 rfl | exact hst.sl 4 rfl | assumption | exact hst.old (by decide) (by assumption)) (by first | exact oneCell_bytes | (simp [Value.oneCell']; done) | exact piecesL_ones _) (by omega) ?_; clear hst; intro A30 c30 W30 hst; simp only [List.set_cons_zero, List.set_cons_succ, List.nil_append, Nat.zero_add] at hst)
    | (refine L_appendO (d := some 30) rfl rfl hst rfl (by rfl) (by rfl) Tryd.underlying37 el_S_uint8 rfl (by decide) (by decide) 4 rfl (by first | rfl | omega) (by first | exact hst.sl 0 rfl | exact hst.sl 1 rfl | exact hst.sl 2 rfl | exact hst.sl 3 rfl | exact hst.sl 4 rfl | assumption | exact hst.old (by decide) (by assumption)) (by first | exact oneCell_bytes | (simp [Value.oneCell']; done) | exact piecesL_ones _) (by omega) ?_; clear hst; intro A30 c30 W30 hst; simp only [List.set_cons_zero, List.set_cons_succ, List.nil_append, Nat.zero_add] at hst)
    | (refine L_appendF (d := some 30) rfl rfl rfl (by rfl) (by rfl) Tryd.underlying37 el_S_uint8 rfl (by decide) (by assumption) (by first | assumption | exact hst.sl 0 rfl | exact hst.sl 1 rfl | exact hst.sl 2 rfl | exact hst.sl 3 rfl | exact hst.sl 4 rfl | assumption | exact hst.old (by decide) (by assumption)) (by omega) (by omega) (by omega) ?_; (try clear hnew); intro A30 c30 W30 hnew; replace hst := hst.trans hnew; simp only [List.cons_append, List.nil_append] at hst)
    | fail)
   clear hnew
   go_roundg (gk - 1)
   case measure => have := HG.out; omega
   case rel =>
    obtain ⟨g1, g2, g3, g4, g5⟩ := HG.out
    have hl := congrArg List.length hle
    rw [List.length_append, length_frameD] at hl
    have hrl := slr_len hrest
    refine ⟨ps ++ [(A28, n', c28, rec)], dmark last rec, rest', R', L', _, r', rc', lc', k + 1, _, Lib.hid ⟨by omega, hrl.symm, by omega, length_dmark _ _, by rw [List.length_append, g5]; rfl⟩, Lib.hid ?_, Lib.hid hrest, Lib.hid (fun W X h => h.old (by decide) hlast), rfl, ?_⟩
    ·rw [hr2]
     simp [recsP]
    ·have h1 := hst.tail
     rw [List.reverse_append, List.reverse_singleton, List.singleton_append, clonesR_cons]
     have e : piecesL (ps ++ [(A28, n', c28, rec)]) = piecesL ps ++ [.slice A28 n' c28] := by simp [piecesL, Piece.v]
     rw [e]
     exact h1.perm (List.perm_middle (l₁ := [_, _, _])).symm
theorem add_full (d r : List UInt8) (A B : Option Addr) (n c m k : Nat) (w : World) (hm : 1000 < m) :
  Calls Tryd.prog 33 #[.slice A n c, .slice B m k] w fun e w' => e = .returned (.tuple #[.slice none 0 0, errV 4]) ∧ St w w' [] := by
 have hst := St.refl w
 have h1 : (1000 : Int) < (m : Int) := by omega
 go_enter Tryd.func33, Tryd.ntmps33
 go_wp2_with (first
  | fail)
 go_ret2
 exact ⟨rfl, hst⟩
set_option maxHeartbeats 4000000 in
set_option maxRecDepth 100000 in
theorem add_any (d r : List UInt8) (A B : Option Addr) (n c m k : Nat) (w : World) (hT : Tb w) (hd : SlR w A n c 1 (bytesL d)) (hr : SlR w B m k 1 (bytesL r)) (hn : n ≤ 16777216) (hm : m ≤ 1000) :
  Calls Tryd.prog 33 #[.slice A n c, .slice B m k] w fun e w' => ((readD zero8 d).2 ≠ [] ∧ e = .returned (.tuple #[.slice none 0 0, errV 1]) ∧ St w w' []) ∨
   ((readD zero8 d).2 = [] ∧ ∃ O oc, e = .returned (.tuple #[.slice O (n + m + 10) oc, .nilIface]) ∧ St w w' [.row O (n + m + 10) oc 5 1 (bytesL (d ++ frameD (lastN zero8 (readD zero8 d).1) r))]) := by
 have hst := St.refl w
 have HT := Lib.hid hT
 have hdl := Lib.hid (slr_len hd)
 have hml := Lib.hid (slr_len hr)
 have hnc := hd.2.1
 have hcm := hd.2.2.1
 simp only [maxLen] at hcm
 have t1 : ¬ (1000 : Int) < (m : Int) := by omega
 clear hT
 have hls := Lib.hid (readD_split d.length zero8 d (Nat.le_refl _))
 generalize htot : readD zero8 d = tot at hls ⊢
 replace htot := Lib.hid htot
 go_enter Tryd.func33, Tryd.ntmps33
 go_wp2_with (first
  | (go_at_call 56; (try clear hnew); refine (begun_any A n c _).mono ?_; rintro e W9 ⟨g, Z, rfl, hnew⟩; replace hst := hst.trans hnew; simp only [List.cons_append, List.nil_append] at hst)
  | fail)
 clear hnew
 go_loopg [7] (n + 2) (fun gk s7 wr => ∃ (is : Bool) (rs : List (List UInt8)) (last rest : List UInt8) (R Lp : Option Addr) (r rc lc : Nat), Hid (rest.length + (if is then 1 else 0) < gk ∧ rest.length = r ∧ r ≤ n ∧ last.length = 8 ∧ last = lastN zero8 rs ∧ (is = false → nextD last rest = none)) ∧ Hid (tot = (rs ++ (readD last rest).1, (readD last rest).2)) ∧ Hid (SlR w R r rc 1 (bytesL rest)) ∧
  Hid (∀ W X, St w W (.blk g 99 (cuArr R r rc Lp lc) :: .row Z 8 8 5 1 (bytesL zero8) :: X) → SlR W Lp 8 lc 1 (bytesL last)) ∧ s7 = .bool is ∧
  St w wr [.blk g 99 (cuArr R r rc Lp lc), .row Z 8 8 5 1 (bytesL zero8)])
 case atStart => exact ⟨true, [], zero8, d, A, Z, n, c, 8, Lib.hid ⟨by have := hdl.out; simp; omega, hdl.out.symm, by omega, rfl, rfl, fun h => by cases h⟩, Lib.hid (by rw [← htot.out]; rfl), Lib.hid hd, Lib.hid (fun W X h => h.sl 1 rfl), rfl, hst⟩
 case round =>
  clear hst
  obtain ⟨is, rs, last, rest, R, Lp, r', rc, lc, HG, HR, HS, HL, rfl, hst⟩ := hrel
  have hrn : r' ≤ n := HG.out.2.2.1
  cases is with
  | true =>
   cases hx : nextD last rest with
   | none =>
    have HN := Lib.hid (fun W L h => next_none last rest g R Lp r' rc lc w W (.row Z 8 8 5 1 (bytesL zero8) :: L) HT.out HS.out (fun W' h' => HL.out W' _ h') HG.out.2.2.2.1 h hx)
    go_wp2_with (first
     | (go_at_call 57; (try clear hnew); refine (HN.out _ _ hst).mono ?_; rintro e W12 ⟨rfl, hst'⟩; clear hst; have hst := hst'; clear hst')
     | fail)
    go_roundg (gk - 1)
    case measure => have := HG.out; simp at this; omega
    case rel =>
     obtain ⟨g1, g2, g3, g4, g5, _⟩ := HG.out
     exact ⟨false, rs, last, rest, R, Lp, r', rc, lc, Lib.hid ⟨by simp at g1 ⊢; omega, g2, g3, g4, g5, fun _ => hx⟩, HR, HS, HL, rfl, hst⟩
   | some q =>
    obtain ⟨rec, rest'⟩ := q
    have HN := Lib.hid (fun W L h => next_some last rest rec rest' g R Lp r' rc lc w W (.row Z 8 8 5 1 (bytesL zero8) :: L) HT.out HS.out (fun W' h' => HL.out W' _ h') HG.out.2.2.2.1 h hx)
    have hr2 := HR.out
    rw [readD_some hx] at hr2
    have hle := (nextD_some hx).2
    go_wp2_with (first
     | (go_at_call 57; (try clear hnew); refine (HN.out _ _ hst).mono ?_; rintro e W12 ⟨A', n', c', R', r'', rc', L', lc', rfl, hrec, hn', hrest, hlast, hst'⟩; clear hst; have hst := hst'; clear hst')
     | fail)
    go_roundg (gk - 1)
    case measure => have := HG.out; simp at this; omega
    case rel =>
     obtain ⟨g1, g2, g3, g4, g5, _⟩ := HG.out
     have hl := congrArg List.length hle
     rw [List.length_append, length_frameD] at hl
     have hrl := slr_len hrest
     refine ⟨true, rs ++ [rec], dmark last rec, rest', R', L', r'', rc', lc', Lib.hid ⟨by simp at g1 ⊢; omega, hrl.symm, by omega, length_dmark _ _, by rw [lastN_append, ← g5]; rfl, fun h => by cases h⟩, Lib.hid ?_, Lib.hid hrest, Lib.hid (fun W X h => h.old (by decide) hlast), rfl, hst⟩
     rw [hr2]
     simp
  | false =>
   obtain ⟨g1, g2, g3, g4, g5, g6⟩ := HG.out
   have hx := g6 rfl
   have hr2 := HR.out
   rw [readD_none hx, List.append_nil] at hr2
   clear g1 g6
   by_cases h0 : r' = 0
   ·subst h0
    obtain rfl : rest = [] := List.eq_nil_of_length_eq_zero g2
    have t0 : ¬ (0 : Int) < ((0 : Nat) : Int) := by omega
    have HC := Lib.hid (show [Value.int .u8 ((m : Int) / 256), .int .u8 ((m : Int) % 256)] = bytesL [UInt8.ofNat (m / 256), UInt8.ofNat m] by
     simp only [bytesL, List.map_cons, List.map_nil, byteV, UInt8.toNat_ofNat']
     rw [show m / 256 % 2 ^ 8 = m / 256 by omega]
     rfl)
    go_upto_region 7 with (first
     | fail)
    go_upto_region 9 with (first
     | (refine L_load1 (d := some 23) rfl rfl rfl (by rfl) Tryd.underlying49 rfl (by first | assumption | exact cell_of (hst.get 0 rfl) cuArr_0 | exact cell_of (hst.get 0 rfl) rfl) ?_)
     | fail)
    go_wp2_with (first
     | (go_at_call 59; (try clear hnew); simp only [List.cons_append, List.nil_append] at hst; rw [HC.out] at hst; refine (dmark_any last r Lp B 8 lc m k _ (HT.out.of hst) (HL.out _ _ hst.tail) (hst.old (by decide) hr) (by decide) (by omega)).mono ?_; rintro e Wm ⟨gm, rfl, hnew⟩; replace hst := hst.trans hnew; simp only [List.cons_append, List.nil_append] at hst)
     | (go_at_call 50; (try clear hnew); refine (concat4_any d [UInt8.ofNat (m / 256), UInt8.ofNat m] r (dmark last r) _ _ _ _ _ _ _ _ _ _ _ _ _ _ _ (hst.sl 0 rfl) (hst.old (by decide) hd) (hst.sl 2 rfl) (hst.old (by decide) hr) (mark_slr (hst.get 1 rfl)) (by omega)).mono ?_; rintro e Wc ⟨O44, c44, rfl, hnew⟩; replace hst := hst.trans hnew; simp only [List.cons_append, List.nil_append] at hst)
     | (refine L_buildS (d := some 35) rfl rfl rfl [_, _] (bs_2 (ev_tmp rfl) (ev_tmp rfl)) rfl Tryd.underlying49 el_uint8 rfl (by first | (simp [Value.cells]; done) | (simp [Value.cells, Dig.size]; done)) (by decide) (by decide) ?_; (try clear hnew); intro g35 W35 hnew; replace hst := hst.trans hnew; simp only [List.cons_append, List.nil_append] at hst; simp only [List.flatMap_cons, List.flatMap_nil, List.append_nil, Value.cells, List.toList_toArray] at hst)
     | (refine L_load1 (d := some 40) rfl rfl rfl (by rfl) Tryd.underlying49 rfl (by first | assumption | exact cell_of (hst.get 0 rfl) cuArr_1 | exact cell_of (hst.get 0 rfl) rfl | exact cell_of (hst.get 1 rfl) cuArr_1 | exact cell_of (hst.get 1 rfl) rfl | exact cell_of (hst.get 2 rfl) cuArr_1 | exact cell_of (hst.get 2 rfl) rfl) ?_)
     | (refine L_buildS (d := some 43) rfl rfl rfl [_, _, _, _] (bs_4 (ev_tmp rfl) (ev_tmp rfl) (ev_tmp rfl) (ev_tmp rfl)) rfl Tryd.underlying37 el_S_uint8 rfl (by first | (simp [Value.cells]; done) | (simp [Value.cells, Dig.size]; done)) (by decide) (by decide) ?_; (try clear hnew); intro g43 W43 hnew; replace hst := hst.trans hnew; simp only [List.cons_append, List.nil_append] at hst; simp only [List.flatMap_cons, List.flatMap_nil, List.append_nil, Value.cells, List.toList_toArray] at hst)
     | fail)
    go_ret2
    refine .inr ⟨by rw [hr2], O44, c44, by rw [show n + m + 10 = n + 2 + m + 8 by omega]; rfl, ?_⟩
    rw [show n + m + 10 = n + 2 + m + 8 by omega, hr2, ← g5, frameD, ← hml.out]
    exact hst.pick [0] (by decide)
   ·have t0 : (0 : Int) < (r' : Int) := by omega
    go_wp2_with (first
     | (refine L_load1 (d := some 23) rfl rfl rfl (by rfl) Tryd.underlying49 rfl (by first | assumption | exact cell_of (hst.get 0 rfl) cuArr_0 | exact cell_of (hst.get 0 rfl) rfl) ?_)
     | fail)
    go_ret2
    exact .inl ⟨fun h => h0 (by rw [← g2, show rest = [] from h]; rfl), rfl, hst.forget⟩
end Go.Proofs.YtkbleigmfcleaaaDoor

set_option maxRecDepth 20000
set_option linter.unusedSimpArgs false
set_option linter.unusedVariables false
namespace Go.Proofs.YtkbleigmfcleaaaDoor
open Go.RowKit
structure RowsAt (w : World) (A : Option Addr) (n c : Nat) (ls : List (List UInt8)) : Prop where
 ex : ∃ ps : List Piece, SlR w A n c 1 (piecesL ps) ∧ (∀ p ∈ ps, SlR w p.1 p.2.1 p.2.2.1 1 (bytesL p.2.2.2)) ∧ recsP ps = ls
theorem RowsAt.len {w : World} {A : Option Addr} {n c : Nat} {ls : List (List UInt8)} (h : RowsAt w A n c ls) : ls.length = n ∧ n ≤ c ∧ c ≤ maxLen := by
 obtain ⟨ps, h1, _, rfl⟩ := h.ex
 have := h1.1
 simp only [piecesL, List.length_map, Nat.mul_one] at this
 exact ⟨by rw [recsP, List.length_map]; exact this, h1.2.1, h1.2.2.1⟩
theorem RowsAt.old {w0 W : World} {L : List Res} {A : Option Addr} {n c : Nat} {ls : List (List UInt8)} (h : RowsAt w0 A n c ls) (hst : St w0 W L) : RowsAt W A n c ls := by
 obtain ⟨ps, h1, h2, h3⟩ := h.ex
 exact ⟨ps, hst.old (by decide) h1, fun p hp => hst.old (by decide) (h2 p hp), h3⟩
theorem St.slm {w0 W : World} {L : List Res} (h : St w0 W L) {A : Option Addr} {m c e s : Nat} {xs : List Value} (hm : Res.row A m c e s xs ∈ L) : SlR W A m c s xs := by
 obtain ⟨k, hk, he⟩ := List.getElem_of_mem hm
 exact h.sl k (by rw [List.getElem?_eq_getElem hk, he])
theorem RowsAt.read {w0 W : World} {L : List Res} {ps : List Piece} {O : Option Addr} {k oc : Nat} (h : St w0 W L) (h1 : Res.row O k oc 49 1 (piecesL ps) ∈ L) (h2 : ∀ r ∈ clonesR ps.reverse, r ∈ L) : RowsAt W O k oc (recsP ps) :=
 ⟨ps, h.slm h1, fun p hp => h.slm (h2 _ (List.mem_map.2 ⟨p, List.mem_reverse.2 hp, rfl⟩)), rfl⟩
theorem RowsAt.at {w : World} {A : Option Addr} {n c : Nat} {ls : List (List UInt8)} (h : RowsAt w A n c ls) (i : Nat) (hi : i < n) :
  ∃ (B : Option Addr) (k kc : Nat), SlR w B k kc 1 (bytesL (ls.getD i [])) ∧ ∀ {W : World} {g off : Nat} {ps : List Piece}, True → ∃ xs, SlR w A n c 1 xs ∧ xs[i]? = some (.slice B k kc) := by
 obtain ⟨ps, h1, h2, rfl⟩ := h.ex
 have hl := h1.1
 simp only [piecesL, List.length_map, Nat.mul_one] at hl
 have hi' : i < ps.length := by omega
 refine ⟨ps[i].1, ps[i].2.1, ps[i].2.2.1, ?_, fun _ => ⟨piecesL ps, h1, by simp [piecesL, Piece.v, hi']⟩⟩
 have := h2 ps[i] (List.getElem_mem hi')
 simpa [recsP, hi'] using this
set_option maxHeartbeats 2000000 in
theorem sameRows_any (ls : List (List UInt8)) (A B : Option Addr) (n c d : Nat) (w : World) (hx : RowsAt w A n c ls) (hy : RowsAt w B n d ls) :
  Calls Tryd.prog 31 #[.slice A n c, .slice B n d] w fun e w' => e = .returned (.bool true) ∧ St w w' [] := by
 have hst := St.refl w
 obtain ⟨_, hnc, hcm⟩ := hx.len
 simp only [maxLen] at hcm
 obtain ⟨ps, hx1, hx2, hx3⟩ := hx.ex
 obtain ⟨qs, hy1, hy2, hy3⟩ := hy.ex
 have Hpl := Lib.hid (show ps.length = n by have := hx1.1; simp only [piecesL, List.length_map, Nat.mul_one] at this; exact this)
 have Hql := Lib.hid (show qs.length = n by have := hy1.1; simp only [piecesL, List.length_map, Nat.mul_one] at this; exact this)
 have HE := Lib.hid (hx3.trans hy3.symm)
 have Hx := Lib.hid hx2
 have Hy := Lib.hid hy2
 clear hx hy hx2 hy2 hx3 hy3
 go_enter Tryd.func31, Tryd.ntmps31
 go_wp2_with (first
  | fail)
 go_loopg [5] n (fun gk s5 wr => ∃ i : Nat, Hid (i + gk = n) ∧ s5 = .int .i64 (i : Int) ∧ St w wr [])
 case atStart => exact ⟨0, Lib.hid (by omega), rfl, hst⟩
 case round =>
  clear hst
  obtain ⟨i, HI, rfl, hst⟩ := hrel
  have hi := HI.out
  by_cases hin : i < n
  ·clear hi
   have hip := Lib.hid (show i < ps.length by rw [Hpl.out]; exact hin)
   have hiq := Lib.hid (show i < qs.length by rw [Hql.out]; exact hin)
   have HC := Lib.hid (fun (W : World) (g off : Nat) h => piece_at (W := W) (g := g) (off := off) (i := i) (ps := ps) h hip.out)
   have HD := Lib.hid (fun (W : World) (g off : Nat) h => piece_at (W := W) (g := g) (off := off) (i := i) (ps := qs) h hiq.out)
   have HP := Hx.out (ps[i]'hip.out) (List.getElem_mem hip.out)
   have HQ := Hy.out (qs[i]'hiq.out) (List.getElem_mem hiq.out)
   have heq : (ps[i]'hip.out).2.2.2 = (qs[i]'hiq.out).2.2.2 := by
    have := congrArg (fun l => l[i]?) HE.out
    simpa [recsP, hip.out, hiq.out] using this
   generalize ps[i]'hip.out = p at HC HP heq
   generalize qs[i]'hiq.out = q at HD HQ heq
   obtain ⟨PA, pn, pc, pl⟩ := p
   obtain ⟨QA, qn, qc, ql⟩ := q
   dsimp only at HC HD HP HQ heq
   subst heq
   have HB := Lib.hid (fun w h1 h2 => sameB_any pl pl PA QA pn pc qn qc w h1 h2)
   rw [show (pl == pl) = true by simp] at HB
   go_wp2_with (first
    | fail)
   refine wp_region_idx [(0, 0), (1, 0), (2, 0), (3, 0), (4, 0), (5, 2), (6, 2), (7, 2), (8, 2), (9, 2)] (by kernel_rfl) (by kernel_rfl) ?_
   replace hst := hst.drew
   refine idx_q rfl rfl ?_; go_wp2_with fail
   refine idx_q rfl rfl ?_; go_wp2_with fail
   refine idx_q rfl rfl ?_; go_wp2_with (first | (refine L_idxS (d := some 20) rfl rfl rfl (by rfl) (by rfl) Tryd.underlying37 el_S_uint8 (by first | exact hst.old (by decide) hx1 | exact hst.old (by decide) hy1 | assumption | exact hst.sl 0 rfl | exact hst.old (by decide) (by assumption)) (by omega) (by omega) ?_; intro o20 p20 ha20 hr20; (first | subst ha20 | (obtain ⟨h1, h2⟩ := some_addr ha20; subst h1; subst h2; clear ha20) | skip)) | fail)
   refine idx_q rfl rfl ?_; go_wp2_with (first | (refine L_load1 (d := some 21) rfl rfl rfl (by rfl) Tryd.underlying49 rfl (HC.out _ _ _ hr20) ?_) | (refine L_load1 (d := some 21) rfl rfl rfl (by rfl) Tryd.underlying49 rfl (by first | assumption | exact cell_of (hst.get 0 rfl) rfl) ?_) | fail)
   refine idx_q rfl rfl ?_; go_wp2_with fail
   refine idx_g rfl ?_; go_wp2_with fail; refine ⟨by first | exact Below.refl _ _ | exact hnew.below, ?_⟩
   refine idx_g rfl ?_; go_wp2_with (first | (refine L_idxS (d := some 24) rfl rfl rfl (by rfl) (by rfl) Tryd.underlying37 el_S_uint8 (by first | exact hst.old (by decide) hx1 | exact hst.old (by decide) hy1 | assumption | exact hst.sl 0 rfl | exact hst.old (by decide) (by assumption)) (by omega) (by omega) ?_; intro o24 p24 ha24 hr24; (first | subst ha24 | (obtain ⟨h1, h2⟩ := some_addr ha24; subst h1; subst h2; clear ha24) | skip)) | fail); refine ⟨by first | exact Below.refl _ _ | exact hnew.below, ?_⟩
   refine idx_g rfl ?_; go_wp2_with (first | (refine L_load1 (d := some 25) rfl rfl rfl (by rfl) Tryd.underlying49 rfl (HD.out _ _ _ hr24) ?_) | (refine L_load1 (d := some 25) rfl rfl rfl (by rfl) Tryd.underlying49 rfl (by first | assumption | exact cell_of (hst.get 0 rfl) rfl) ?_) | fail); refine ⟨by first | exact Below.refl _ _ | exact hnew.below, ?_⟩
   refine idx_g rfl ?_; go_wp2_with (first | (refine L_load1 (d := some 21) rfl rfl rfl (by rfl) Tryd.underlying49 rfl (HC.out _ _ _ hr20) ?_) | (refine L_load1 (d := some 25) rfl rfl rfl (by rfl) Tryd.underlying49 rfl (HD.out _ _ _ hr24) ?_) | (go_at_call 32; (try clear hnew); refine (HB.out _ (hst.old (by decide) HP) (hst.old (by decide) HQ)).mono ?_; rintro e Wk1 ⟨rfl, hnew⟩; replace hst := hst.keep hnew) | fail); refine ⟨by first | exact Below.refl _ _ | exact hnew.below, ?_⟩
   refine idx_g rfl ?_; go_wp2_with fail; refine ⟨by first | exact Below.refl _ _ | exact hnew.below, ?_⟩
   refine idx_nil ?_
   clear hnew
   go_wp2_with (first
    | fail)
   go_roundg (gk - 1)
   case measure => have hi := HI.out; omega
   case rel =>
    have hi := HI.out
    exact ⟨i + 1, Lib.hid (by omega), by go_num, hst⟩
  ·obtain rfl : i = n := by omega
   clear hi HI
   go_wp2_with (first
    | fail)
   go_ret
   exact ⟨rfl, hst⟩
end Go.Proofs.YtkbleigmfcleaaaDoor

set_option maxRecDepth 20000
set_option linter.unusedSimpArgs false
set_option linter.unusedVariables false
namespace Go.Proofs.YtkbleigmfcleaaaDoor
open Go.RowKit
set_option maxHeartbeats 1000000 in
theorem rmark8_any (last r : List UInt8) (L A : Option Addr) (m lc n c : Nat) (w : World) (hl : SlR w L m lc 1 (bytesL last)) (hr : SlR w A n c 1 (bytesL r)) (hm : m ≤ 8) (hn : n ≤ 16777216) :
  Calls Tryd.prog 60 #[.slice L m lc, .slice A n c] w fun e w' => ∃ O oc, e = .returned (.slice O 8 oc) ∧ St w w' [.row O 8 oc 5 1 (bytesL (dmark last r))] := by
 have hst := St.refl w
 go_enter Tryd.func60, Tryd.ntmps60
 go_upto_region 1 with (first
  | fail)
 go_upto_region 2 with (first
  | (refine L_buildS (d := some 7) rfl rfl rfl [_] (bs_1 ev_const) rfl Tryd.underlying49 el_uint8 rfl (by first | (simp [Value.cells]; done) | (simp [Value.cells, Dig.size]; done)) (by decide) (by decide) ?_; (try clear hnew); intro g7 W7 hnew; replace hst := hst.trans hnew; simp only [List.cons_append, List.nil_append] at hst; simp only [List.flatMap_cons, List.flatMap_nil, List.append_nil, Value.cells, List.toList_toArray] at hst)
  | (refine L_appendO (d := some 9) rfl rfl hst rfl (by rfl) (by rfl) Tryd.underlying49 el_uint8 rfl (by decide) (by decide) 0 rfl (by first | rfl | omega) (by first | exact hst.old (by decide) hl | exact hst.sl 0 rfl | assumption | exact hst.old (by decide) (by assumption)) (by first | exact oneCell_bytes | (simp [Value.oneCell']; done)) (by omega) ?_; clear hst; intro A9 c9 W9 hst; simp only [List.set_cons_zero, List.set_cons_succ, List.nil_append, Nat.zero_add] at hst)
  | (refine L_appendF (d := some 9) rfl rfl rfl (by rfl) (by rfl) Tryd.underlying49 el_uint8 rfl (by decide) (by assumption) (by first | assumption | exact hst.old (by decide) hl | exact hst.sl 0 rfl | assumption | exact hst.old (by decide) (by assumption)) (by omega) (by omega) (by omega) ?_; (try clear hnew); intro A9 c9 W9 hnew; replace hst := hst.trans hnew; simp only [List.cons_append, List.nil_append] at hst)
  | fail)
 (try clear hnew)
 have HB := Lib.hid (show [Value.int .u8 14] ++ bytesL last ++ bytesL r = bytesL (List.cons 14 (last ++ r)) by rw [show [Value.int .u8 14] = bytesL [14] from rfl, ← bytesL_append, ← bytesL_append]; rfl)
 go_upto_region 3 with (first
  | (go_at_call 38; (try clear hnew); refine (rsum_any (List.cons 14 (last ++ r)) _ _ _ _ (by rw [← HB.out]; exact hst.sl 0 rfl) (by omega)).mono ?_; rintro e Wk1 ⟨rfl, hnew⟩; replace hst := hst.keep hnew)
  | (refine L_appendO (d := some 12) rfl rfl hst rfl (by rfl) (by rfl) Tryd.underlying49 el_uint8 rfl (by decide) (by decide) 0 rfl (by first | rfl | omega) (by first | exact hst.old (by decide) hr | exact hst.sl 0 rfl | exact hst.sl 1 rfl | assumption | exact hst.old (by decide) (by assumption)) (by first | exact oneCell_bytes | (simp [Value.oneCell']; done)) (by omega) ?_; clear hst; intro A12 c12 W12 hst; simp only [List.set_cons_zero, List.set_cons_succ, List.nil_append, Nat.zero_add] at hst)
  | (refine L_appendO (d := some 12) rfl rfl hst rfl (by rfl) (by rfl) Tryd.underlying49 el_uint8 rfl (by decide) (by decide) 1 rfl (by first | rfl | omega) (by first | exact hst.old (by decide) hr | exact hst.sl 0 rfl | exact hst.sl 1 rfl | assumption | exact hst.old (by decide) (by assumption)) (by first | exact oneCell_bytes | (simp [Value.oneCell']; done)) (by omega) ?_; clear hst; intro A12 c12 W12 hst; simp only [List.set_cons_zero, List.set_cons_succ, List.nil_append, Nat.zero_add] at hst)
  | (refine L_appendF (d := some 12) rfl rfl rfl (by rfl) (by rfl) Tryd.underlying49 el_uint8 rfl (by decide) (by assumption) (by first | assumption | exact hst.old (by decide) hr | exact hst.sl 0 rfl | exact hst.sl 1 rfl | assumption | exact hst.old (by decide) (by assumption)) (by omega) (by omega) (by omega) ?_; (try clear hnew); intro A12 c12 W12 hnew; replace hst := hst.trans hnew; simp only [List.cons_append, List.nil_append] at hst)
  | (refine L_allocA (d := some 6) rfl rfl rfl el_api_Digest ?_; (try clear hnew); intro g6 W6 hnew; replace hst := hst.trans hnew; simp only [List.cons_append, List.nil_append] at hst)
  | (refine wpl_at (.store 23 (.tmp 6) (.tmp 13)) rfl ?_; first | (refine L_storeA rfl rfl hst rfl (by rfl) (ev_tmp rfl) (by first | rfl | exact Dig.one _ | (simp; done)) el_api_Digest (by first | rfl | exact Dig.size _ | (simp; done)) 0 rfl (by first | rfl | exact Dig.size _ | (simp; done)) ?_; clear hst; intro WS5 hst; simp only [List.set_cons_zero, List.set_cons_succ] at hst) | (refine L_storeA rfl rfl hst rfl (by rfl) (ev_tmp rfl) (by first | rfl | exact Dig.one _ | (simp; done)) el_api_Digest (by first | rfl | exact Dig.size _ | (simp; done)) 1 rfl (by first | rfl | exact Dig.size _ | (simp; done)) ?_; clear hst; intro WS5 hst; simp only [List.set_cons_zero, List.set_cons_succ] at hst) | (refine L_storeM rfl rfl hst rfl (by rfl) (ev_tmp rfl) (by first | rfl | exact Dig.one _ | (simp; done)) el_api_Digest (by first | rfl | exact Dig.size _ | (simp; done)) 0 rfl (by first | exact of_decide_eq_true rfl | (simp; done)) ?_; clear hst; intro WS5 hst; simp only [List.set_cons_zero, List.set_cons_succ] at hst)  | (refine L_storeM rfl rfl hst rfl (by rfl) (ev_tmp rfl) (by first | rfl | exact Dig.one _ | (simp; done)) el_api_Digest (by first | rfl | exact Dig.size _ | (simp; done)) 1 rfl (by first | exact of_decide_eq_true rfl | (simp; done)) ?_; clear hst; intro WS5 hst; simp only [List.set_cons_zero, List.set_cons_succ] at hst))
  | fail)
 (try clear hnew)
 go_wp2_with (first
  | (refine L_buildS (d := some 14) rfl rfl rfl [] (bs_0 ) rfl Tryd.underlying49 el_uint8 rfl (by first | (simp [Value.cells]; done) | (simp [Value.cells, Dig.size]; done)) (by decide) (by decide) ?_; (try clear hnew); intro g14 W14 hnew; replace hst := hst.trans hnew; simp only [List.cons_append, List.nil_append] at hst; simp only [List.flatMap_cons, List.flatMap_nil, List.append_nil, Value.cells, List.toList_toArray] at hst)
  | (refine L_appendO (d := some 16) rfl rfl hst rfl (by rfl) (by rfl) Tryd.underlying49 el_uint8 rfl (by decide) (by decide) 0 rfl (by first | rfl | omega) (by first | exact mark_slr (hst.get 1 rfl) | exact hst.sl 0 rfl | exact hst.sl 1 rfl | assumption | exact hst.old (by decide) (by assumption)) (by first | exact oneCell_bytes | (simp [Value.oneCell']; done)) (by omega) ?_; clear hst; intro A16 c16 W16 hst; simp only [List.set_cons_zero, List.set_cons_succ, List.nil_append, Nat.zero_add] at hst)
  | (refine L_appendO (d := some 16) rfl rfl hst rfl (by rfl) (by rfl) Tryd.underlying49 el_uint8 rfl (by decide) (by decide) 1 rfl (by first | rfl | omega) (by first | exact mark_slr (hst.get 1 rfl) | exact hst.sl 0 rfl | exact hst.sl 1 rfl | assumption | exact hst.old (by decide) (by assumption)) (by first | exact oneCell_bytes | (simp [Value.oneCell']; done)) (by omega) ?_; clear hst; intro A16 c16 W16 hst; simp only [List.set_cons_zero, List.set_cons_succ, List.nil_append, Nat.zero_add] at hst)
  | (refine L_appendF (d := some 16) rfl rfl rfl (by rfl) (by rfl) Tryd.underlying49 el_uint8 rfl (by decide) (by assumption) (by first | assumption | exact mark_slr (hst.get 1 rfl) | exact hst.sl 0 rfl | exact hst.sl 1 rfl | assumption | exact hst.old (by decide) (by assumption)) (by omega) (by omega) (by omega) ?_; (try clear hnew); intro A16 c16 W16 hnew; replace hst := hst.trans hnew; simp only [List.cons_append, List.nil_append] at hst)
  | fail)
 go_ret
 exact ⟨_, _, rfl, by simpa using hst.pick [0] (by decide)⟩
def PcAt (w : World) (ps : List Piece) : Prop := ∀ p ∈ ps, SlR w p.1 p.2.1 p.2.2.1 1 (bytesL p.2.2.2)
theorem drop_two {d t : List UInt8} {a b : UInt8} {at' : Nat} (h : d.drop at' = a :: b :: t) : d.drop (at' + 2) = t ∧ d[at']? = some a ∧ d[at' + 1]? = some b := by
 refine ⟨?_, ?_, ?_⟩
 ·rw [← List.drop_drop, h]; rfl
 ·have := congrArg (fun l => l[0]?) h
  simpa using this
 ·have := congrArg (fun l => l[1]?) h
  simpa using this
set_option maxHeartbeats 4000000 in
set_option maxRecDepth 100000 in
theorem records_any (d : List UInt8) (A : Option Addr) (n c : Nat) (w : World) (hd : SlR w A n c 1 (bytesL d)) (hn : n ≤ 16777216) :
  Calls Tryd.prog 34 #[.slice A n c] w fun e w' => ∃ (ps : List Piece) (O : Option Addr) (oc : Nat), e = .returned (.tuple #[.slice O ps.length oc, .int .i64 ((n : Int) - ((readD zero8 d).2.length : Int))]) ∧ recsP ps = (readD zero8 d).1 ∧ PcAt w ps ∧
   St w w' [.row O ps.length oc 49 1 (piecesL ps)] := by
 have hst := St.refl w
 have hdl := Lib.hid (slr_len hd)
 have hnc := hd.2.1
 have hcm := hd.2.2.1
 simp only [maxLen] at hcm
 generalize htot : readD zero8 d = tot
 replace htot := Lib.hid htot
 go_enter Tryd.func34, Tryd.ntmps34
 go_wp2_with (first
  | (refine L_makeS (d := some 13) (n := 8) rfl rfl rfl (by rfl) (by rfl) Tryd.underlying49 el_uint8 rfl (by omega) (by first | decide | (simp only [maxLen]; omega)) ?_; (try clear hnew); intro g13 W13 hnew; replace hst := hst.trans hnew; simp only [List.cons_append, List.nil_append] at hst)
  | fail)
 (try clear hnew)
 have hst : St w W13 [.row g13 8 8 5 1 (bytesL zero8), .row none 0 0 49 1 (piecesL [])] := (hst.nilRow 49 1).pick [1, 0] (by decide)
 go_loopg [4, 5, 6] (n + 1) (fun gk s4 s5 s6 wr => ∃ (ps : List Piece) (last rest : List UInt8) (Lp O : Option Addr) (r lc k oc p : Nat), Hid (rest.length < gk ∧ rest.length = r ∧ r + 10 * k ≤ n ∧ last.length = 8 ∧ ps.length = k) ∧ r + p = n ∧ Hid (d.drop p = rest) ∧ Hid (tot = (recsP ps ++ (readD last rest).1, (readD last rest).2)) ∧
  Hid (∀ W X, St w W (.row g13 8 8 5 1 (bytesL zero8) :: X) → SlR W Lp 8 lc 1 (bytesL last)) ∧ PcAt w ps ∧ s4 = .slice O k oc ∧ s5 = .slice Lp 8 lc ∧ s6 = .int .i64 (p : Int) ∧
  St w wr [.row g13 8 8 5 1 (bytesL zero8), .row O k oc 49 1 (piecesL ps)])
 case atStart => exact ⟨[], zero8, d, g13, none, n, 8, 0, 0, 0, Lib.hid ⟨by have := hdl.out; omega, hdl.out.symm, by omega, rfl, rfl⟩, by omega, Lib.hid rfl, Lib.hid (by rw [← htot.out]; rfl), Lib.hid (fun W X h => h.sl 0 rfl), (fun q hq => by cases hq), rfl, rfl, rfl, hst⟩
 case round =>
  clear hst
  obtain ⟨ps, last, rest, Lp, O, r, lc, k, oc, p, HG, hrp, HDr, HR, HL, HPs, rfl, rfl, rfl, hst⟩ := hrel
  have hk10 : 10 * k ≤ n := by have := HG.out; omega
  by_cases h2 : r < 2
  ·have hx : nextD last rest = none := by
    match rest, HG.out with
    | [], _ => rfl
    | [_], _ => rfl
    | a :: b :: t, h => have := h.2.1; simp at this; omega
   have hr2 := HR.out
   rw [readD_none hx, List.append_nil] at hr2
   replace hr2 := Lib.hid hr2
   have k0 : ¬ (p : Int) + 2 ≤ (n : Int) := by omega
   clear hx
   go_wp2_with (first
    | fail)
   go_ret2
   obtain ⟨_, g2, _, _, g5⟩ := HG.out
   subst g5
   exact ⟨ps, O, oc, by rw [hr2.out, g2, show (n : Int) - (r : Int) = (p : Int) by omega]; rfl, by rw [hr2.out], HPs, hst.tail⟩
  ·obtain ⟨a, b, t, rfl⟩ : ∃ a b t, rest = a :: b :: t := by
    match rest, HG.out with
    | [], h => have := h.2.1; simp at this; omega
    | [_], h => have := h.2.1; simp at this; omega
    | a :: b :: t, _ => exact ⟨a, b, t, rfl⟩
   have htl : t.length + 2 = r := by simpa using HG.out.2.1
   obtain ⟨hd2, hda, hdb⟩ := drop_two HDr.out
   have HC0 := Lib.hid (show (bytesL d)[p]? = some (.int .u8 (a.toNat : Int)) by rw [getElem?_bytesL, hda]; rfl)
   have HC1 := Lib.hid (show (bytesL d)[p + 1]? = some (.int .u8 (b.toNat : Int)) by rw [getElem?_bytesL, hdb]; rfl)
   obtain ⟨N, hN⟩ : ∃ N : Nat, N = a.toNat * 256 + b.toNat := ⟨_, rfl⟩
   have ha : a.toNat ≤ 255 := by have := UInt8.toNat_lt a; omega
   have hb : b.toNat ≤ 255 := by have := UInt8.toNat_lt b; omega
   have hNi : (a.toNat : Int) * 256 + (b.toNat : Int) = (N : Int) := by omega
   have HL1 := Lib.hid (show ((bytesL d).drop ((p + 2) * 1)).take ((p + 2 + N - (p + 2)) * 1) = bytesL (t.take N) by
    rw [show (p + 2 + N - (p + 2)) * 1 = N by omega, Nat.mul_one, ← hd2]; simp [bytesL, List.map_take, List.map_drop])
   have HL2 := Lib.hid (show ((bytesL d).drop ((p + 2 + N) * 1)).take ((p + 2 + N + 8 - (p + 2 + N)) * 1) = bytesL ((t.drop N).take 8) by
    rw [show (p + 2 + N + 8 - (p + 2 + N)) * 1 = 8 by omega, Nat.mul_one, ← hd2, List.drop_drop]; simp [bytesL, List.map_take, List.map_drop])
   have hN2 : N ≤ 65535 := by omega
   have hnx := Lib.hid (show nextD last (a :: b :: t) = if 1000 < N ∨ t.length < N + 8 then none else if (t.drop N).take 8 = dmark last (t.take N) then some (t.take N, t.drop (N + 8)) else none by simp only [nextD, ← hN])
   have k0 : (p : Int) + 2 ≤ (n : Int) := by omega
   clear hda hdb hN
   go_wp2_with (first
    | fail)
   refine wp_region_idx [(0, 0), (1, 0), (2, 0), (3, 0), (4, 0), (5, 0), (6, 0), (7, 2), (8, 2), (9, 2), (10, 2), (11, 2), (12, 2), (13, 2)] (by kernel_rfl) (by kernel_rfl) ?_
   replace hst := hst.drew
   refine idx_q rfl rfl ?_; go_wp2_with fail
   refine idx_q rfl rfl ?_; go_wp2_with fail
   refine idx_q rfl rfl ?_; go_wp2_with (first | (refine L_idxS (d := some 21) rfl rfl rfl (by rfl) (by rfl) Tryd.underlying49 el_uint8 (by first | exact hst.old (by decide) hd | assumption | exact hst.sl 0 rfl | exact hst.old (by decide) (by assumption)) (by omega) (by omega) ?_; intro o21 p21 ha21 hr21; (first | subst ha21 | (obtain ⟨h1, h2⟩ := some_addr ha21; subst h1; subst h2; clear ha21) | skip)) | fail)
   refine idx_q rfl rfl ?_; go_wp2_with (first | (refine L_load1 (d := some 22) rfl rfl rfl (by rfl) Tryd.underlying5 rfl (cell_of_range1 hr21 (k := p) (by omega) HC0.out) ?_) | (refine L_load1 (d := some 22) rfl rfl rfl (by rfl) Tryd.underlying5 rfl (by first | assumption | exact cell_of (hst.get 0 rfl) rfl) ?_) | fail)
   refine idx_qc rfl rfl (by rfl) Tryd.underlying3 ?_; go_wp2_with fail
   refine idx_q rfl rfl ?_; go_wp2_with fail
   refine idx_q rfl rfl ?_; go_wp2_with fail
   refine idx_g rfl ?_; go_wp2_with fail; refine ⟨by first | exact Below.refl _ _ | exact hnew.below, ?_⟩
   refine idx_g rfl ?_; go_wp2_with fail; refine ⟨by first | exact Below.refl _ _ | exact hnew.below, ?_⟩
   refine idx_g rfl ?_; go_wp2_with (first | (refine L_idxS (d := some 28) rfl rfl rfl (by rfl) (by rfl) Tryd.underlying49 el_uint8 (by first | exact hst.old (by decide) hd | assumption | exact hst.sl 0 rfl | exact hst.old (by decide) (by assumption)) (by omega) (by omega) ?_; intro o28 p28 ha28 hr28; (first | subst ha28 | (obtain ⟨h1, h2⟩ := some_addr ha28; subst h1; subst h2; clear ha28) | skip)) | fail); refine ⟨by first | exact Below.refl _ _ | exact hnew.below, ?_⟩
   refine idx_g rfl ?_; go_wp2_with (first | (refine L_load1 (d := some 29) rfl rfl rfl (by rfl) Tryd.underlying5 rfl (cell_of_range1 hr28 (k := p + 1) (by omega) HC1.out) ?_) | (refine L_load1 (d := some 29) rfl rfl rfl (by rfl) Tryd.underlying5 rfl (by first | assumption | exact cell_of (hst.get 0 rfl) rfl) ?_) | fail); refine ⟨by first | exact Below.refl _ _ | exact hnew.below, ?_⟩
   refine idx_g rfl ?_; go_wp2_with fail; refine ⟨by first | exact Below.refl _ _ | exact hnew.below, ?_⟩
   refine idx_g rfl ?_; go_wp2_with fail; refine ⟨by first | exact Below.refl _ _ | exact hnew.below, ?_⟩
   refine idx_g rfl ?_; go_wp2_with fail; refine ⟨by first | exact Below.refl _ _ | exact hnew.below, ?_⟩
   refine idx_nil ?_
   clear hr21 hr28 ha hb hNi
   by_cases hbig : 1000 < N ∨ t.length < N + 8
   ·have hx : nextD last (a :: b :: t) = none := by rw [hnx.out, if_pos hbig]
    have hr2 := HR.out
    rw [readD_none hx, List.append_nil] at hr2
    replace hr2 := Lib.hid hr2
    have hbb : (1000 : Int) < (N : Int) ∨ ¬ (1000 : Int) < (N : Int) ∧ (n : Int) < (p : Int) + 2 + (N : Int) + 8 := by omega
    clear hx hbig hnx
    obtain ⟨_, g2, _, _, g5⟩ := HG.out
    rcases hbb with k1 | ⟨k1, k2⟩
    all_goals
     go_wp2_with (first
      | fail)
     go_ret2
     subst g5
     exact ⟨ps, O, oc, by rw [hr2.out, g2, show (n : Int) - (r : Int) = (p : Int) by omega]; rfl, by rw [hr2.out], HPs, hst.tail⟩
   ·have k1 : ¬ (1000 : Int) < (N : Int) := by omega
    have k2 : ¬ (n : Int) < (p : Int) + 2 + (N : Int) + 8 := by omega
    have k3 : p + 2 + N + 8 ≤ n := by omega
    have htN : N ≤ 1000 ∧ N + 8 ≤ t.length := by omega
    rw [if_neg hbig] at hnx
    clear hbig
    go_wp2_with (first
     | (first | (refine L_cutV (d := some 51) rfl rfl rfl (by rfl) Tryd.underlying49 el_uint8 (by decide) hd (p + 2) (p + 2 + N) _ (Or.inr ⟨_, _, rfl, by first | exact ev_tmp rfl | exact ev_int rfl (by omega) | (rw [ev_tmp rfl]; congr 1; omega)⟩) (Or.inr ⟨_, _, rfl, by first | exact ev_tmp rfl | exact ev_int rfl (by omega) | (rw [ev_tmp rfl]; congr 1; omega)⟩) (Or.inl ⟨rfl, rfl⟩) (by omega) (by omega) (by omega) (by omega) ?_; intro A51 c51 hs51) | (refine L_cutO (d := some 51) rfl rfl hst rfl (by rfl) Tryd.underlying49 el_uint8 0 rfl (by first | rfl | omega) (p + 2) (p + 2 + N) _ (Or.inr ⟨_, _, rfl, by first | exact ev_tmp rfl | exact ev_int rfl (by omega) | (rw [ev_tmp rfl]; congr 1; omega)⟩) (Or.inr ⟨_, _, rfl, by first | exact ev_tmp rfl | exact ev_int rfl (by omega) | (rw [ev_tmp rfl]; congr 1; omega)⟩) (Or.inl ⟨rfl, rfl⟩) (by omega) (by omega) (by omega) (by omega) ?_; clear hst; intro A51 c51 hst; simp only [List.set_cons_zero, List.set_cons_succ] at hst) | (refine L_cutS (d := some 51) rfl rfl rfl (by rfl) Tryd.underlying49 el_uint8 (by decide) (by first | assumption | exact hst.old (by decide) (by assumption) | exact hst.sl 0 rfl) (p + 2) (p + 2 + N) _ (Or.inr ⟨_, _, rfl, by first | exact ev_tmp rfl | exact ev_int rfl (by omega) | (rw [ev_tmp rfl]; congr 1; omega)⟩) (Or.inr ⟨_, _, rfl, by first | exact ev_tmp rfl | exact ev_int rfl (by omega) | (rw [ev_tmp rfl]; congr 1; omega)⟩) (Or.inl ⟨rfl, rfl⟩) (by omega) (by omega) (by omega) (by omega) ?_; intro A51 c51 hs51))
     | (first | (refine L_cutV (d := some 62) rfl rfl rfl (by rfl) Tryd.underlying49 el_uint8 (by decide) hd (p + 2 + N) (p + 2 + N + 8) _ (Or.inr ⟨_, _, rfl, by first | exact ev_tmp rfl | exact ev_int rfl (by omega) | (rw [ev_tmp rfl]; congr 1; omega)⟩) (Or.inr ⟨_, _, rfl, by first | exact ev_tmp rfl | exact ev_int rfl (by omega) | (rw [ev_tmp rfl]; congr 1; omega)⟩) (Or.inl ⟨rfl, rfl⟩) (by omega) (by omega) (by omega) (by omega) ?_; intro A62 c62 hs62) | (refine L_cutO (d := some 62) rfl rfl hst rfl (by rfl) Tryd.underlying49 el_uint8 0 rfl (by first | rfl | omega) (p + 2 + N) (p + 2 + N + 8) _ (Or.inr ⟨_, _, rfl, by first | exact ev_tmp rfl | exact ev_int rfl (by omega) | (rw [ev_tmp rfl]; congr 1; omega)⟩) (Or.inr ⟨_, _, rfl, by first | exact ev_tmp rfl | exact ev_int rfl (by omega) | (rw [ev_tmp rfl]; congr 1; omega)⟩) (Or.inl ⟨rfl, rfl⟩) (by omega) (by omega) (by omega) (by omega) ?_; clear hst; intro A62 c62 hst; simp only [List.set_cons_zero, List.set_cons_succ] at hst) | (refine L_cutS (d := some 62) rfl rfl rfl (by rfl) Tryd.underlying49 el_uint8 (by decide) (by first | assumption | exact hst.old (by decide) (by assumption) | exact hst.sl 0 rfl) (p + 2 + N) (p + 2 + N + 8) _ (Or.inr ⟨_, _, rfl, by first | exact ev_tmp rfl | exact ev_int rfl (by omega) | (rw [ev_tmp rfl]; congr 1; omega)⟩) (Or.inr ⟨_, _, rfl, by first | exact ev_tmp rfl | exact ev_int rfl (by omega) | (rw [ev_tmp rfl]; congr 1; omega)⟩) (Or.inl ⟨rfl, rfl⟩) (by omega) (by omega) (by omega) (by omega) ?_; intro A62 c62 hs62))
     | fail)
    rw [HL1.out, show p + 2 + N - (p + 2) = N by omega] at hs51
    rw [HL2.out, show p + 2 + N + 8 - (p + 2 + N) = 8 by omega] at hs62
    have HMk := Lib.hid (fun w h1 h2 => rmark8_any last (t.take N) Lp A51 8 lc N c51 w h1 h2 (by decide) (by omega))
    obtain ⟨y, hy⟩ : ∃ y, y = dmark last (t.take N) := ⟨_, rfl⟩
    obtain ⟨x, hxx⟩ : ∃ x, x = (t.drop N).take 8 := ⟨_, rfl⟩
    have Hyl := Lib.hid (show y.length = 8 by rw [hy, length_dmark])
    have Hxl := Lib.hid (show x.length = 8 by rw [hxx, List.length_take, List.length_drop]; omega)
    rw [← hy] at HMk hnx
    rw [← hxx] at hs62 hnx
    replace hy := Lib.hid hy
    clear HL1 HL2 HC0 HC1 hxx
    go_upto_region 10 with (first
     | (go_at_call 60; (try clear hnew); refine (HMk.out _ (HL.out _ _ hst) (hst.old (by decide) hs51)).mono ?_; rintro e Wk2 ⟨O65, c65, rfl, hnew⟩; replace hst := hst.trans hnew; simp only [List.cons_append, List.nil_append] at hst)
     | fail)
    go_upto_region 11 with (first
     | fail)
    go_wp2_with (first
     | fail)
    (try clear hnew)
    obtain ⟨gk0, HGK⟩ : ∃ g0, Hid (g0 = gk) := ⟨_, Lib.hid rfl⟩
    go_loopg [11, 12] 8 (fun g s11 s12 wq => ∃ (j : Nat) (e : Bool), Hid (j + g = 8) ∧ Hid (e = decide (x.take j = y.take j)) ∧ s11 = .bool e ∧ s12 = .int .i64 (j : Int) ∧ St w wq [.row O65 8 c65 5 1 (bytesL y), .row g13 8 8 5 1 (bytesL zero8), .row O k oc 49 1 (piecesL ps)])
    case atStart => exact ⟨0, true, Lib.hid rfl, Lib.hid (by simp), rfl, rfl, hst⟩
    case round =>
     clear hst
     obtain ⟨j, e, HJ, HE, rfl, rfl, hst⟩ := hrel
     have hj := HJ.out
     by_cases hj8 : j < 8
     ·clear hj
      have hjx := Lib.hid (show j < x.length by rw [Hxl.out]; exact hj8)
      have hjy := Lib.hid (show j < y.length by rw [Hyl.out]; exact hj8)
      have HX := Lib.hid (fun (W : World) (g off : Nat) h => byte_of_range (W := W) (g := g) (off := off) (i := j) (l := x) h hjx.out)
      have HY := Lib.hid (fun (W : World) (g off : Nat) h => byte_of_range (W := W) (g := g) (off := off) (i := j) (l := y) h hjy.out)
      by_cases he : x.getD j 0 = y.getD j 0
      ·have HE' := Lib.hid (show e = decide (x.take (j + 1) = y.take (j + 1)) by
        rw [HE.out, decide_eq_decide]
        constructor
        ·exact fun h => take_succ_eq hjx.out hjy.out h he
        ·intro h
         have := congrArg (List.take j) h
         rwa [List.take_take, List.take_take, Nat.min_eq_left (by omega)] at this)
       rw [he] at HX
       clear he
       generalize y.getD j 0 = v at HX HY
       go_wp2_with (first
        | fail)
       refine wp_region_idx [(0, 0), (1, 0), (2, 0), (3, 0), (4, 0), (5, 2), (6, 2), (7, 2), (8, 2)] (by kernel_rfl) (by kernel_rfl) ?_
       replace hst := hst.drew
       refine idx_q rfl rfl ?_; go_wp2_with fail
       refine idx_q rfl rfl ?_; go_wp2_with fail
       refine idx_q rfl rfl ?_; go_wp2_with (first | (refine L_idxS (d := some 72) rfl rfl rfl (by rfl) (by rfl) Tryd.underlying49 el_uint8 (by first | exact hst.old (by decide) hs62 | assumption | exact hst.sl 0 rfl | exact hst.old (by decide) (by assumption)) (by omega) (by omega) ?_; intro o72 p72 ha72 hr72; (first | subst ha72 | (obtain ⟨h1, h2⟩ := some_addr ha72; subst h1; subst h2; clear ha72) | skip)) | fail)
       refine idx_q rfl rfl ?_; go_wp2_with (first | (refine L_load1 (d := some 73) rfl rfl rfl (by rfl) Tryd.underlying5 rfl (HX.out _ _ _ hr72) ?_) | (refine L_load1 (d := some 73) rfl rfl rfl (by rfl) Tryd.underlying5 rfl (by first | assumption | exact cell_of (hst.get 0 rfl) rfl) ?_) | fail)
       refine idx_q rfl rfl ?_; go_wp2_with fail
       refine idx_g rfl ?_; go_wp2_with fail; refine ⟨by first | exact Below.refl _ _ | exact hnew.below, ?_⟩
       refine idx_g rfl ?_; go_wp2_with (first | (refine L_idxS (d := some 76) rfl rfl rfl (by rfl) (by rfl) Tryd.underlying49 el_uint8 (by first | exact hst.old (by decide) hs62 | assumption | exact hst.sl 0 rfl | exact hst.old (by decide) (by assumption)) (by omega) (by omega) ?_; intro o76 p76 ha76 hr76; (first | subst ha76 | (obtain ⟨h1, h2⟩ := some_addr ha76; subst h1; subst h2; clear ha76) | skip)) | fail); refine ⟨by first | exact Below.refl _ _ | exact hnew.below, ?_⟩
       refine idx_g rfl ?_; go_wp2_with (first | (refine L_load1 (d := some 77) rfl rfl rfl (by rfl) Tryd.underlying5 rfl (HY.out _ _ _ hr76) ?_) | (refine L_load1 (d := some 77) rfl rfl rfl (by rfl) Tryd.underlying5 rfl (by first | assumption | exact cell_of (hst.get 0 rfl) rfl) ?_) | fail); refine ⟨by first | exact Below.refl _ _ | exact hnew.below, ?_⟩
       refine idx_g rfl ?_; go_wp2_with (first | (refine L_load1 (d := some 73) rfl rfl rfl (by rfl) Tryd.underlying5 rfl (HX.out _ _ _ hr72) ?_) | (refine L_load1 (d := some 77) rfl rfl rfl (by rfl) Tryd.underlying5 rfl (HY.out _ _ _ hr76) ?_) | fail); refine ⟨by first | exact Below.refl _ _ | exact hnew.below, ?_⟩
       refine idx_nil ?_
       go_wp2_with (first
        | fail)
       go_roundg (gk - 1)
       case measure => have hj := HJ.out; omega
       case rel =>
        have hj := HJ.out
        exact ⟨j + 1, e, Lib.hid (by omega), HE', rfl, by go_num, hst⟩
      ·have HE' := Lib.hid (show false = decide (x.take (j + 1) = y.take (j + 1)) by
        symm
        rw [decide_eq_false_iff_not]
        intro h
        apply he
        have := congrArg (fun l => l.getD j 0) h
        simpa [List.getElem?_take] using this)
       have hne : (((x.getD j 0).toNat : Int) != ((y.getD j 0).toNat : Int)) = true := by
        rw [bne_iff_ne]
        intro h
        exact he (UInt8.toNat_inj.1 (by omega))
       have hne2 : ¬ ((x.getD j 0).toNat : Int) = ((y.getD j 0).toNat : Int) := by simpa using hne
       clear he
       generalize y.getD j 0 = v at HY hne hne2
       generalize x.getD j 0 = u at HX hne hne2
       go_wp2_with (first
        | fail)
       refine wp_region_idx [(0, 0), (1, 0), (2, 0), (3, 0), (4, 0), (5, 2), (6, 2), (7, 2), (8, 2)] (by kernel_rfl) (by kernel_rfl) ?_
       replace hst := hst.drew
       refine idx_q rfl rfl ?_; go_wp2_with fail
       refine idx_q rfl rfl ?_; go_wp2_with fail
       refine idx_q rfl rfl ?_; go_wp2_with (first | (refine L_idxS (d := some 72) rfl rfl rfl (by rfl) (by rfl) Tryd.underlying49 el_uint8 (by first | exact hst.old (by decide) hs62 | assumption | exact hst.sl 0 rfl | exact hst.old (by decide) (by assumption)) (by omega) (by omega) ?_; intro o72 p72 ha72 hr72; (first | subst ha72 | (obtain ⟨h1, h2⟩ := some_addr ha72; subst h1; subst h2; clear ha72) | skip)) | fail)
       refine idx_q rfl rfl ?_; go_wp2_with (first | (refine L_load1 (d := some 73) rfl rfl rfl (by rfl) Tryd.underlying5 rfl (HX.out _ _ _ hr72) ?_) | (refine L_load1 (d := some 73) rfl rfl rfl (by rfl) Tryd.underlying5 rfl (by first | assumption | exact cell_of (hst.get 0 rfl) rfl) ?_) | fail)
       refine idx_q rfl rfl ?_; go_wp2_with fail
       refine idx_g rfl ?_; go_wp2_with fail; refine ⟨by first | exact Below.refl _ _ | exact hnew.below, ?_⟩
       refine idx_g rfl ?_; go_wp2_with (first | (refine L_idxS (d := some 76) rfl rfl rfl (by rfl) (by rfl) Tryd.underlying49 el_uint8 (by first | exact hst.old (by decide) hs62 | assumption | exact hst.sl 0 rfl | exact hst.old (by decide) (by assumption)) (by omega) (by omega) ?_; intro o76 p76 ha76 hr76; (first | subst ha76 | (obtain ⟨h1, h2⟩ := some_addr ha76; subst h1; subst h2; clear ha76) | skip)) | fail); refine ⟨by first | exact Below.refl _ _ | exact hnew.below, ?_⟩
       refine idx_g rfl ?_; go_wp2_with (first | (refine L_load1 (d := some 77) rfl rfl rfl (by rfl) Tryd.underlying5 rfl (HY.out _ _ _ hr76) ?_) | (refine L_load1 (d := some 77) rfl rfl rfl (by rfl) Tryd.underlying5 rfl (by first | assumption | exact cell_of (hst.get 0 rfl) rfl) ?_) | fail); refine ⟨by first | exact Below.refl _ _ | exact hnew.below, ?_⟩
       refine idx_g rfl ?_; go_wp2_with (first | (refine L_load1 (d := some 73) rfl rfl rfl (by rfl) Tryd.underlying5 rfl (HX.out _ _ _ hr72) ?_) | (refine L_load1 (d := some 77) rfl rfl rfl (by rfl) Tryd.underlying5 rfl (HY.out _ _ _ hr76) ?_) | fail); refine ⟨by first | exact Below.refl _ _ | exact hnew.below, ?_⟩
       refine idx_nil ?_
       go_wp2_with (first
        | fail)
       go_roundg (gk - 1)
       case measure => have hj := HJ.out; omega
       case rel =>
        have hj := HJ.out
        exact ⟨j + 1, false, Lib.hid (by omega), HE', rfl, by go_num, hst⟩
     ·obtain rfl : j = 8 := by omega
      have he := HE.out
      rw [List.take_of_length_le (by rw [Hxl.out]; exact Nat.le_refl _), List.take_of_length_le (by rw [Hyl.out]; exact Nat.le_refl _)] at he
      clear hj HJ HE
      replace hst := hst.tail
      by_cases hxy : x = y
      ·obtain rfl : e = true := by rw [he, decide_eq_true hxy]
       rw [if_pos hxy] at hnx
       have hr2 := HR.out
       rw [readD_some hnx.out, ← hy.out] at hr2
       replace hr2 := Lib.hid hr2
       clear he
       subst hxy
       go_wp2_with (first
        | (refine L_buildS (d := some 83) rfl rfl rfl [_] (bs_1 (ev_tmp rfl)) rfl Tryd.underlying37 el_S_uint8 rfl (by first | (simp [Value.cells]; done) | (simp [Value.cells, Dig.size]; done)) (by decide) (by decide) ?_; (try clear hnew); intro g83 W83 hnew; replace hst := hst.trans hnew; simp only [List.cons_append, List.nil_append] at hst; simp only [List.flatMap_cons, List.flatMap_nil, List.append_nil, Value.cells, List.toList_toArray] at hst)
        | (refine L_appendO (d := some 84) rfl rfl hst rfl (by rfl) (by rfl) Tryd.underlying37 el_S_uint8 rfl (by decide) (by decide) 0 rfl (by first | rfl | omega) (by first | exact hst.sl 0 rfl | exact hst.sl 1 rfl | exact hst.sl 2 rfl | assumption | exact hst.old (by decide) (by assumption)) (by first | exact oneCell_bytes | (simp [Value.oneCell']; done) | exact piecesL_ones _) (by omega) ?_; clear hst; intro A84 c84 W84 hst; simp only [List.set_cons_zero, List.set_cons_succ, List.nil_append, Nat.zero_add] at hst)
        | (refine L_appendO (d := some 84) rfl rfl hst rfl (by rfl) (by rfl) Tryd.underlying37 el_S_uint8 rfl (by decide) (by decide) 1 rfl (by first | rfl | omega) (by first | exact hst.sl 0 rfl | exact hst.sl 1 rfl | exact hst.sl 2 rfl | assumption | exact hst.old (by decide) (by assumption)) (by first | exact oneCell_bytes | (simp [Value.oneCell']; done) | exact piecesL_ones _) (by omega) ?_; clear hst; intro A84 c84 W84 hst; simp only [List.set_cons_zero, List.set_cons_succ, List.nil_append, Nat.zero_add] at hst)
        | (refine L_appendO (d := some 84) rfl rfl hst rfl (by rfl) (by rfl) Tryd.underlying37 el_S_uint8 rfl (by decide) (by decide) 2 rfl (by first | rfl | omega) (by first | exact hst.sl 0 rfl | exact hst.sl 1 rfl | exact hst.sl 2 rfl | assumption | exact hst.old (by decide) (by assumption)) (by first | exact oneCell_bytes | (simp [Value.oneCell']; done) | exact piecesL_ones _) (by omega) ?_; clear hst; intro A84 c84 W84 hst; simp only [List.set_cons_zero, List.set_cons_succ, List.nil_append, Nat.zero_add] at hst)
        | (refine L_appendF (d := some 84) rfl rfl rfl (by rfl) (by rfl) Tryd.underlying37 el_S_uint8 rfl (by decide) (by assumption) (by first | assumption | exact hst.sl 0 rfl | exact hst.sl 1 rfl | exact hst.sl 2 rfl | assumption | exact hst.old (by decide) (by assumption)) (by omega) (by omega) (by omega) ?_; (try clear hnew); intro A84 c84 W84 hnew; replace hst := hst.trans hnew; simp only [List.cons_append, List.nil_append] at hst)
        | fail)
       go_roundg (gk0 - 1)
       case measure => have := HG.out; have := HGK.out; omega
       case rel =>
        obtain ⟨g1, g2, g3, g4, g5⟩ := HG.out
        have hg := HGK.out
        simp only [List.length_cons] at g1 g2
        refine ⟨ps ++ [(A51, N, c51, t.take N)], x, t.drop (N + 8), A62, _, t.length - (N + 8), c62, k + 1, _, p + 2 + N + 8, Lib.hid ⟨by rw [List.length_drop]; omega, by rw [List.length_drop], by omega, Hxl.out, by rw [List.length_append, g5]; rfl⟩, by omega, Lib.hid ?_, Lib.hid ?_, Lib.hid (fun W X h => h.old (by decide) hs62), ?_, rfl, rfl, by go_num, ?_⟩
        ·rw [show p + 2 + N + 8 = (p + 2) + (N + 8) by omega, ← List.drop_drop, hd2]
        ·rw [hr2.out]
         simp [recsP]
        ·intro q hq
         rcases List.mem_append.1 hq with hq | hq
         ·exact HPs q hq
         ·rw [List.mem_singleton.1 hq]; exact hs51
        ·have e1 : piecesL (ps ++ [(A51, N, c51, t.take N)]) = piecesL ps ++ [.slice A51 N c51] := by simp [piecesL, Piece.v]
         rw [e1]
         exact hst.tail
      ·obtain rfl : e = false := by rw [he, decide_eq_false hxy]
       rw [if_neg hxy] at hnx
       have hr2 := HR.out
       rw [readD_none hnx.out, List.append_nil] at hr2
       replace hr2 := Lib.hid hr2
       clear he
       go_wp2_with (first
        | fail)
       go_ret2
       obtain ⟨_, g2, _, _, g5⟩ := HG.out
       subst g5
       exact ⟨ps, O, oc, by rw [hr2.out, g2, show (n : Int) - (r : Int) = (p : Int) by omega]; rfl, by rw [hr2.out], HPs, hst.tail⟩
end Go.Proofs.YtkbleigmfcleaaaDoor

set_option maxRecDepth 20000
set_option linter.unusedSimpArgs false
set_option linter.unusedVariables false
namespace Go.Proofs.YtkbleigmfcleaaaDoor
open Go.RowKit
theorem endD_take_le (rs : List (List UInt8)) (i : Nat) : endD (rs.take i) ≤ endD rs := by
 have h := length_diaryN rs zero8
 have e : rs = rs.take i ++ rs.drop i := (List.take_append_drop i rs).symm
 rw [e, diaryN_append, List.length_append, length_diaryN, length_diaryN] at h
 rw [← e] at h
 omega
theorem endD_take_succ (rs : List (List UInt8)) (i : Nat) (h : i < rs.length) : endD (rs.take (i + 1)) = endD (rs.take i) + rs[i].length + 10 := by
 have h1 := length_diaryN (rs.take (i + 1)) zero8
 rw [List.take_succ_eq_append_getElem h, diaryN_append, List.length_append, length_diaryN] at h1
 rw [List.take_succ_eq_append_getElem h]
 rw [← h1]
 simp [diaryN, length_frameD]
 omega
theorem diaryN_take_succ (rs : List (List UInt8)) (i : Nat) (h : i < rs.length) : diaryN zero8 (rs.take (i + 1)) = diaryN zero8 (rs.take i) ++ frameD (lastN zero8 (rs.take i)) rs[i] := by
 rw [List.take_succ_eq_append_getElem h, diaryN_append]
 simp [diaryN]
theorem readD_of_diary (rs : List (List UInt8)) (h : ∀ r ∈ rs, r.length ≤ 1000) : readD zero8 (diaryN zero8 rs) = (rs, []) := by
 have := readD_diary rs zero8 [] h
 rw [List.append_nil, readD_none (last := lastN zero8 rs) (d := []) rfl] at this
 rw [this, List.append_nil]
set_option maxHeartbeats 2000000 in
set_option maxRecDepth 100000 in
theorem written_any (rs : List (List UInt8)) (A : Option Addr) (n c : Nat) (w : World) (hT : Tb w) (hx : RowsAt w A n c rs) (hb : endD rs ≤ 16777216) (hs : ∀ r ∈ rs, r.length ≤ 1000) :
  Calls Tryd.prog 29 #[.slice A n c] w fun e w' => ∃ O oc, e = .returned (.tuple #[.slice O (endD rs) oc, .bool true]) ∧ St w w' [.row O (endD rs) oc 5 1 (bytesL (diaryN zero8 rs))] := by
 have hst := St.refl w
 have HT := Lib.hid hT
 obtain ⟨hl, hnc, hcm⟩ := hx.len
 simp only [maxLen] at hcm
 obtain ⟨ps, hx1, hx2, hx3⟩ := hx.ex
 have Hl := Lib.hid hl
 have Hb := Lib.hid hb
 have Hs := Lib.hid hs
 have Hpl := Lib.hid (show ps.length = n by have := hx1.1; simp only [piecesL, List.length_map, Nat.mul_one] at this; exact this)
 have Hx := Lib.hid hx2
 have HE := Lib.hid hx3
 clear hx hl hb hs hx2 hx3 hT
 go_enter Tryd.func29, Tryd.ntmps29
 go_wp2_with (first
  | fail)
 have hst : St w w [.row none (endD (rs.take 0)) 0 5 1 (bytesL (diaryN zero8 (rs.take 0)))] := hst.nilRow 5 1
 go_loopg [4, 5] n (fun gk s4 s5 wr => ∃ (i k oc : Nat) (O : Option Addr), Hid (i + gk = n) ∧ Hid (endD (rs.take i) = k) ∧ s4 = .slice O k oc ∧ s5 = .int .i64 (i : Int) ∧ St w wr [.row O k oc 5 1 (bytesL (diaryN zero8 (rs.take i)))])
 case atStart => exact ⟨0, 0, 0, none, Lib.hid (by omega), Lib.hid rfl, rfl, rfl, hst⟩
 case round =>
  clear hst
  obtain ⟨i, k, oc, O, HI, HK, rfl, rfl, hst⟩ := hrel
  have hi := HI.out
  by_cases hin : i < n
  ·clear hi
   have hip := Lib.hid (show i < ps.length by rw [Hpl.out]; exact hin)
   have hir := Lib.hid (show i < rs.length by rw [Hl.out]; exact hin)
   have HC := Lib.hid (fun (W : World) (g off : Nat) h => piece_at (W := W) (g := g) (off := off) (i := i) (ps := ps) h hip.out)
   have HP := Hx.out (ps[i]'hip.out) (List.getElem_mem hip.out)
   have heq : (ps[i]'hip.out).2.2.2 = rs[i]'hir.out := by
    have := congrArg (fun l => l[i]?) HE.out
    simpa [recsP, hip.out, hir.out] using this
   generalize ps[i]'hip.out = p at HC HP heq
   obtain ⟨PA, pn, pc, pl⟩ := p
   dsimp only at HC HP heq
   have hpl := slr_len HP
   have hp1000 : pn ≤ 1000 := by rw [hpl, heq]; exact Hs.out _ (List.getElem_mem hir.out)
   have hk1 : k ≤ 16777216 := by rw [← HK.out]; exact Nat.le_trans (endD_take_le rs i) Hb.out
   have HRd := Lib.hid (readD_of_diary (rs.take i) (fun r h => Hs.out r (List.mem_of_mem_take h)))
   have HD := Lib.hid (diaryN_take_succ rs i hir.out)
   have HN := Lib.hid (endD_take_succ rs i hir.out)
   rw [← heq] at HD HN
   have HAd := Lib.hid (fun w (hT : Tb w) (h : SlR w O k oc 1 (bytesL (diaryN zero8 (rs.take i)))) h2 => add_any (diaryN zero8 (rs.take i)) pl O PA k oc pn pc w hT h h2 hk1 hp1000)
   rw [HRd.out] at HAd
   generalize diaryN zero8 (rs.take i) = dl at hst HD HAd
   replace hpl := Lib.hid hpl
   clear heq
   go_wp2_with (first
    | (refine L_load1 (d := some 19) rfl rfl rfl (by rfl) Tryd.underlying49 rfl (HC.out _ _ _ hr18) ?_)
    | (go_at_call 33; (try clear hnew); refine (HAd.out _ (HT.out.of hst) (hst.sl 0 rfl) (hst.old (by decide) HP)).mono ?_; rintro e Wa (⟨h0, _, _⟩ | ⟨_, O20, c20, rfl, hnew⟩); exact absurd rfl h0; replace hst := hst.trans hnew; simp only [List.cons_append, List.nil_append] at hst)
    | (refine L_idxS (d := some 18) rfl rfl rfl (by rfl) (by rfl) Tryd.underlying37 el_S_uint8 (by first | exact hst.old (by decide) hx1 | assumption | exact hst.sl 0 rfl | exact hst.old (by decide) (by assumption)) (by omega) (by omega) ?_; intro o18 p18 ha18 hr18; (first | subst ha18 | (obtain ⟨h1, h2⟩ := some_addr ha18; subst h1; subst h2; clear ha18) | skip))
    | (refine L_load1 (d := some 19) rfl rfl rfl (by rfl) Tryd.underlying49 rfl (by first | assumption | exact cell_of (hst.get 0 rfl) rfl) ?_)
    | fail)
   go_roundg (gk - 1)
   case measure => have hi := HI.out; omega
   case rel =>
    have hi := HI.out
    refine ⟨i + 1, k + pn + 10, _, _, Lib.hid (by omega), Lib.hid (by rw [HN.out, HK.out, ← hpl.out]), rfl, by go_num, ?_⟩
    rw [HD.out]
    exact hst.pick [0] (by decide)
  ·obtain rfl : i = n := by omega
   clear hi HI
   have hall : rs.take i = rs := List.take_of_length_le (by rw [Hl.out]; exact Nat.le_refl _)
   rw [hall] at hst HK
   obtain rfl := HK.out
   clear HK hall
   go_wp2_with (first
    | fail)
   go_ret2
   exact ⟨O, oc, rfl, hst⟩
set_option maxHeartbeats 2000000 in
set_option maxRecDepth 100000 in
theorem written_no (rs : List (List UInt8)) (A : Option Addr) (n c : Nat) (w : World) (hT : Tb w) (hx : RowsAt w A n c rs) (hb : endD rs ≤ 16777216) (j : Nat) (hj : j < rs.length) (hlong : 1000 < rs[j].length) (hs : ∀ r ∈ rs.take j, r.length ≤ 1000) :
  Calls Tryd.prog 29 #[.slice A n c] w fun e w' => e = .returned (.tuple #[.slice none 0 0, .bool false]) ∧ St w w' [] := by
 have hst := St.refl w
 have HT := Lib.hid hT
 obtain ⟨hl, hnc, hcm⟩ := hx.len
 simp only [maxLen] at hcm
 obtain ⟨ps, hx1, hx2, hx3⟩ := hx.ex
 have Hl := Lib.hid hl
 have Hb := Lib.hid hb
 have Hs := Lib.hid hs
 have Hlo := Lib.hid hlong
 have Hpl := Lib.hid (show ps.length = n by have := hx1.1; simp only [piecesL, List.length_map, Nat.mul_one] at this; exact this)
 have Hx := Lib.hid hx2
 have HE := Lib.hid hx3
 have hjn : j < n := by omega
 have Hj := Lib.hid hj
 clear hx hl hb hs hx2 hx3 hT hlong
 go_enter Tryd.func29, Tryd.ntmps29
 go_wp2_with (first
  | fail)
 have hst : St w w [.row none (endD (rs.take 0)) 0 5 1 (bytesL (diaryN zero8 (rs.take 0)))] := hst.nilRow 5 1
 go_loopg [4, 5] j (fun gk s4 s5 wr => ∃ (i k oc : Nat) (O : Option Addr), Hid (i + gk = j) ∧ Hid (endD (rs.take i) = k) ∧ s4 = .slice O k oc ∧ s5 = .int .i64 (i : Int) ∧ St w wr [.row O k oc 5 1 (bytesL (diaryN zero8 (rs.take i)))])
 case atStart => exact ⟨0, 0, 0, none, Lib.hid (by omega), Lib.hid rfl, rfl, rfl, hst⟩
 case round =>
  clear hst
  obtain ⟨i, k, oc, O, HI, HK, rfl, rfl, hst⟩ := hrel
  have hi := HI.out
  by_cases hij : i < j
  ·have hin : i < n := by omega
   have Hm := Lib.hid (show rs[i]'(by rw [Hl.out]; exact hin) ∈ rs.take j from List.mem_take_iff_getElem.2 ⟨i, by rw [Hl.out]; omega, rfl⟩)
   clear hi
   have hip := Lib.hid (show i < ps.length by rw [Hpl.out]; exact hin)
   have hir := Lib.hid (show i < rs.length by rw [Hl.out]; exact hin)
   have HC := Lib.hid (fun (W : World) (g off : Nat) h => piece_at (W := W) (g := g) (off := off) (i := i) (ps := ps) h hip.out)
   have HP := Hx.out (ps[i]'hip.out) (List.getElem_mem hip.out)
   have heq : (ps[i]'hip.out).2.2.2 = rs[i]'hir.out := by
    have := congrArg (fun l => l[i]?) HE.out
    simpa [recsP, hip.out, hir.out] using this
   generalize ps[i]'hip.out = p at HC HP heq
   obtain ⟨PA, pn, pc, pl⟩ := p
   dsimp only at HC HP heq
   have hpl := slr_len HP
   have hp1000 : pn ≤ 1000 := by rw [hpl, heq]; exact Hs.out _ Hm.out
   have hk1 : k ≤ 16777216 := by rw [← HK.out]; exact Nat.le_trans (endD_take_le rs i) Hb.out
   have HRd := Lib.hid (readD_of_diary (rs.take i) (fun r h => Hs.out r ((List.take_subset_take_left rs (Nat.le_of_lt hij)) h)))
   have HD := Lib.hid (diaryN_take_succ rs i hir.out)
   have HN := Lib.hid (endD_take_succ rs i hir.out)
   rw [← heq] at HD HN
   have HAd := Lib.hid (fun w (hT : Tb w) (h : SlR w O k oc 1 (bytesL (diaryN zero8 (rs.take i)))) h2 => add_any (diaryN zero8 (rs.take i)) pl O PA k oc pn pc w hT h h2 hk1 hp1000)
   rw [HRd.out] at HAd
   generalize diaryN zero8 (rs.take i) = dl at hst HD HAd
   replace hpl := Lib.hid hpl
   clear heq
   go_wp2_with (first
    | (refine L_load1 (d := some 19) rfl rfl rfl (by rfl) Tryd.underlying49 rfl (HC.out _ _ _ hr18) ?_)
    | (go_at_call 33; (try clear hnew); refine (HAd.out _ (HT.out.of hst) (hst.sl 0 rfl) (hst.old (by decide) HP)).mono ?_; rintro e Wa (⟨h0, _, _⟩ | ⟨_, O20, c20, rfl, hnew⟩); exact absurd rfl h0; replace hst := hst.trans hnew; simp only [List.cons_append, List.nil_append] at hst)
    | (refine L_idxS (d := some 18) rfl rfl rfl (by rfl) (by rfl) Tryd.underlying37 el_S_uint8 (by first | exact hst.old (by decide) hx1 | assumption | exact hst.sl 0 rfl | exact hst.old (by decide) (by assumption)) (by omega) (by omega) ?_; intro o18 p18 ha18 hr18; (first | subst ha18 | (obtain ⟨h1, h2⟩ := some_addr ha18; subst h1; subst h2; clear ha18) | skip))
    | (refine L_load1 (d := some 19) rfl rfl rfl (by rfl) Tryd.underlying49 rfl (by first | assumption | exact cell_of (hst.get 0 rfl) rfl) ?_)
    | fail)
   go_roundg (gk - 1)
   case measure => have hi := HI.out; omega
   case rel =>
    have hi := HI.out
    refine ⟨i + 1, k + pn + 10, _, _, Lib.hid (by omega), Lib.hid (by rw [HN.out, HK.out, ← hpl.out]), rfl, by go_num, ?_⟩
    rw [HD.out]
    exact hst.pick [0] (by decide)
  ·obtain rfl : i = j := by omega
   clear hi HI
   have hin : i < n := hjn
   have hip := Lib.hid (show i < ps.length by rw [Hpl.out]; exact hin)
   have HC := Lib.hid (fun (W : World) (g off : Nat) h => piece_at (W := W) (g := g) (off := off) (i := i) (ps := ps) h hip.out)
   have HP := Hx.out (ps[i]'hip.out) (List.getElem_mem hip.out)
   have heq : (ps[i]'hip.out).2.2.2 = rs[i]'Hj.out := by
    have := congrArg (fun l => l[i]?) HE.out
    simpa [recsP, hip.out, Hj.out] using this
   generalize ps[i]'hip.out = p at HC HP heq
   obtain ⟨PA, pn, pc, pl⟩ := p
   dsimp only at HC HP heq
   have hpl := slr_len HP
   have hp1000 : 1000 < pn := by rw [hpl, heq]; exact Hlo.out
   clear heq
   have HAd := Lib.hid (fun w => add_full (diaryN zero8 (rs.take i)) pl O PA k oc pn pc w hp1000)
   unfold errV at HAd
   replace hpl := Lib.hid hpl
   go_wp2_with (first
    | (refine L_load1 (d := some 19) rfl rfl rfl (by rfl) Tryd.underlying49 rfl (HC.out _ _ _ hr18) ?_)
    | (go_at_call 33; (try clear hnew); refine (HAd.out _).mono ?_; rintro e Wk1 ⟨rfl, hnew⟩; replace hst := hst.keep hnew)
    | (refine L_idxS (d := some 18) rfl rfl rfl (by rfl) (by rfl) Tryd.underlying37 el_S_uint8 (by first | exact hst.old (by decide) hx1 | assumption | exact hst.sl 0 rfl | exact hst.old (by decide) (by assumption)) (by omega) (by omega) ?_; intro o18 p18 ha18 hr18; (first | subst ha18 | (obtain ⟨h1, h2⟩ := some_addr ha18; subst h1; subst h2; clear ha18) | skip))
    | (refine L_load1 (d := some 19) rfl rfl rfl (by rfl) Tryd.underlying49 rfl (by first | assumption | exact cell_of (hst.get 0 rfl) rfl) ?_)
    | fail)
   go_ret2
   exact ⟨rfl, hst.forget⟩
theorem frame7 : frameD zero8 [7] = [0, 1, 7] ++ dmark zero8 [7] := rfl
set_option maxHeartbeats 2000000 in
set_option maxRecDepth 100000 in
theorem wrote_any (w : World) (hT : Tb w) : Calls Tryd.prog 28 #[] w fun e w' => e = .returned (.bool true) ∧ St w w' [] := by
 have hst := St.refl w
 have HT := Lib.hid hT
 clear hT
 have HRd := Lib.hid (show readD zero8 [] = ([], []) from readD_none rfl)
 have HAd := Lib.hid (fun w (hT : Tb w) (A : Option Addr) h => add_any [] [7] none A 0 0 1 1 w hT (SlR.nil_ w 1) h (by decide) (by decide))
 rw [HRd.out] at HAd
 simp only [lastN, List.nil_append] at HAd
 rw [frame7] at HAd
 have hlm := Lib.hid (length_dmark zero8 [7])
 generalize dmark zero8 [7] = mk at HAd hlm
 have HC1 := Lib.hid (show ((((bytesL ([0, 1, 7] ++ mk)).drop (Int.toNat 1 * 1)).take 1))[0]? = some (.int .u8 1) from rfl)
 have HC2 := Lib.hid (show ((((bytesL ([0, 1, 7] ++ mk)).drop (Int.toNat 2 * 1)).take 1))[0]? = some (.int .u8 7) from rfl)
 generalize bytesL ([0, 1, 7] ++ mk) = bl at HAd HC1 HC2
 go_enter Tryd.func28, Tryd.ntmps28
 go_wp2_with (first
  | (go_at_call 33; (try clear hnew); refine (HAd.out _ (HT.out.of hst) _ (hst.sl 0 rfl)).mono ?_; rintro e Wa (⟨h0, _, _⟩ | ⟨_, O20, c20, rfl, hnew⟩); exact absurd rfl h0; replace hst := hst.trans hnew; simp only [List.cons_append, List.nil_append] at hst)
  | (refine L_load1 (d := some 18) rfl rfl rfl (by rfl) Tryd.underlying5 rfl (hr17 0 _ HC1.out) ?_)
  | (refine L_load1 (d := some 24) rfl rfl rfl (by rfl) Tryd.underlying5 rfl (hr23 0 _ HC2.out) ?_)
  | (refine L_buildS (d := some 4) rfl rfl rfl [_] (bs_1 ev_const) rfl Tryd.underlying49 el_uint8 rfl (by first | (simp [Value.cells]; done) | (simp [Value.cells, Dig.size]; done)) (by decide) (by decide) ?_; (try clear hnew); intro g4 W4 hnew; replace hst := hst.trans hnew; simp only [List.cons_append, List.nil_append] at hst; simp only [List.flatMap_cons, List.flatMap_nil, List.append_nil, Value.cells, List.toList_toArray] at hst)
  | (refine L_idxS (d := some 17) rfl rfl rfl (by rfl) (by rfl) Tryd.underlying49 el_uint8 (by first | assumption | exact hst.sl 0 rfl | exact hst.old (by decide) (by assumption)) (by omega) (by omega) ?_; intro o17 p17 ha17 hr17; (first | subst ha17 | (obtain ⟨h1, h2⟩ := some_addr ha17; subst h1; subst h2; clear ha17) | skip))
  | (refine L_load1 (d := some 18) rfl rfl rfl (by rfl) Tryd.underlying5 rfl (by first | assumption | exact cell_of (hst.get 0 rfl) rfl) ?_)
  | (refine L_idxS (d := some 23) rfl rfl rfl (by rfl) (by rfl) Tryd.underlying49 el_uint8 (by first | assumption | exact hst.sl 0 rfl | exact hst.old (by decide) (by assumption)) (by omega) (by omega) ?_; intro o23 p23 ha23 hr23; (first | subst ha23 | (obtain ⟨h1, h2⟩ := some_addr ha23; subst h1; subst h2; clear ha23) | skip))
  | (refine L_load1 (d := some 24) rfl rfl rfl (by rfl) Tryd.underlying5 rfl (by first | assumption | exact cell_of (hst.get 0 rfl) rfl) ?_)
  | fail)
 go_ret
 exact ⟨rfl, hst.forget⟩
end Go.Proofs.YtkbleigmfcleaaaDoor

set_option maxRecDepth 20000
set_option linter.unusedSimpArgs false
set_option linter.unusedVariables false
namespace Go.Proofs.YtkbleigmfcleaaaDoor
open Go.RowKit
theorem lastN_take_succ (rs : List (List UInt8)) (i : Nat) (h : i < rs.length) : lastN zero8 (rs.take (i + 1)) = dmark (lastN zero8 (rs.take i)) rs[i] := by
 rw [List.take_succ_eq_append_getElem h, lastN_append]
 rfl
theorem length_lastN : ∀ (rs : List (List UInt8)) (l : List UInt8), l.length = 8 → (lastN l rs).length = 8 := by
 intro rs
 induction rs with
 | nil => intro l h; exact h
 | cons r rs ih => intro l _; exact ih _ (length_dmark _ _)
set_option maxHeartbeats 4000000 in
set_option maxRecDepth 100000 in
theorem rdiary_any (rs : List (List UInt8)) (A : Option Addr) (n c : Nat) (w : World) (hx : RowsAt w A n c rs) (hb : endD rs ≤ 16777216) (hs : ∀ r ∈ rs, r.length ≤ 1000) :
  Calls Tryd.prog 35 #[.slice A n c] w fun e w' => ∃ O oc, e = .returned (.slice O (endD rs) oc) ∧ St w w' [.row O (endD rs) oc 5 1 (bytesL (diaryN zero8 rs))] := by
 have hst := St.refl w
 obtain ⟨hl, hnc, hcm⟩ := hx.len
 simp only [maxLen] at hcm
 obtain ⟨ps, hx1, hx2, hx3⟩ := hx.ex
 have Hl := Lib.hid hl
 have Hb := Lib.hid hb
 have Hs := Lib.hid hs
 have Hpl := Lib.hid (show ps.length = n by have := hx1.1; simp only [piecesL, List.length_map, Nat.mul_one] at this; exact this)
 have Hx := Lib.hid hx2
 have HE := Lib.hid hx3
 clear hx hl hb hs hx2 hx3
 go_enter Tryd.func35, Tryd.ntmps35
 go_wp2_with (first
  | (refine L_makeS (d := some 6) (n := 8) rfl rfl rfl (by rfl) (by rfl) Tryd.underlying49 el_uint8 rfl (by omega) (by first | decide | (simp only [maxLen]; omega)) ?_; (try clear hnew); intro g6 W6 hnew; replace hst := hst.trans hnew; simp only [List.cons_append, List.nil_append] at hst)
  | fail)
 (try clear hnew)
 have hst : St w W6 [.row none (endD (rs.take 0)) 0 5 1 (bytesL (diaryN zero8 (rs.take 0))), .row g6 8 8 5 1 (bytesL (lastN zero8 (rs.take 0)))] := hst.nilRow 5 1
 go_loopg [3, 4, 5] n (fun gk s3 s4 s5 wr => ∃ (i k oc lc : Nat) (O Lp : Option Addr), Hid (i + gk = n) ∧ Hid (endD (rs.take i) = k) ∧ s3 = .slice O k oc ∧ s4 = .slice Lp 8 lc ∧ s5 = .int .i64 (i : Int) ∧ St w wr [.row O k oc 5 1 (bytesL (diaryN zero8 (rs.take i))), .row Lp 8 lc 5 1 (bytesL (lastN zero8 (rs.take i)))])
 case atStart => exact ⟨0, 0, 0, 8, none, g6, Lib.hid (by omega), Lib.hid rfl, rfl, rfl, rfl, hst⟩
 case round =>
  clear hst
  obtain ⟨i, k, oc, lc, O, Lp, HI, HK, rfl, rfl, rfl, hst⟩ := hrel
  have hi := HI.out
  by_cases hin : i < n
  ·clear hi
   have hip := Lib.hid (show i < ps.length by rw [Hpl.out]; exact hin)
   have hir := Lib.hid (show i < rs.length by rw [Hl.out]; exact hin)
   have HC := Lib.hid (fun (W : World) (g off : Nat) h => piece_at (W := W) (g := g) (off := off) (i := i) (ps := ps) h hip.out)
   have HP := Hx.out (ps[i]'hip.out) (List.getElem_mem hip.out)
   have heq : (ps[i]'hip.out).2.2.2 = rs[i]'hir.out := by
    have := congrArg (fun l => l[i]?) HE.out
    simpa [recsP, hip.out, hir.out] using this
   have HD := Lib.hid (diaryN_take_succ rs i hir.out)
   have HN := Lib.hid (endD_take_succ rs i hir.out)
   have HLs := Lib.hid (lastN_take_succ rs i hir.out)
   have hk2 : endD (rs.take (i + 1)) ≤ 16777216 := Nat.le_trans (endD_take_le rs (i + 1)) Hb.out
   have hr1000 : (rs[i]'hir.out).length ≤ 1000 := Hs.out _ (List.getElem_mem hir.out)
   rw [HN.out, HK.out] at hk2
   rw [← heq] at HD HN HLs hk2 hr1000
   generalize ps[i]'hip.out = p at HC HP heq HD HN HLs hk2 hr1000
   obtain ⟨PA, pn, pc, pl⟩ := p
   dsimp only at HC HP heq HD HN HLs hk2 hr1000
   have hpl := slr_len HP
   rw [← hpl] at hk2 hr1000
   have HMk := Lib.hid (fun w h1 h2 => rmark8_any (lastN zero8 (rs.take i)) pl Lp PA 8 lc pn pc w h1 h2 (by decide) (by omega))
   have HH := Lib.hid (show [Value.int .u8 ((pn : Int) / 256), .int .u8 ((pn : Int) % 256)] = bytesL [UInt8.ofNat (pn / 256), UInt8.ofNat pn] by
    simp only [bytesL, List.map_cons, List.map_nil, byteV, UInt8.toNat_ofNat']
    rw [show pn / 256 % 2 ^ 8 = pn / 256 by omega]
    rfl)
   have HF := Lib.hid (show diaryN zero8 (rs.take (i + 1)) = (diaryN zero8 (rs.take i) ++ [UInt8.ofNat (pn / 256), UInt8.ofNat pn]) ++ pl ++ dmark (lastN zero8 (rs.take i)) pl by
    rw [HD.out, frameD, ← hpl]; simp)
   generalize diaryN zero8 (rs.take i) = dl at hst HF
   generalize lastN zero8 (rs.take i) = la at hst HF HMk HLs
   generalize dmark la pl = mk at HF HMk HLs
   replace hpl := Lib.hid hpl
   clear heq HD
   go_upto_region 6 with (first
    | fail)
   go_upto_region 7 with (first
    | (refine L_load1 (d := some 17) rfl rfl rfl (by rfl) Tryd.underlying49 rfl (HC.out _ _ _ hr16) ?_)
    | (go_at_call 60; (try clear hnew); refine (HMk.out _ (hst.sl 1 rfl) (hst.old (by decide) HP)).mono ?_; rintro e Wk1 ⟨O18, c18, rfl, hnew⟩; replace hst := hst.trans hnew; simp only [List.cons_append, List.nil_append] at hst)
    | (refine L_idxS (d := some 16) rfl rfl rfl (by rfl) (by rfl) Tryd.underlying37 el_S_uint8 (by first | exact hst.old (by decide) hx1 | assumption | exact hst.sl 0 rfl | exact hst.sl 1 rfl | exact hst.old (by decide) (by assumption)) (by omega) (by omega) ?_; intro o16 p16 ha16 hr16; (first | subst ha16 | (obtain ⟨h1, h2⟩ := some_addr ha16; subst h1; subst h2; clear ha16) | skip))
    | (refine L_load1 (d := some 17) rfl rfl rfl (by rfl) Tryd.underlying49 rfl (by first | assumption | exact cell_of (hst.get 0 rfl) rfl | exact cell_of (hst.get 1 rfl) rfl) ?_)
    | fail)
   (try clear hnew)
   refine wp_region_idxT [(0, 0), (1, 0), (2, 0), (3, 0), (4, 0), (5, 0), (6, 0), (7, 0), (8, 0), (9, 2), (10, 2), (11, 2), (12, 2), (13, 2), (14, 2), (15, 2), (16, 1), (17, 2)] (by kernel_rfl) (by kernel_rfl) ?_
   replace hst := hst.drew
   refine idx_q rfl rfl ?_; go_wp2_with fail
   refine idx_q rfl rfl ?_; go_wp2_with fail
   refine idx_q rfl rfl ?_; go_wp2_with fail
   refine idx_q rfl rfl ?_; go_wp2_with (first | (refine L_idxS (d := some 22) rfl rfl rfl (by rfl) (by rfl) Tryd.underlying37 el_S_uint8 (by first | exact hst.old (by decide) hx1 | assumption | exact hst.sl 0 rfl | exact hst.sl 1 rfl | exact hst.sl 2 rfl | exact hst.sl 3 rfl | exact hst.old (by decide) (by assumption)) (by omega) (by omega) ?_; intro o22 p22 ha22 hr22; (first | subst ha22 | (obtain ⟨h1, h2⟩ := some_addr ha22; subst h1; subst h2; clear ha22) | skip)) | fail)
   refine idx_q rfl rfl ?_; go_wp2_with (first | (refine L_load1 (d := some 23) rfl rfl rfl (by rfl) Tryd.underlying49 rfl (HC.out _ _ _ hr22) ?_) | (refine L_load1 (d := some 23) rfl rfl rfl (by rfl) Tryd.underlying49 rfl (by first | assumption | exact cell_of (hst.get 0 rfl) rfl | exact cell_of (hst.get 1 rfl) rfl | exact cell_of (hst.get 2 rfl) rfl | exact cell_of (hst.get 3 rfl) rfl) ?_) | fail)
   refine idx_q rfl rfl ?_; go_wp2_with (first | (refine L_load1 (d := some 23) rfl rfl rfl (by rfl) Tryd.underlying49 rfl (HC.out _ _ _ hr22) ?_) | (refine L_load1 (d := some 30) rfl rfl rfl (by rfl) Tryd.underlying49 rfl (HC.out _ _ _ hr29) ?_) | fail)
   refine idx_q rfl rfl ?_; go_wp2_with fail
   refine idx_qc rfl rfl (by rfl) Tryd.underlying5 ?_; go_wp2_with fail
   refine idx_q rfl rfl ?_; go_wp2_with fail
   refine idx_g rfl ?_; go_wp2_with fail; refine ⟨by first | exact Below.refl _ _ | exact hnew.below, ?_⟩
   refine idx_g rfl ?_; go_wp2_with (first | (refine L_idxS (d := some 29) rfl rfl rfl (by rfl) (by rfl) Tryd.underlying37 el_S_uint8 (by first | exact hst.old (by decide) hx1 | assumption | exact hst.sl 0 rfl | exact hst.sl 1 rfl | exact hst.sl 2 rfl | exact hst.sl 3 rfl | exact hst.old (by decide) (by assumption)) (by omega) (by omega) ?_; intro o29 p29 ha29 hr29; (first | subst ha29 | (obtain ⟨h1, h2⟩ := some_addr ha29; subst h1; subst h2; clear ha29) | skip)) | fail); refine ⟨by first | exact Below.refl _ _ | exact hnew.below, ?_⟩
   refine idx_g rfl ?_; go_wp2_with (first | (refine L_load1 (d := some 30) rfl rfl rfl (by rfl) Tryd.underlying49 rfl (HC.out _ _ _ hr29) ?_) | (refine L_load1 (d := some 30) rfl rfl rfl (by rfl) Tryd.underlying49 rfl (by first | assumption | exact cell_of (hst.get 0 rfl) rfl | exact cell_of (hst.get 1 rfl) rfl | exact cell_of (hst.get 2 rfl) rfl | exact cell_of (hst.get 3 rfl) rfl) ?_) | fail); refine ⟨by first | exact Below.refl _ _ | exact hnew.below, ?_⟩
   refine idx_g rfl ?_; go_wp2_with (first | (refine L_load1 (d := some 23) rfl rfl rfl (by rfl) Tryd.underlying49 rfl (HC.out _ _ _ hr22) ?_) | (refine L_load1 (d := some 30) rfl rfl rfl (by rfl) Tryd.underlying49 rfl (HC.out _ _ _ hr29) ?_) | fail); refine ⟨by first | exact Below.refl _ _ | exact hnew.below, ?_⟩
   refine idx_g rfl ?_; go_wp2_with fail; refine ⟨by first | exact Below.refl _ _ | exact hnew.below, ?_⟩
   refine idx_g rfl ?_; go_wp2_with fail; refine ⟨by first | exact Below.refl _ _ | exact hnew.below, ?_⟩
   refine idx_g rfl ?_; go_wp2_with (first | (refine L_buildS (d := some 34) rfl rfl rfl [_, _] (bs_2 (ev_tmp rfl) (ev_tmp rfl)) rfl Tryd.underlying49 el_uint8 rfl (by first | (simp [Value.cells]; done) | (simp [Value.cells, Dig.size]; done)) (by decide) (by decide) ?_; (try clear hnew); intro g34 W34 hnew; replace hst := hst.trans hnew; simp only [List.cons_append, List.nil_append] at hst; simp only [List.flatMap_cons, List.flatMap_nil, List.append_nil, Value.cells, List.toList_toArray] at hst) | fail); refine ⟨by first | exact Below.refl _ _ | exact hnew.below, ?_⟩
   refine idx_e rfl ?_; go_wp2_with (first | (refine L_load1 (d := some 23) rfl rfl rfl (by rfl) Tryd.underlying49 rfl (HC.out _ _ _ hr22) ?_) | (refine L_load1 (d := some 30) rfl rfl rfl (by rfl) Tryd.underlying49 rfl (HC.out _ _ _ hr29) ?_) | (refine L_appendO (d := some 35) rfl rfl hst rfl (by rfl) (by rfl) Tryd.underlying49 el_uint8 rfl (by decide) (by decide) 0 rfl (by first | rfl | omega) (by first | exact hst.old (by decide) hx1 | exact hst.sl 0 rfl | exact hst.sl 1 rfl | exact hst.sl 2 rfl | exact hst.sl 3 rfl | assumption | exact hst.old (by decide) (by assumption)) (by first | exact oneCell_bytes | (simp [Value.oneCell']; done)) (by omega) ?_; clear hst; intro A35 c35 W35 hst; simp only [List.set_cons_zero, List.set_cons_succ, List.nil_append, Nat.zero_add] at hst) | (refine L_appendO (d := some 35) rfl rfl hst rfl (by rfl) (by rfl) Tryd.underlying49 el_uint8 rfl (by decide) (by decide) 1 rfl (by first | rfl | omega) (by first | exact hst.old (by decide) hx1 | exact hst.sl 0 rfl | exact hst.sl 1 rfl | exact hst.sl 2 rfl | exact hst.sl 3 rfl | assumption | exact hst.old (by decide) (by assumption)) (by first | exact oneCell_bytes | (simp [Value.oneCell']; done)) (by omega) ?_; clear hst; intro A35 c35 W35 hst; simp only [List.set_cons_zero, List.set_cons_succ, List.nil_append, Nat.zero_add] at hst) | (refine L_appendO (d := some 35) rfl rfl hst rfl (by rfl) (by rfl) Tryd.underlying49 el_uint8 rfl (by decide) (by decide) 2 rfl (by first | rfl | omega) (by first | exact hst.old (by decide) hx1 | exact hst.sl 0 rfl | exact hst.sl 1 rfl | exact hst.sl 2 rfl | exact hst.sl 3 rfl | assumption | exact hst.old (by decide) (by assumption)) (by first | exact oneCell_bytes | (simp [Value.oneCell']; done)) (by omega) ?_; clear hst; intro A35 c35 W35 hst; simp only [List.set_cons_zero, List.set_cons_succ, List.nil_append, Nat.zero_add] at hst) | (refine L_appendO (d := some 35) rfl rfl hst rfl (by rfl) (by rfl) Tryd.underlying49 el_uint8 rfl (by decide) (by decide) 3 rfl (by first | rfl | omega) (by first | exact hst.old (by decide) hx1 | exact hst.sl 0 rfl | exact hst.sl 1 rfl | exact hst.sl 2 rfl | exact hst.sl 3 rfl | assumption | exact hst.old (by decide) (by assumption)) (by first | exact oneCell_bytes | (simp [Value.oneCell']; done)) (by omega) ?_; clear hst; intro A35 c35 W35 hst; simp only [List.set_cons_zero, List.set_cons_succ, List.nil_append, Nat.zero_add] at hst) | (refine L_appendF (d := some 35) rfl rfl rfl (by rfl) (by rfl) Tryd.underlying49 el_uint8 rfl (by decide) (by assumption) (by first | assumption | exact hst.old (by decide) hx1 | exact hst.sl 0 rfl | exact hst.sl 1 rfl | exact hst.sl 2 rfl | exact hst.sl 3 rfl | assumption | exact hst.old (by decide) (by assumption)) (by omega) (by omega) (by omega) ?_; (try clear hnew); intro A35 c35 W35 hnew; replace hst := hst.trans hnew; simp only [List.cons_append, List.nil_append] at hst) | fail)
   refine idx_g rfl ?_; go_wp2_with fail; refine ⟨by first | exact Below.refl _ _ | exact hnew.below, ?_⟩
   refine idx_nil ?_
   clear hnew
   have hst : St w W35 [.row A35 (k + 2) c35 5 1 (bytesL (dl ++ [UInt8.ofNat (pn / 256), UInt8.ofNat pn])), .row O18 8 c18 5 1 (bytesL mk)] := by
    rw [bytesL_append, ← HH.out]
    exact hst.pick [2, 1] (by decide)
   generalize dl ++ [UInt8.ofNat (pn / 256), UInt8.ofNat pn] = dl2 at hst HF
   go_wp2_with (first
    | (refine L_load1 (d := some 40) rfl rfl rfl (by rfl) Tryd.underlying49 rfl (HC.out _ _ _ hr39) ?_)
    | (refine L_idxS (d := some 39) rfl rfl rfl (by rfl) (by rfl) Tryd.underlying37 el_S_uint8 (by first | exact hst.old (by decide) hx1 | exact hst.old (by decide) HP | assumption | exact hst.sl 0 rfl | exact hst.sl 1 rfl | exact hst.old (by decide) (by assumption)) (by omega) (by omega) ?_; intro o39 p39 ha39 hr39; (first | subst ha39 | (obtain ⟨h1, h2⟩ := some_addr ha39; subst h1; subst h2; clear ha39) | skip))
    | (refine L_load1 (d := some 40) rfl rfl rfl (by rfl) Tryd.underlying49 rfl (by first | assumption | exact cell_of (hst.get 0 rfl) rfl | exact cell_of (hst.get 1 rfl) rfl) ?_)
    | (refine L_appendO (d := some 41) rfl rfl hst rfl (by rfl) (by rfl) Tryd.underlying49 el_uint8 rfl (by decide) (by decide) 0 rfl (by first | rfl | omega) (by first | exact hst.old (by decide) hx1 | exact hst.old (by decide) HP | exact hst.sl 0 rfl | exact hst.sl 1 rfl | assumption | exact hst.old (by decide) (by assumption)) (by first | exact oneCell_bytes | (simp [Value.oneCell']; done)) (by omega) ?_; clear hst; intro A41 c41 W41 hst; simp only [List.set_cons_zero, List.set_cons_succ, List.nil_append, Nat.zero_add] at hst)
    | (refine L_appendO (d := some 41) rfl rfl hst rfl (by rfl) (by rfl) Tryd.underlying49 el_uint8 rfl (by decide) (by decide) 1 rfl (by first | rfl | omega) (by first | exact hst.old (by decide) hx1 | exact hst.old (by decide) HP | exact hst.sl 0 rfl | exact hst.sl 1 rfl | assumption | exact hst.old (by decide) (by assumption)) (by first | exact oneCell_bytes | (simp [Value.oneCell']; done)) (by omega) ?_; clear hst; intro A41 c41 W41 hst; simp only [List.set_cons_zero, List.set_cons_succ, List.nil_append, Nat.zero_add] at hst)
    | (refine L_appendF (d := some 41) rfl rfl rfl (by rfl) (by rfl) Tryd.underlying49 el_uint8 rfl (by decide) (by assumption) (by first | assumption | exact hst.old (by decide) hx1 | exact hst.old (by decide) HP | exact hst.sl 0 rfl | exact hst.sl 1 rfl | assumption | exact hst.old (by decide) (by assumption)) (by omega) (by omega) (by omega) ?_; (try clear hnew); intro A41 c41 W41 hnew; replace hst := hst.trans hnew; simp only [List.cons_append, List.nil_append] at hst)
    | (refine L_appendO (d := some 44) rfl rfl hst rfl (by rfl) (by rfl) Tryd.underlying49 el_uint8 rfl (by decide) (by decide) 0 rfl (by first | rfl | omega) (by first | exact hst.old (by decide) hx1 | exact hst.old (by decide) HP | exact hst.sl 0 rfl | exact hst.sl 1 rfl | assumption | exact hst.old (by decide) (by assumption)) (by first | exact oneCell_bytes | (simp [Value.oneCell']; done)) (by omega) ?_; clear hst; intro A44 c44 W44 hst; simp only [List.set_cons_zero, List.set_cons_succ, List.nil_append, Nat.zero_add] at hst)
    | (refine L_appendO (d := some 44) rfl rfl hst rfl (by rfl) (by rfl) Tryd.underlying49 el_uint8 rfl (by decide) (by decide) 1 rfl (by first | rfl | omega) (by first | exact hst.old (by decide) hx1 | exact hst.old (by decide) HP | exact hst.sl 0 rfl | exact hst.sl 1 rfl | assumption | exact hst.old (by decide) (by assumption)) (by first | exact oneCell_bytes | (simp [Value.oneCell']; done)) (by omega) ?_; clear hst; intro A44 c44 W44 hst; simp only [List.set_cons_zero, List.set_cons_succ, List.nil_append, Nat.zero_add] at hst)
    | (refine L_appendF (d := some 44) rfl rfl rfl (by rfl) (by rfl) Tryd.underlying49 el_uint8 rfl (by decide) (by assumption) (by first | assumption | exact hst.old (by decide) hx1 | exact hst.old (by decide) HP | exact hst.sl 0 rfl | exact hst.sl 1 rfl | assumption | exact hst.old (by decide) (by assumption)) (by omega) (by omega) (by omega) ?_; (try clear hnew); intro A44 c44 W44 hnew; replace hst := hst.trans hnew; simp only [List.cons_append, List.nil_append] at hst)
    | fail)
   go_roundg (gk - 1)
   case measure => have hi := HI.out; omega
   case rel =>
    have hi := HI.out
    refine ⟨i + 1, k + pn + 10, _, c18, _, O18, Lib.hid (by omega), Lib.hid (by rw [HN.out, HK.out, ← hpl.out]), by rw [show k + pn + 10 = k + 2 + pn + 8 by omega], rfl, by go_num, ?_⟩
    rw [HF.out, HLs.out, show k + pn + 10 = k + 2 + pn + 8 by omega, bytesL_append, bytesL_append]
    exact hst
  ·obtain rfl : i = n := by omega
   clear hi HI
   have hall : rs.take i = rs := List.take_of_length_le (by rw [Hl.out]; exact Nat.le_refl _)
   rw [hall] at hst HK
   obtain rfl := HK.out
   clear HK hall
   go_wp2_with (first
    | fail)
   go_ret
   exact ⟨O, oc, rfl, hst.pick [0] (by decide)⟩
end Go.Proofs.YtkbleigmfcleaaaDoor

set_option maxRecDepth 20000
set_option linter.unusedSimpArgs false
set_option linter.unusedVariables false
namespace Go.Proofs.YtkbleigmfcleaaaDoor
open Go.RowKit
theorem endD_ge2 : ∀ ls : List (List UInt8), 10 * ls.length ≤ endD ls := by
 intro ls
 induction ls with
 | nil => exact Nat.le_refl _
 | cons r ls ih => rw [endD_cons, List.length_cons]; omega
theorem endD_one (ls : List (List UInt8)) (r : List UInt8) : endD (ls ++ [r]) = endD ls + r.length + 10 := by
 rw [← length_diaryN (ls ++ [r]) [], diaryN_append, List.length_append, length_diaryN]
 simp [diaryN, length_frameD]
 omega
theorem rows_more2 {W : World} {ps : List Piece} {A C : Option Addr} {n c rn rc : Nat} {rec : List UInt8} {ls : List (List UInt8)} (h : SlR W A n c 1 (piecesL ps ++ [.slice C rn rc])) (hp : ∀ p ∈ ps, SlR W p.1 p.2.1 p.2.2.1 1 (bytesL p.2.2.2)) (hr : SlR W C rn rc 1 (bytesL rec)) (he : recsP ps = ls) : RowsAt W A n c (ls ++ [rec]) :=
 ⟨ps ++ [(C, rn, rc, rec)], by rw [piecesL, List.map_append]; exact h, fun p hq => by
  rcases List.mem_append.1 hq with hq | hq
  ·exact hp p hq
  ·rw [List.mem_singleton.1 hq]; exact hr, by rw [recsP, List.map_append]; exact congrArg (· ++ [rec]) he⟩
set_option maxHeartbeats 8000000 in
set_option maxRecDepth 100000 in
theorem diaryTells_any (w : World) (hT : Tb w) (hE : Eb w) (d : List UInt8) (D : Option Addr) (m dc : Nat) (hd : SlR w D m dc 1 (bytesL d)) (hm : m ≤ 1048576) (rec : List UInt8) (C : Option Addr) (rn rc : Nat) (hrec : SlR w C rn rc 1 (bytesL rec)) (hrn : rn ≤ 1048576) :
  Calls Tryd.prog 10 #[.slice D m dc, .slice C rn rc] w fun e w' => e = .returned (.bool true) ∧ St w w' [] := by
 have hst := St.refl w
 have HT := Lib.hid hT
 have HE := Lib.hid hE
 have Hdl := Lib.hid (slr_len hd)
 have Hrl := Lib.hid (slr_len hrec)
 clear hT hE
 obtain ⟨hsp, hsh, _⟩ := readD_split d.length zero8 d (Nat.le_refl _)
 have HRd := Lib.hid (fun w hT hd => read_any d D m dc w hT hd (by omega))
 have HRc := Lib.hid (fun w hd => records_any d D m dc w hd (by omega))
 have HAd := Lib.hid (fun w (h1000 : rn ≤ 1000) hT hd h2 => add_any d rec D C m dc rn rc w hT hd h2 (by omega) h1000)
 obtain ⟨ls, rest, htot⟩ : ∃ ls rest, readD zero8 d = (ls, rest) := ⟨_, _, rfl⟩
 rw [htot] at hsp hsh HRd HRc HAd
 dsimp only at hsp hsh HRd HRc HAd
 have hq : m = endD ls + rest.length := by rw [Hdl.out, hsp, List.length_append, length_diaryN]
 have hqi : (m : Int) - (rest.length : Int) = ((endD ls : Nat) : Int) := by omega
 rw [hqi] at HRd HRc
 have hge := endD_ge2 ls
 have Hsh := Lib.hid hsh
 have Hsp := Lib.hid hsp
 obtain ⟨r, hr⟩ : ∃ r, ls.length = r := ⟨_, rfl⟩
 have hr6 : r ≤ 200000 := by omega
 have Hr := Lib.hid hr
 clear htot hqi hsh hsp hge hr
 obtain ⟨q, hqe⟩ : ∃ q, endD ls = q := ⟨_, rfl⟩
 rw [hqe] at hq HRd HRc
 have Hqe := Lib.hid hqe
 have Hq := Lib.hid hq
 have hqm : q ≤ m := by omega
 clear hqe hq
 go_enter Tryd.func10, Tryd.ntmps10
 go_upto_region 1 with (first
  | fail)
 go_upto_region 2 with (first
  | (go_at_call 34; (try clear hnew); refine (HRc.out _ (hst.old (by decide) hd)).mono ?_; rintro e Wr ⟨ps1, O1, oc1, rfl, hps1, hpc1, hnew⟩; replace hst := hst.trans hnew; simp only [List.append_nil] at hst)
  | fail)
 (try clear hnew)
 have hpl1 : ps1.length = r := by rw [← Hr.out, ← hps1, recsP, List.length_map]
 have Hps1 := Lib.hid hps1
 rw [hpl1] at hst ⊢
 clear hps1
 go_upto_region 3 with (first
  | (go_at_call 30; (try clear hnew); refine (HRd.out _ (HT.out.of hst) (hst.old (by decide) hd)).mono ?_; rintro e Wr2 ⟨ps2, O2, oc2, rfl, hps2, hnew⟩; replace hst := hst.trans hnew)
  | fail)
 (try clear hnew)
 have hrow2 := RowsAt.read hst (List.mem_append_left _ (List.mem_cons_self ..)) (fun r hr => List.mem_append_left _ (List.mem_cons_of_mem _ hr))
 rw [hps2] at hrow2
 have hpl2 : ps2.length = r := by rw [← Hr.out, ← hps2, recsP, List.length_map]
 rw [hpl2] at hrow2 ⊢
 obtain ⟨LL, hLL⟩ : ∃ LL, LL = (.row O2 ps2.length oc2 49 1 (piecesL ps2) :: clonesR ps2.reverse ++ [.row O1 r oc1 49 1 (piecesL ps1)] : List Res) := ⟨_, rfl⟩
 have HW1 := Lib.hid (fun W (h : St w W LL) => (show SlR W O1 r oc1 1 (piecesL ps1) from h.slm (e := 49) (by rw [hLL]; exact List.mem_append_right _ (List.mem_singleton.2 rfl))))
 rw [← hLL] at hst
 clear hLL hps2 hpl2
 have Hpc := Lib.hid hpc1
 have hrow1 : RowsAt Wr2 O1 r oc1 ls := ⟨ps1, HW1.out _ hst, fun p hp => hst.old (by decide) (Hpc.out p hp), Hps1.out⟩
 clear hpc1
 go_upto_region 4 with (first
  | (go_at_call 31; (try clear hnew); refine (sameRows_any ls _ _ _ _ _ _ hrow2 hrow1).mono ?_; rintro e We ⟨rfl, hnew⟩; replace hst := hst.keep hnew)
  | fail)
 go_upto_region 6 with (first
  | (first | (refine L_pickF (d := some 34) rfl rfl rfl (ev_tmp rfl) (ev_tmp rfl) ?_) | (refine L_pickT (d := some 34) rfl rfl rfl (ev_tmp rfl) ev_const ?_))
  | fail)
 go_upto_region 7 with (first
  | fail)
 go_upto_region 8 with (first
  | fail)
 (try clear hnew)
 clear hrow1 hrow2 HRd HRc
 by_cases h1000 : 1000 < rn
 ·have k1 : (1000 : Int) < (rn : Int) := by omega
  clear HAd
  go_upto_region 9 with (first
   | fail)
  go_upto_region 13 with (first
   | fail)
  go_upto_region 14 with (first
   | (go_at_call 33; (try clear hnew); refine (add_full d rec D C m dc rn rc _ h1000).mono ?_; rintro e Wk1 ⟨rfl, hnew⟩; replace hst := hst.keep hnew)
   | fail)
  (try clear hnew)
  go_wp2_with (first
   | (go_at_call 14; (try clear hnew); refine (sError_any 4 _ (HE.out.of hst)).mono ?_; rintro e Wk2 ⟨rfl, hnew⟩; replace hst := hst.keep hnew)
   | (go_at_call 32; (try clear hnew); refine (sameB_any [] [] none none 0 0 0 0 _ (SlR.nil_ _ 1) (SlR.nil_ _ 1)).mono ?_; rw [show (([] : List UInt8) == []) = true from rfl]; rintro e We ⟨rfl, hnew⟩; replace hst := hst.keep hnew)
   | fail)
  go_ret
  exact ⟨rfl, hst.forget⟩
 ·have k1 : ¬ (1000 : Int) < (rn : Int) := by omega
  have hr1000 : rn ≤ 1000 := by omega
  by_cases h0 : rest = []
  ·have hqeq : q = m := by rw [Hq.out, h0]; rfl
   have k2 : ((q : Int) != (m : Int)) = false := by rw [hqeq]; simp
   have k3 : (q : Int) = (m : Int) := by omega
   have HDi := Lib.hid (fun w A c h => rdiary_any (ls ++ [rec]) A (r + 1) c w h (by rw [endD_one, Hqe.out, ← Hrl.out]; omega) (fun x hx => by
    rcases List.mem_append.1 hx with hx | hx
    ·exact Hsh.out x hx
    ·rw [List.mem_singleton.1 hx, ← Hrl.out]; exact hr1000))
   have hde : diaryN zero8 (ls ++ [rec]) = d ++ frameD (lastN zero8 ls) rec := by
    rw [diaryN_append, Hsp.out, h0]
    simp [diaryN]
   rw [hde, endD_one, Hqe.out, ← Hrl.out, hqeq] at HDi
   have HA2 := Lib.hid (fun w hT hd h2 => HAd.out w hr1000 hT hd h2)
   clear HAd hde
   generalize d ++ frameD (lastN zero8 ls) rec = z at HDi HA2
   go_upto_region 10 with (first
    | fail)
   go_upto_region 12 with (first
    | fail)
   go_upto_region 13 with (first
    | (go_at_call 35; (try clear hnew); refine (HDi.out _ _ _ (rows_more2 (hst.sl 1 rfl) (fun p hp => hst.old (by decide) (Hpc.out p hp)) (hst.old (by decide) hrec) Hps1.out)).mono ?_; rintro e Wd ⟨OD, cD, rfl, hnew⟩; replace hst := hst.trans hnew)
    | (refine L_buildS (d := some 42) rfl rfl rfl [] (bs_0 ) rfl Tryd.underlying37 el_S_uint8 rfl (by first | (simp [Value.cells]; done) | (simp [Value.cells, Dig.size]; done)) (by decide) (by decide) ?_; (try clear hnew); intro g42 W42 hnew; replace hst := hst.trans hnew; simp only [List.cons_append, List.nil_append] at hst; simp only [List.flatMap_cons, List.flatMap_nil, List.append_nil, Value.cells, List.toList_toArray] at hst)
    | (refine L_appendO (d := some 44) rfl rfl hst rfl (by rfl) (by rfl) Tryd.underlying37 el_S_uint8 rfl (by decide) (by decide) 0 rfl (by first | rfl | omega) (by first | exact HW1.out _ (hst.tailN 1) | exact hst.sl 0 rfl | exact hst.sl 1 rfl | assumption | exact hst.old (by decide) (by assumption)) (by first | exact oneCell_bytes | (simp [Value.oneCell']; done) | exact piecesL_ones _) (by omega) ?_; clear hst; intro A44 c44 W44 hst; simp only [List.set_cons_zero, List.set_cons_succ, List.nil_append, Nat.zero_add] at hst)
    | (refine L_appendO (d := some 44) rfl rfl hst rfl (by rfl) (by rfl) Tryd.underlying37 el_S_uint8 rfl (by decide) (by decide) 1 rfl (by first | rfl | omega) (by first | exact HW1.out _ (hst.tailN 1) | exact hst.sl 0 rfl | exact hst.sl 1 rfl | assumption | exact hst.old (by decide) (by assumption)) (by first | exact oneCell_bytes | (simp [Value.oneCell']; done) | exact piecesL_ones _) (by omega) ?_; clear hst; intro A44 c44 W44 hst; simp only [List.set_cons_zero, List.set_cons_succ, List.nil_append, Nat.zero_add] at hst)
    | (refine L_appendF (d := some 44) rfl rfl rfl (by rfl) (by rfl) Tryd.underlying37 el_S_uint8 rfl (by decide) (by assumption) (by first | assumption | exact HW1.out _ (hst.tailN 1) | exact hst.sl 0 rfl | exact hst.sl 1 rfl | assumption | exact hst.old (by decide) (by assumption)) (by omega) (by omega) (by omega) ?_; (try clear hnew); intro A44 c44 W44 hnew; replace hst := hst.trans hnew; simp only [List.cons_append, List.nil_append] at hst)
    | (refine L_buildS (d := some 46) rfl rfl rfl [_] (bs_1 (ev_tmp rfl)) rfl Tryd.underlying37 el_S_uint8 rfl (by first | (simp [Value.cells]; done) | (simp [Value.cells, Dig.size]; done)) (by decide) (by decide) ?_; (try clear hnew); intro g46 W46 hnew; replace hst := hst.trans hnew; simp only [List.cons_append, List.nil_append] at hst; simp only [List.flatMap_cons, List.flatMap_nil, List.append_nil, Value.cells, List.toList_toArray] at hst)
    | (refine L_appendO (d := some 47) rfl rfl hst rfl (by rfl) (by rfl) Tryd.underlying37 el_S_uint8 rfl (by decide) (by decide) 0 rfl (by first | rfl | omega) (by first | exact HW1.out _ (hst.tailN 1) | exact hst.sl 0 rfl | exact hst.sl 1 rfl | assumption | exact hst.old (by decide) (by assumption)) (by first | exact oneCell_bytes | (simp [Value.oneCell']; done) | exact piecesL_ones _) (by omega) ?_; clear hst; intro A47 c47 W47 hst; simp only [List.set_cons_zero, List.set_cons_succ, List.nil_append, Nat.zero_add] at hst)
    | (refine L_appendO (d := some 47) rfl rfl hst rfl (by rfl) (by rfl) Tryd.underlying37 el_S_uint8 rfl (by decide) (by decide) 1 rfl (by first | rfl | omega) (by first | exact HW1.out _ (hst.tailN 1) | exact hst.sl 0 rfl | exact hst.sl 1 rfl | assumption | exact hst.old (by decide) (by assumption)) (by first | exact oneCell_bytes | (simp [Value.oneCell']; done) | exact piecesL_ones _) (by omega) ?_; clear hst; intro A47 c47 W47 hst; simp only [List.set_cons_zero, List.set_cons_succ, List.nil_append, Nat.zero_add] at hst)
    | (refine L_appendF (d := some 47) rfl rfl rfl (by rfl) (by rfl) Tryd.underlying37 el_S_uint8 rfl (by decide) (by assumption) (by first | assumption | exact HW1.out _ (hst.tailN 1) | exact hst.sl 0 rfl | exact hst.sl 1 rfl | assumption | exact hst.old (by decide) (by assumption)) (by omega) (by omega) (by omega) ?_; (try clear hnew); intro A47 c47 W47 hnew; replace hst := hst.trans hnew; simp only [List.cons_append, List.nil_append] at hst)
    | fail)
   (try clear hnew)
   go_upto_region 14 with (first
    | (go_at_call 33; (try clear hnew); refine (HA2.out _ (HT.out.of hst) (hst.old (by decide) hd) (hst.old (by decide) hrec)).mono ?_; rintro e Wa (⟨hz, _, _⟩ | ⟨_, OX, cX, rfl, hnew⟩); exact absurd h0 hz; replace hst := hst.trans hnew)
    | fail)
   (try clear hnew)
   go_upto_region 15 with (first
    | (go_at_call 14; (try clear hnew); refine (sError_nil _).mono ?_; rintro e Wk3 ⟨rfl, hnew⟩; replace hst := hst.keep hnew)
    | fail)
   go_upto_region 16 with (first
    | (go_at_call 32; (try clear hnew); refine (sameB_any z z _ _ _ _ _ _ _ (hst.sl 0 rfl) (hst.sl 1 rfl)).mono ?_; rw [show (z == z) = true by simp]; rintro e We ⟨rfl, hnew⟩; replace hst := hst.keep hnew)
    | fail)
   go_wp2_with (first
    | (first | (refine L_pickF (d := some 64) rfl rfl rfl (ev_tmp rfl) ev_const ?_) | (refine L_pickT (d := some 64) rfl rfl rfl (ev_tmp rfl) (ev_tmp rfl) ?_))
    | fail)
   go_ret
   exact ⟨rfl, hst.forget⟩
  ·have hqne : q ≠ m := by
    intro h
    have := Hq.out
    exact h0 (List.eq_nil_of_length_eq_zero (by omega))
   have k2 : ((q : Int) != (m : Int)) = true := by rw [bne_iff_ne]; omega
   have k3 : ¬ (q : Int) = (m : Int) := by omega
   have HA2 := Lib.hid (fun w hT hd h2 => HAd.out w hr1000 hT hd h2)
   have H0 := Lib.hid h0
   clear HAd h0
   go_upto_region 10 with (first
    | fail)
   go_upto_region 11 with (first
    | fail)
   go_upto_region 13 with (first
    | fail)
   go_upto_region 14 with (first
    | (go_at_call 33; (try clear hnew); refine (HA2.out _ (HT.out.of hst) (hst.old (by decide) hd) (hst.old (by decide) hrec)).mono ?_; rintro e Wa (⟨_, rfl, hnew⟩ | ⟨hz, _⟩); replace hst := hst.keep hnew; rotate_left; exact absurd hz H0.out)
    | fail)
   (try clear hnew)
   go_wp2_with (first
    | (go_at_call 14; (try clear hnew); refine (sError_any 1 _ (HE.out.of hst)).mono ?_; rintro e Wk4 ⟨rfl, hnew⟩; replace hst := hst.keep hnew)
    | (go_at_call 32; (try clear hnew); refine (sameB_any [] [] none none 0 0 0 0 _ (SlR.nil_ _ 1) (SlR.nil_ _ 1)).mono ?_; rw [show (([] : List UInt8) == []) = true from rfl]; rintro e We ⟨rfl, hnew⟩; replace hst := hst.keep hnew)
    | fail)
   go_ret
   exact ⟨rfl, hst.forget⟩
end Go.Proofs.YtkbleigmfcleaaaDoor

set_option maxRecDepth 20000
set_option linter.unusedSimpArgs false
set_option linter.unusedVariables false
namespace Go.Proofs.YtkbleigmfcleaaaDoor
open Go.ChangeShapes Go.WideShapes Go.RowKit
def ebCell : Value := .iface 155 (.agg #[.pointer (some ⟨2, 26, none⟩)])
theorem etG : Tryd.prog.globalNamed "errors.errorType" = some 0 := by kernel_rfl
theorem rtT : (Tryd.prog.cutTypes.find? (·.1 == "internal/reflectlite.rtype")).map (·.2) = some 155 := by kernel_rfl
theorem oneRow : ((List.range 203).filter fun t => Tryd.prog.rowNamed t [101, 114, 114, 111, 114]) = [26] := by kernel_rfl
theorem nTypes : Tryd.prog.types.size = 203 := by kernel_rfl
theorem eb_of {W : World} (h : handlesMet Tryd.prog [("errors.errorType", Rows.laid_errors_errorType)] W) : Eb W := by
 obtain ⟨name, u, ty, e1, e2, e3, e4, e5⟩ := h _ (List.mem_singleton.2 rfl)
 have en : name = [101, 114, 114, 111, 114] := (Option.some.inj e1).symm
 subst en
 obtain rfl := Option.some.inj (rtT.symm.trans e2)
 have hm : ty ∈ (List.range 203).filter fun t => Tryd.prog.rowNamed t [101, 114, 114, 111, 114] := List.mem_filter.2 ⟨List.mem_range.2 (by rw [← nTypes]; exact e3), e4⟩
 rw [oneRow] at hm
 obtain rfl := List.mem_singleton.1 hm
 have hh : typeHandle Tryd.prog 26 = .pointer (some ⟨2, 26, none⟩) := by kernel_rfl
 rw [hh] at e5
 simpa [Eb] using World.var?_cell etG e5 0
end Go.Proofs.YtkbleigmfcleaaaDoor

set_option maxRecDepth 20000
set_option linter.unusedSimpArgs false
set_option linter.unusedVariables false
namespace Go.Proofs.YtkbleigmfcleaaaDoor
open Go.RowKit
theorem rows_of {W : World} {A : Option Addr} {n c : Nat} {f : Nat → Piece} (hs : SlR W A n c 1 ((List.range n).map fun i => (f i).v)) (hp : ∀ i, i < n → SlR W (f i).1 (f i).2.1 (f i).2.2.1 1 (bytesL (f i).2.2.2)) :
  RowsAt W A n c ((List.range n).map fun i => (f i).2.2.2) :=
 ⟨(List.range n).map f, by rw [piecesL, List.map_map]; exact hs, fun p hq => by
  obtain ⟨i, hi, rfl⟩ := List.mem_map.1 hq
  exact hp i (List.mem_range.1 hi), by rw [recsP, List.map_map]; rfl⟩
theorem bulkS_app {H : Type} : ∀ a b : List (DataW H), Rows.uptoBulkAll (a ++ b) = Rows.uptoBulkAll a + Rows.uptoBulkAll b
 | [], b => by simp [Rows.uptoBulkAll]
 | d :: r, b => by simp only [List.cons_append, Rows.uptoBulkAll, bulkS_app r b]; omega
theorem endD_app (a b : List (List UInt8)) : endD (a ++ b) = endD a + endD b := by
 rw [← length_diaryN (a ++ b) [], diaryN_append, List.length_append, length_diaryN, length_diaryN]
theorem bulk_rows {H : Type} {W : World} {n : Nat} {f : Nat → Piece} {d : DataW H} (hp : ∀ i, i < n → SlR W (f i).1 (f i).2.1 (f i).2.2.1 1 (bytesL (f i).2.2.2))
  (hd : (d = .nil ∧ n = 0) ∨ ∃ (D : Nat → DataW H) (sp : List (DataW H)), d = .slice ((List.range n).map D) sp ∧ ∀ i, i < n → (D i = .nil ∧ (f i).2.1 = 0) ∨ ∃ el sp, D i = .slice el sp ∧ el.length = (f i).2.1)
  (hk : Rows.uptoBulk d ≤ 1048576) : endD ((List.range n).map fun i => (f i).2.2.2) ≤ 16777216 := by
 rcases hd with ⟨_, rfl⟩ | ⟨D, sp, rfl, hD⟩
 ·exact Nat.zero_le _
 ·have key : ∀ m, m ≤ n → endD ((List.range m).map fun i => (f i).2.2.2) ≤ 11 * Rows.uptoBulkAll ((List.range m).map D) := by
   intro m
   induction m with
   | zero => intro _; exact Nat.zero_le _
   | succ m ih =>
    intro hm
    have h1 := ih (by omega)
    have h2 := (hp m (by omega)).1
    rw [length_bytesL, Nat.mul_one] at h2
    have h3 : (f m).2.1 + 10 ≤ 11 * Rows.uptoBulk (D m) := by
     have h4 := bulkS_pos (D m)
     rcases hD m (by omega) with ⟨_, h0⟩ | ⟨el, s, he, hl⟩
     ·omega
     ·rw [he, ← hl]
      have := bulkS_len el
      simp only [Rows.uptoBulk]
      omega
    rw [List.range_succ, List.map_append, List.map_append, endD_app, bulkS_app]
    simp only [List.map_cons, List.map_nil, Rows.uptoBulkAll, endD_cons]
    have : endD [] = 0 := rfl
    omega
  have h2 := key n (Nat.le_refl _)
  simp only [Rows.uptoBulk] at hk
  omega
end Go.Proofs.YtkbleigmfcleaaaDoor

namespace Go.Proofs.YtkbleigmfcleaaaDoor.diaryTells
open Go.ChangeShapes Go.WideShapes Go.ChangeAt Go.RowKit
theorem own : ownKnob Tryd.prog.godebug = none := by kernel_rfl
theorem laidOut : laidOutB Tryd.prog = true := by kernel_rfl
theorem cellsD : Tryd.prog.cellsOf 23 = 32 := by kernel_rfl
theorem cells8 : Tryd.prog.cellsOf 5 = 1 := by kernel_rfl
set_option maxRecDepth 100000 in
theorem contract (H : Type) (enc : TypeId × Value → H) (W : World) (base : Nat) (args : Array Value) (ds gs : List (DataW H)) (before : List MemPlace)
  (hval : ∀ (j : Nat) t v, Tryd.f10.params[j]? = some t → args[j]? = some v → Value.okWide Tryd.prog W .any base t v)
  (hW : DataW.Whole enc Tryd.prog Tryd.f10.params.toList Rows.diaryTellsSpec.vars false W args.toList ds gs before) (hT : Tb W) (hE : Eb W)
  (hz : (DataW.weightsEach Tryd.prog (Tryd.f10.params.toList ++ (OpenSpec.ofChange Rows.diaryTellsSpec).bare.plain.varTypes Tryd.prog) (ds ++ gs)).all (· ≤ reachBytes) = true) (hk : Rows.uptoSmall H (ds ++ gs) = true) :
  Calls Tryd.prog 10 args W fun e W' => ∃ v, e = .returned v ∧ Rows.diaryTellsSpec.post enc Tryd.prog Tryd.f10 false true false false W args v W' := by
 have hW' := hW
 obtain ⟨p, q, hA0, hV, rfl, hfz, hnd⟩ := hW
 have hA : DataW.TrodAll enc Tryd.prog W 0 (fun _ => true) true Tryd.f10.params.toList args.toList ds p := hA0
 rw [Tryd.params10] at hA hval hz
 obtain ⟨v0, vs0, d0, ds0, p0, q0, hargs, rfl, rfl, h0, r0⟩ := trodAll_cons hA
 obtain ⟨v1, vs1, d1, ds1, p1, q1, rfl, rfl, rfl, h1, r1⟩ := trodAll_cons r0
 obtain ⟨rfl, rfl, rfl⟩ := trodAll_nil r1
 obtain rfl : args = #[v0, v1] := by cases args; simp_all
 obtain ⟨rfl, rfl⟩ := trodVars_none hV
 obtain ⟨A0, n0, c0, a0, rfl, hs0, hd0⟩ := open_bytesS Tryd.underlying49 Tryd.underlying5 cells8 (hval 0 _ v0 rfl rfl) h0
 obtain ⟨A1, n1, c1, a1, rfl, hs1, hd1⟩ := open_bytesS Tryd.underlying49 Tryd.underlying5 cells8 (hval 1 _ v1 rfl rfl) h1
 have lt0 : ∀ x ∈ p0, x.block < W.heap.size := by obtain ⟨m, hm⟩ := h0; exact DataW.trod_lt m _ _ _ hm
 have lt1 : ∀ x ∈ p1, x.block < W.heap.size := by obtain ⟨m, hm⟩ := h1; exact DataW.trod_lt m _ _ _ hm
 clear hA0
 refine (diaryTells_any W hT hE a0 A0 n0 c0 hs0 (Nat.le_trans (bulkS_slice hd0) (bulkS_all hk _ (by simp))) a1 A1 n1 c1 hs1 (Nat.le_trans (bulkS_slice hd1) (bulkS_all hk _ (by simp)))).mono fun e W' ⟨he, hst⟩ => ?_
 have bel := hst.below
 subst he
 exact ⟨_, rfl, _, _, _, [], _, [], hW', trodAll_mk1 (shut_bool Tryd.underlying4 _),
  (trodAll_cons_mk (Below.trod laidOut (by kernel_rfl) (of_decide_eq_true (by kernel_rfl)) h0 bel lt0) (trodAll_cons_mk (Below.trod laidOut (by kernel_rfl) (of_decide_eq_true (by kernel_rfl)) h1 bel lt1) trodAll_mk0)), rfl, bel.frame _, fun h => by cases h⟩
noncomputable def laidWorld0 (os : Os) : World :=
 { World.holding Tryd.prog os ⟨#[], #[], []⟩ with heap := (World.holding Tryd.prog os ⟨#[], #[], []⟩).heap.modify 1 fun
   | .cells _ t frozen => .cells tblArr t frozen
   | o => o }
noncomputable def laidWorld (os : Os) : World :=
 { laidWorld0 os with heap := (laidWorld0 os).heap.modify 0 fun
   | .cells _ t frozen => .cells #[ebCell] t frozen
   | o => o }
theorem laid_met (os : Os) : laidMetH Tryd.prog Rows.diaryTellsUptoRow.laid ((laidWorld os).forCall (fun _ _ => 0) ⟨#[], #[.slice none 0 0, .slice none 0 0], []⟩).memory :=
 laidMetH_of_parts (laidMet_of_run' 8 (by kernel_rfl) (by kernel_rfl)) (by kernel_rfl)
theorem reads (os : Os) {H : Type} (enc : TypeId × Value → H) : ∃ places, DataW.whole enc Tryd.prog ((laidWorld os).forCall (fun _ _ => 0) ⟨#[], #[.slice none 0 0, .slice none 0 0], []⟩).memory Tryd.f10.params.toList Rows.diaryTellsSpec.vars false (#[.slice none 0 0, .slice none 0 0] : Array Value).toList 8 = some ([.nil, .nil], [], places) :=
 ⟨[], by kernel_rfl⟩
set_option maxRecDepth 100000 in
theorem lifted (os : Os) (started : os.Started) (H : Type) (enc : TypeId × Value → H) (F : Stop.Interp) :
  ReturnsInHanded {} Tryd.checked os 10 .any ((Rows.OpenSpec.upto Rows.diaryTellsSpec).preRow enc Tryd.prog Tryd.f10 Rows.diaryTellsUptoRow.domain false Rows.diaryTellsUptoRow.laid) (((Rows.OpenSpec.upto Rows.diaryTellsSpec).at F).post enc Tryd.prog Tryd.f10 false true false false) := by
 obtain ⟨places, hx⟩ := reads os enc
 refine returnsInHanded_of_row (C := Tryd.checked) (s := (Rows.OpenSpec.upto Rows.diaryTellsSpec)) own started (by kernel_rfl) Tryd.func10
  (witness_row_at (enc := enc) (C := Tryd.checked) false (laidWorld os) #[.slice none 0 0, .slice none 0 0] rfl (by kernel_rfl) (by kernel_rfl) (by kernel_rfl)
   (OpenSpec.preRow_of_cond 8 hx (by kernel_rfl) (fun k hk => by cases hk; kernel_rfl) (by kernel_rfl) (laid_met os))) ?_
 intro W base args ds gs before hval hW _ hcond hz hL _ _
 exact contract H enc W base args ds gs before hval hW (tb_of (show laidMet Tryd.prog [("oathbook/sha.rounds", Rows.laid_oathbook_sha_rounds)] W ∧ handlesMet Tryd.prog [("errors.errorType", Rows.laid_errors_errorType)] W from hL).1) (eb_of (show laidMet Tryd.prog [("oathbook/sha.rounds", Rows.laid_oathbook_sha_rounds)] W ∧ handlesMet Tryd.prog [("errors.errorType", Rows.laid_errors_errorType)] W from hL).2) hz (hcond _ rfl)
theorem said : Rows.DiaryTellsUptoSaid :=
 OpenClaim.holds_of_cond 10 Tryd.f10 rfl rfl rfl rfl rfl rfl rfl ⟨rfl, rfl, rfl, rfl, rfl⟩ rfl rfl rfl rfl rfl (by kernel_rfl) Tryd.func10 (by kernel_rfl)
  (of_decide_eq_true (by kernel_rfl)) (by unfold Func.isWrapper; first | (rw [if_pos (by decide +kernel)]; kernel_rfl) | (rw [if_neg (by decide +kernel)]; exact ⟨rfl, rfl⟩))
  (fun os started H enc _ F => by rw [OpenClaim.pre_eq_preRow]; exact lifted os started H enc F)
theorem plain (f : FuncId) (fn : Func) (hf : Tryd.pinned.checked.prog.funcNamed "oathbook/oathbooklaw3.DiaryTells" = some f) (hfn : Tryd.pinned.checked.prog.funcs[f]? = some fn) :
  true = Tryd.pinned.checked.prog.looks [] ∧ ∀ (j : Nat) t, fn.params[j]? = some t → Tryd.pinned.checked.prog.wantsStandIn t = false := by
 obtain rfl : f = 10 := Option.some.inj ((show Tryd.prog.funcNamed "oathbook/oathbooklaw3.DiaryTells" = some 10 by kernel_rfl).symm.trans hf) |>.symm
 obtain rfl : fn = Tryd.f10 := (Option.some.inj (Tryd.func10.symm.trans hfn)).symm
 refine ⟨by kernel_rfl, fun j t ht => ?_⟩
 rw [Tryd.params10] at ht
 have hm := Array.mem_of_getElem? ht
 have ha : ∀ t ∈ #[49, 49], Tryd.prog.wantsStandIn t = false := by
  intro t ht
  simp only [List.mem_toArray, List.mem_cons, List.not_mem_nil, or_false] at ht
  rcases ht with rfl | rfl <;> kernel_rfl
 exact ha t hm
theorem proved : Rows.DiaryTellsUptoCardSaid :=
 Claim7.holds_tied_plain_at .later [] _ _ _ _ said (fun _ h => by cases h) (by kernel_rfl) (fun _ h => by cases h) diaryTellsUpto_row_tie rfl ⟨rfl, rfl⟩ (by kernel_rfl) rfl plain (by kernel_rfl)
#print axioms proved
end Go.Proofs.YtkbleigmfcleaaaDoor.diaryTells
