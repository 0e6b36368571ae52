/-
  Proved here: the contracts of a diary's cutter: begun, next. Condition: lengths that slices may have.
-/
import Derived.Test.YtkbleigmfcleaaaDoorDMark
import Derived.Test.YtkbleigmfcleaaaDoorRefWord
import Derived.Test.YtkbleigmfcleaaaDoorLawC
import Derived.Test.YtkbleigmfcleaaaDoorLawF
import Derived.Test.YtkbleigmfcleaaaDoorForkP
import Derived.Test.YtkbleigmfcleaaaDoorEl
set_option maxRecDepth 20000
set_option linter.unusedSimpArgs false
set_option linter.unusedVariables false
namespace Go.Proofs.YtkbleigmfcleaaaDoor
open Go.RowKit

/-- a cutter's cells -/
def cuArr (R : Option Addr) (r rc : Nat) (L : Option Addr) (lc : Nat) : Array Value := #[.slice R r rc, .slice L 8 lc]
theorem cuArr_0 {R : Option Addr} {r rc : Nat} {L : Option Addr} {lc : Nat} : (cuArr R r rc L lc)[0]? = some (.slice R r rc) := rfl
theorem cuArr_1 {R : Option Addr} {r rc : Nat} {L : Option Addr} {lc : Nat} : (cuArr R r rc L lc)[1]? = some (.slice L 8 lc) := rfl
theorem cuArr_s0 (R R' : Option Addr) (r rc r' rc' : Nat) (L : Option Addr) (lc : Nat) : (cuArr R r rc L lc).setIfInBounds 0 (.slice R' r' rc') = cuArr R' r' rc' L lc := rfl
theorem cuArr_s1 (R : Option Addr) (r rc : Nat) (L L' : Option Addr) (lc lc' : Nat) : (cuArr R r rc L lc).setIfInBounds 1 (.slice L' 8 lc') = cuArr R r rc L' lc' := rfl
def zero8 : List UInt8 := [0, 0, 0, 0, 0, 0, 0, 0]

theorem el_diary_cutter : ElemIs Tryd.prog 99 (.agg #[.slice none 0 0, .slice none 0 0]) 2 48 := by unfold ElemIs; kernel_rfl

set_option maxHeartbeats 1000000 in
theorem begun_any (R : Option Addr) (r rc : Nat) (w : World) :
    Calls Tryd.prog 56 #[.slice R r rc] w fun e w' => ∃ (g : Nat) (Z : Option Addr), e = .returned (.pointer (some ⟨g, 0, none⟩)) ∧ St w w' [.blk g 99 (cuArr R r rc Z 8), .row Z 8 8 5 1 (bytesL zero8)] := by
  have hst := St.refl w
  go_enter Tryd.func56, Tryd.ntmps56
  go_wp2_with (first
    | (refine L_makeS (d := some 4) (n := 8) rfl rfl rfl (by rfl) (by rfl) Tryd.underlying49 el_uint8 rfl (by omega) (by first | decide | (simp only [maxLen]; omega)) ?_; (try clear hnew); intro g4 W4 hnew; replace hst := hst.trans hnew; simp only [List.cons_append, List.nil_append] at hst)
    | (refine L_boxA (d := some 6) rfl rfl rfl (ev_tmp rfl) ?_; (try clear hnew); intro g6 W6 hnew; replace hst := hst.trans hnew; simp only [List.cons_append, List.nil_append] at hst)
    | fail)
  go_ret
  exact ⟨_, _, rfl, hst⟩

theorem len_cons2 (a b : UInt8) (t : List UInt8) : (a :: b :: t).length = t.length + 2 := rfl
theorem or_bytes (a b : UInt8) : bits .or .i64 ((a.toNat : Int) * 256) (b.toNat : Int) = (a.toNat : Int) * 256 + (b.toNat : Int) := by
  have hx := UInt8.toNat_lt b
  have hy := UInt8.toNat_lt a
  have h1 := i64_or_nat (a.toNat * 256) b.toNat (by omega) (by omega)
  have h2 : a.toNat * 256 ||| b.toNat = a.toNat * 256 + b.toNat := by
    have := Nat.shiftLeft_add_eq_or_of_lt (i := 8) (b := b.toNat) (by omega) a.toNat
    rw [Nat.shiftLeft_eq] at this
    exact this.symm
  rw [h2] at h1
  have e : ((a.toNat * 256 : Nat) : Int) = (a.toNat : Int) * 256 := by omega
  rw [← e, h1]
  omega

set_option maxHeartbeats 4000000 in
set_option maxRecDepth 100000 in
/-- there is none -/
theorem next_none (last d : List UInt8) (g : Nat) (R Lp : Option Addr) (r rc lc : Nat) (w0 w : World) (L : List Res) (hT : Tb w0) (hd : SlR w0 R r rc 1 (bytesL d)) (hl : ∀ W, St w0 W (.blk g 99 (cuArr R r rc Lp lc) :: L) → SlR W Lp 8 lc 1 (bytesL last)) (hll : last.length = 8) (hst : St w0 w (.blk g 99 (cuArr R r rc Lp lc) :: L)) (hn : nextD last d = none) :
    Calls Tryd.prog 57 #[.pointer (some ⟨g, 0, none⟩)] w fun e w' => e = .returned (.tuple #[.slice none 0 0, .bool false]) ∧ St w0 w' (.blk g 99 (cuArr R r rc Lp lc) :: L) := by
  have HT := Lib.hid hT
  have hdl := hd.1
  have hrc := hd.2.1
  have hrm := hd.2.2.1
  simp only [maxLen] at hrm
  rw [length_bytesL, Nat.mul_one] at hdl
  clear hT
  by_cases h2 : r < 2
  · have t1 : (r : Int) < 2 := by omega
    clear hn hdl
    go_enter Tryd.func57, Tryd.ntmps57
    go_wp2_with (first
      | (refine L_load1 (d := some 10) rfl rfl rfl (by rfl) Tryd.underlying49 rfl (by first | assumption | exact cell_of (hst.get 0 rfl) cuArr_0 | exact cell_of (hst.get 0 rfl) rfl) ?_)
      | fail)
    go_ret2
    exact ⟨rfl, hst⟩
  · obtain ⟨a, b, t, rfl⟩ : ∃ a b t, d = a :: b :: t := by
      match d, hdl with
      | [], h => simp at h; omega
      | [_], h => simp at h; omega
      | a :: b :: t, _ => exact ⟨a, b, t, rfl⟩
    have t1 : ¬ (r : Int) < 2 := by omega
    have htl : t.length + 2 = r := by simpa using hdl
    have ha : a.toNat ≤ 255 := by have := UInt8.toNat_lt a; omega
    have hb : b.toNat ≤ 255 := by have := UInt8.toNat_lt b; omega
    obtain ⟨N, hN⟩ : ∃ N : Nat, N = a.toNat * 256 + b.toNat := ⟨_, rfl⟩
    have hor : bits .or .i64 ((a.toNat : Int) * 256) (b.toNat : Int) = (N : Int) := by rw [or_bytes a b, hN]; omega
    have HC0 := Lib.hid (show (((bytesL (a :: b :: t)).drop (Int.toNat 0 * 1)).take 1)[0]? = some (.int .u8 (a.toNat : Int)) from rfl)
    have HC1 := Lib.hid (show (((bytesL (a :: b :: t)).drop (Int.toNat 1 * 1)).take 1)[0]? = some (.int .u8 (b.toNat : Int)) from rfl)
    have HL1 := Lib.hid (show ((bytesL (a :: b :: t)).drop (2 * 1)).take ((2 + N - 2) * 1) = bytesL (t.take N) by
      rw [show (2 + N - 2) * 1 = N by omega]; simp [bytesL, List.map_take])
    have HL2 := Lib.hid (show ((bytesL (a :: b :: t)).drop ((2 + N) * 1)).take ((2 + N + 8 - (2 + N)) * 1) = bytesL ((t.drop N).take 8) by
      rw [show (2 + N + 8 - (2 + N)) * 1 = 8 by omega, show (2 + N) * 1 = N + 1 + 1 by omega]; simp [bytesL, List.map_take, List.map_drop])
    simp only [nextD, ← hN] at hn
    have hN2 : N ≤ 65535 := by omega
    clear hN
    generalize hbl : bytesL (a :: b :: t) = bl at hd HC0 HC1 HL1 HL2
    clear hbl hdl
    go_enter Tryd.func57, Tryd.ntmps57
    go_wp2_with (first
      | (refine L_load1 (d := some 10) rfl rfl rfl (by rfl) Tryd.underlying49 rfl (by first | assumption | exact cell_of (hst.get 0 rfl) cuArr_0 | exact cell_of (hst.get 0 rfl) rfl) ?_)
      | fail)
    refine wp_region_idx [(0, 0), (1, 0), (2, 0), (3, 0), (4, 0), (5, 0), (6, 0), (7, 0), (8, 2), (9, 2), (10, 2), (11, 2), (12, 2), (13, 2), (14, 2), (15, 2), (16, 2)] (by kernel_rfl) (by kernel_rfl) ?_
    replace hst := hst.drew
    refine idx_q rfl rfl ?_; go_wp2_with fail
    refine idx_q rfl rfl ?_; go_wp2_with fail
    refine idx_qf rfl rfl (by kernel_rfl) ?_; go_wp2_with fail
    refine idx_q rfl rfl ?_; go_wp2_with (first | (refine L_load1 (d := some 16) rfl rfl rfl (by rfl) Tryd.underlying49 rfl (by first | assumption | exact cell_of (hst.get 0 rfl) cuArr_0 | exact cell_of (hst.get 0 rfl) rfl) ?_) | fail)
    refine idx_q rfl rfl ?_; go_wp2_with (first | (refine L_idxS (d := some 17) rfl rfl rfl (by rfl) (by rfl) Tryd.underlying49 el_uint8 (by first | exact hst.old (by decide) hd | assumption | exact hst.sl 0 rfl | exact hst.old (by decide) (by assumption)) (by omega) (by omega) ?_; intro o17 p17 ha17 hr17; (first | subst ha17 | (obtain ⟨h1, h2⟩ := some_addr ha17; subst h1; subst h2; clear ha17) | skip)) | fail)
    refine idx_q rfl rfl ?_; go_wp2_with (first | (refine L_load1 (d := some 18) rfl rfl rfl (by rfl) Tryd.underlying5 rfl (hr17 0 _ HC0.out) ?_) | (refine L_load1 (d := some 18) rfl rfl rfl (by rfl) Tryd.underlying5 rfl (by first | assumption | exact cell_of (hst.get 0 rfl) cuArr_0 | exact cell_of (hst.get 0 rfl) rfl) ?_) | fail)
    refine idx_qc rfl rfl (by rfl) Tryd.underlying3 ?_; go_wp2_with fail
    refine idx_q rfl rfl ?_; go_wp2_with fail
    refine idx_g rfl ?_; go_wp2_with fail; refine ⟨by first | exact Below.refl _ _ | exact hnew.below, ?_⟩
    refine idx_g rfl ?_; go_wp2_with fail; refine ⟨by first | exact Below.refl _ _ | exact hnew.below, ?_⟩
    refine idx_g rfl ?_; go_wp2_with fail; refine ⟨by first | exact Below.refl _ _ | exact hnew.below, ?_⟩
    refine idx_g rfl ?_; go_wp2_with (first | (refine L_load1 (d := some 24) rfl rfl rfl (by rfl) Tryd.underlying49 rfl (by first | assumption | exact cell_of (hst.get 0 rfl) cuArr_0 | exact cell_of (hst.get 0 rfl) rfl) ?_) | fail); refine ⟨by first | exact Below.refl _ _ | exact hnew.below, ?_⟩
    refine idx_g rfl ?_; go_wp2_with (first | (refine L_idxS (d := some 25) rfl rfl rfl (by rfl) (by rfl) Tryd.underlying49 el_uint8 (by first | exact hst.old (by decide) hd | assumption | exact hst.sl 0 rfl | exact hst.old (by decide) (by assumption)) (by omega) (by omega) ?_; intro o25 p25 ha25 hr25; (first | subst ha25 | (obtain ⟨h1, h2⟩ := some_addr ha25; subst h1; subst h2; clear ha25) | skip)) | fail); refine ⟨by first | exact Below.refl _ _ | exact hnew.below, ?_⟩
    refine idx_g rfl ?_; go_wp2_with (first | (refine L_load1 (d := some 26) rfl rfl rfl (by rfl) Tryd.underlying5 rfl (hr25 0 _ HC1.out) ?_) | (refine L_load1 (d := some 26) rfl rfl rfl (by rfl) Tryd.underlying5 rfl (by first | assumption | exact cell_of (hst.get 0 rfl) cuArr_0 | exact cell_of (hst.get 0 rfl) rfl) ?_) | fail); refine ⟨by first | exact Below.refl _ _ | exact hnew.below, ?_⟩
    refine idx_g rfl ?_; go_wp2_with fail; refine ⟨by first | exact Below.refl _ _ | exact hnew.below, ?_⟩
    refine idx_g rfl ?_; go_wp2_with fail; refine ⟨by first | exact Below.refl _ _ | exact hnew.below, ?_⟩
    refine idx_g rfl ?_; go_wp2_with fail; refine ⟨by first | exact Below.refl _ _ | exact hnew.below, ?_⟩
    refine idx_nil ?_
    clear hr17 hr25 hor ha hb
    by_cases hbig : 1000 < N ∨ t.length < N + 8
    · have hb : (1000 : Int) < (N : Int) ∨ ¬ (1000 : Int) < (N : Int) ∧ (r : Int) < 2 + (N : Int) + 8 := by omega
      clear hn hbig
      rcases hb with k1 | ⟨k1, k2⟩
      all_goals
        go_wp2_with (first
          | (refine L_load1 (d := some 35) rfl rfl rfl (by rfl) Tryd.underlying49 rfl (by first | assumption | exact cell_of (hst.get 0 rfl) cuArr_0 | exact cell_of (hst.get 0 rfl) rfl) ?_)
          | fail)
        go_ret2
        exact ⟨rfl, hst⟩
    · rw [if_neg hbig] at hn
      have hne : ¬ ((t.drop N).take 8 = dmark last (t.take N)) := fun h => by rw [if_pos h] at hn; cases hn
      have HNE := Lib.hid (show ((t.drop N).take 8 == dmark last (t.take N)) = false by rw [beq_eq_false_iff_ne]; exact hne)
      have k1 : ¬ (1000 : Int) < (N : Int) := by omega
      have k2 : ¬ (r : Int) < 2 + (N : Int) + 8 := by omega
      have k3 : 2 + N + 8 ≤ r := by omega
      clear hn hbig hne
      go_wp2_with (first
        | (refine L_load1 (d := some 35) rfl rfl rfl (by rfl) Tryd.underlying49 rfl (by first | assumption | exact cell_of (hst.get 0 rfl) cuArr_0 | exact cell_of (hst.get 0 rfl) rfl) ?_)
        | fail)
      refine wp_region_idx [(0, 0), (1, 0), (2, 0), (3, 0), (4, 0), (5, 0), (6, 0), (7, 0), (8, 0), (9, 0), (10, 0), (11, 0), (12, 0), (13, 0), (14, 0), (15, 0), (16, 0), (17, 2), (18, 2)] (by kernel_rfl) (by kernel_rfl) ?_
      replace hst := hst.drew
      refine idx_q rfl rfl ?_; go_wp2_with fail
      refine idx_q rfl rfl ?_; go_wp2_with fail
      refine idx_qf rfl rfl (by kernel_rfl) ?_; go_wp2_with fail
      refine idx_q rfl rfl ?_; go_wp2_with (first | (refine L_load1 (d := some 45) rfl rfl rfl (by rfl) Tryd.underlying49 rfl (by first | assumption | exact cell_of (hst.get 0 rfl) cuArr_0 | exact cell_of (hst.get 0 rfl) rfl) ?_) | fail)
      refine idx_q rfl rfl ?_; go_wp2_with fail
      refine idx_q rfl rfl ?_; go_wp2_with fail
      refine idx_q rfl rfl ?_; go_wp2_with (first | (first | (refine L_cutV (d := some 48) rfl rfl rfl (by rfl) Tryd.underlying49 el_uint8 (by decide) hd 2 (2 + N) _ (Or.inr ⟨_, _, rfl, rfl⟩) (Or.inr ⟨_, _, rfl, by first | exact ev_tmp rfl | exact ev_int rfl (by omega) | (rw [ev_tmp rfl]; congr 1; omega)⟩) (Or.inl ⟨rfl, rfl⟩) (by omega) (by omega) (by omega) (by omega) ?_; intro A48 c48 hs48) | (refine L_cutO (d := some 48) rfl rfl hst rfl (by rfl) Tryd.underlying49 el_uint8 0 rfl (by first | rfl | omega) 2 (2 + N) _ (Or.inr ⟨_, _, rfl, rfl⟩) (Or.inr ⟨_, _, rfl, by first | exact ev_tmp rfl | exact ev_int rfl (by omega) | (rw [ev_tmp rfl]; congr 1; omega)⟩) (Or.inl ⟨rfl, rfl⟩) (by omega) (by omega) (by omega) (by omega) ?_; clear hst; intro A48 c48 hst; simp only [List.set_cons_zero, List.set_cons_succ] at hst) | (refine L_cutS (d := some 48) rfl rfl rfl (by rfl) Tryd.underlying49 el_uint8 (by decide) (by first | assumption | exact hst.old (by decide) (by assumption) | exact hst.sl 0 rfl) 2 (2 + N) _ (Or.inr ⟨_, _, rfl, rfl⟩) (Or.inr ⟨_, _, rfl, by first | exact ev_tmp rfl | exact ev_int rfl (by omega) | (rw [ev_tmp rfl]; congr 1; omega)⟩) (Or.inl ⟨rfl, rfl⟩) (by omega) (by omega) (by omega) (by omega) ?_; intro A48 c48 hs48)) | fail)
      refine idx_q rfl rfl ?_; go_wp2_with fail
      refine idx_q rfl rfl ?_; go_wp2_with fail
      refine idx_qf rfl rfl (by kernel_rfl) ?_; go_wp2_with fail
      refine idx_q rfl rfl ?_; go_wp2_with (first | (refine L_load1 (d := some 52) rfl rfl rfl (by rfl) Tryd.underlying49 rfl (by first | assumption | exact cell_of (hst.get 0 rfl) cuArr_0 | exact cell_of (hst.get 0 rfl) rfl) ?_) | fail)
      refine idx_q rfl rfl ?_; go_wp2_with fail
      refine idx_q rfl rfl ?_; go_wp2_with fail
      refine idx_q rfl rfl ?_; go_wp2_with fail
      refine idx_q rfl rfl ?_; go_wp2_with fail
      refine idx_q rfl rfl ?_; go_wp2_with fail
      refine idx_q rfl rfl ?_; go_wp2_with (first | (first | (refine L_cutV (d := some 58) rfl rfl rfl (by rfl) Tryd.underlying49 el_uint8 (by decide) hd (2 + N) (2 + N + 8) _ (Or.inr ⟨_, _, rfl, by first | exact ev_tmp rfl | exact ev_int rfl (by omega) | (rw [ev_tmp rfl]; congr 1; omega)⟩) (Or.inr ⟨_, _, rfl, by first | exact ev_tmp rfl | exact ev_int rfl (by omega) | (rw [ev_tmp rfl]; congr 1; omega)⟩) (Or.inl ⟨rfl, rfl⟩) (by omega) (by omega) (by omega) (by omega) ?_; intro A58 c58 hs58) | (refine L_cutO (d := some 58) rfl rfl hst rfl (by rfl) Tryd.underlying49 el_uint8 0 rfl (by first | rfl | omega) (2 + N) (2 + N + 8) _ (Or.inr ⟨_, _, rfl, by first | exact ev_tmp rfl | exact ev_int rfl (by omega) | (rw [ev_tmp rfl]; congr 1; omega)⟩) (Or.inr ⟨_, _, rfl, by first | exact ev_tmp rfl | exact ev_int rfl (by omega) | (rw [ev_tmp rfl]; congr 1; omega)⟩) (Or.inl ⟨rfl, rfl⟩) (by omega) (by omega) (by omega) (by omega) ?_; clear hst; intro A58 c58 hst; simp only [List.set_cons_zero, List.set_cons_succ] at hst) | (refine L_cutS (d := some 58) rfl rfl rfl (by rfl) Tryd.underlying49 el_uint8 (by decide) (by first | assumption | exact hst.old (by decide) (by assumption) | exact hst.sl 0 rfl) (2 + N) (2 + N + 8) _ (Or.inr ⟨_, _, rfl, by first | exact ev_tmp rfl | exact ev_int rfl (by omega) | (rw [ev_tmp rfl]; congr 1; omega)⟩) (Or.inr ⟨_, _, rfl, by first | exact ev_tmp rfl | exact ev_int rfl (by omega) | (rw [ev_tmp rfl]; congr 1; omega)⟩) (Or.inl ⟨rfl, rfl⟩) (by omega) (by omega) (by omega) (by omega) ?_; intro A58 c58 hs58)) | fail)
      refine idx_g rfl ?_; go_wp2_with fail; refine ⟨by first | exact Below.refl _ _ | exact hnew.below, ?_⟩
      refine idx_g rfl ?_; go_wp2_with fail; refine ⟨by first | exact Below.refl _ _ | exact hnew.below, ?_⟩
      refine idx_nil ?_
      rw [HL1.out, show 2 + N - 2 = N by omega] at hs48
      rw [HL2.out, show 2 + N + 8 - (2 + N) = 8 by omega] at hs58
      clear hd HL1 HL2 HC0 HC1
      go_upto_region 8 with (first
        | (go_at_call 59; (try clear hnew); refine (dmark_any last (t.take N) Lp A48 8 lc N c48 _ (HT.out.of hst) (hl _ hst) (hst.old (by decide) hs48) (by decide) (by omega)).mono ?_; rintro e Wm ⟨gm, rfl, hnew⟩; replace hst := hst.trans hnew; simp only [List.cons_append, List.nil_append] at hst)
        | (go_at_call 77; (try clear hnew); refine (equalB_any _ _ _ _ _ _ _ _ _ (hst.old (by decide) hs58) (mark_slr (hst.get 0 rfl))).mono ?_; rw [HNE.out]; rintro e We ⟨rfl, hnew⟩; replace hst := hst.keep hnew)
        | (refine L_load1 (d := some 63) rfl rfl rfl (by rfl) Tryd.underlying49 rfl (by first | assumption | exact cell_of (hst.get 0 rfl) cuArr_1 | exact cell_of (hst.get 0 rfl) rfl | exact cell_of (hst.get 1 rfl) cuArr_1 | exact cell_of (hst.get 1 rfl) rfl) ?_)
        | fail)
      go_wp2_with (first
        | fail)
      go_ret2
      exact ⟨rfl, hst.tail⟩

set_option maxHeartbeats 4000000 in
set_option maxRecDepth 100000 in
/-- the next one -/
theorem next_some (last d rec rest : List UInt8) (g : Nat) (R Lp : Option Addr) (r rc lc : Nat) (w0 w : World) (L : List Res) (hT : Tb w0) (hd : SlR w0 R r rc 1 (bytesL d)) (hl : ∀ W, St w0 W (.blk g 99 (cuArr R r rc Lp lc) :: L) → SlR W Lp 8 lc 1 (bytesL last)) (hll : last.length = 8) (hst : St w0 w (.blk g 99 (cuArr R r rc Lp lc) :: L)) (hn : nextD last d = some (rec, rest)) :
    Calls Tryd.prog 57 #[.pointer (some ⟨g, 0, none⟩)] w fun e w' => ∃ (A : Option Addr) (n c : Nat) (R' : Option Addr) (r' rc' : Nat) (L' : Option Addr) (lc' : Nat), e = .returned (.tuple #[.slice A n c, .bool true]) ∧ SlR w0 A n c 1 (bytesL rec) ∧ n ≤ 1000 ∧ SlR w0 R' r' rc' 1 (bytesL rest) ∧ SlR w0 L' 8 lc' 1 (bytesL (dmark last rec)) ∧
      St w0 w' (.blk g 99 (cuArr R' r' rc' L' lc') :: L) := by
  have HT := Lib.hid hT
  have hdl := hd.1
  have hrc := hd.2.1
  have hrm := hd.2.2.1
  simp only [maxLen] at hrm
  rw [length_bytesL, Nat.mul_one] at hdl
  clear hT
  obtain ⟨a, b, t, rfl⟩ : ∃ a b t, d = a :: b :: t := by
    match d, hn with
    | [], h => cases h
    | [_], h => cases h
    | a :: b :: t, _ => exact ⟨a, b, t, rfl⟩
  have htl : t.length + 2 = r := by simpa using hdl
  have ha : a.toNat ≤ 255 := by have := UInt8.toNat_lt a; omega
  have hb : b.toNat ≤ 255 := by have := UInt8.toNat_lt b; omega
  obtain ⟨N, hN⟩ : ∃ N : Nat, N = a.toNat * 256 + b.toNat := ⟨_, rfl⟩
  have hor : bits .or .i64 ((a.toNat : Int) * 256) (b.toNat : Int) = (N : Int) := by rw [or_bytes a b, hN]; omega
  have HC0 := Lib.hid (show (((bytesL (a :: b :: t)).drop (Int.toNat 0 * 1)).take 1)[0]? = some (.int .u8 (a.toNat : Int)) from rfl)
  have HC1 := Lib.hid (show (((bytesL (a :: b :: t)).drop (Int.toNat 1 * 1)).take 1)[0]? = some (.int .u8 (b.toNat : Int)) from rfl)
  have HL1 := Lib.hid (show ((bytesL (a :: b :: t)).drop (2 * 1)).take ((2 + N - 2) * 1) = bytesL (t.take N) by
    rw [show (2 + N - 2) * 1 = N by omega]; simp [bytesL, List.map_take])
  have HL2 := Lib.hid (show ((bytesL (a :: b :: t)).drop ((2 + N) * 1)).take ((2 + N + 8 - (2 + N)) * 1) = bytesL ((t.drop N).take 8) by
    rw [show (2 + N + 8 - (2 + N)) * 1 = 8 by omega, show (2 + N) * 1 = N + 1 + 1 by omega]; simp [bytesL, List.map_take, List.map_drop])
  have HL3 := Lib.hid (show ((bytesL (a :: b :: t)).drop ((2 + N + 8) * 1)).take ((r - (2 + N + 8)) * 1) = bytesL (t.drop (N + 8)) by
    rw [List.take_of_length_le (by rw [List.length_drop, length_bytesL, hdl]; omega), show (2 + N + 8) * 1 = (N + 8) + 1 + 1 by omega]
    simp [bytesL, List.map_drop])
  simp only [nextD, ← hN] at hn
  have hN2 : N ≤ 65535 := by omega
  by_cases hbig : 1000 < N ∨ t.length < N + 8
  · rw [if_pos hbig] at hn; cases hn
  rw [if_neg hbig] at hn
  by_cases he : (t.drop N).take 8 = dmark last (t.take N)
  case neg => rw [if_neg he] at hn; cases hn
  rw [if_pos he] at hn
  simp only [Option.some.injEq, Prod.mk.injEq] at hn
  obtain ⟨rfl, rfl⟩ := hn
  rw [he] at HL2
  have HNE := Lib.hid (show (dmark last (t.take N) == dmark last (t.take N)) = true by simp)
  have k0 : ¬ (r : Int) < 2 := by omega
  have k1 : ¬ (1000 : Int) < (N : Int) := by omega
  have k2 : ¬ (r : Int) < 2 + (N : Int) + 8 := by omega
  have k3 : 2 + N + 8 ≤ r := by omega
  clear hN hbig he
  generalize hbl : bytesL (a :: b :: t) = bl at hd HC0 HC1 HL1 HL2 HL3
  clear hbl hdl
  go_enter Tryd.func57, Tryd.ntmps57
  go_wp2_with (first
    | (refine L_load1 (d := some 10) rfl rfl rfl (by rfl) Tryd.underlying49 rfl (by first | assumption | exact cell_of (hst.get 0 rfl) cuArr_0 | exact cell_of (hst.get 0 rfl) rfl) ?_)
    | fail)
  refine wp_region_idx [(0, 0), (1, 0), (2, 0), (3, 0), (4, 0), (5, 0), (6, 0), (7, 0), (8, 2), (9, 2), (10, 2), (11, 2), (12, 2), (13, 2), (14, 2), (15, 2), (16, 2)] (by kernel_rfl) (by kernel_rfl) ?_
  replace hst := hst.drew
  refine idx_q rfl rfl ?_; go_wp2_with fail
  refine idx_q rfl rfl ?_; go_wp2_with fail
  refine idx_qf rfl rfl (by kernel_rfl) ?_; go_wp2_with fail
  refine idx_q rfl rfl ?_; go_wp2_with (first | (refine L_load1 (d := some 16) rfl rfl rfl (by rfl) Tryd.underlying49 rfl (by first | assumption | exact cell_of (hst.get 0 rfl) cuArr_0 | exact cell_of (hst.get 0 rfl) rfl) ?_) | fail)
  refine idx_q rfl rfl ?_; go_wp2_with (first | (refine L_idxS (d := some 17) rfl rfl rfl (by rfl) (by rfl) Tryd.underlying49 el_uint8 (by first | exact hst.old (by decide) hd | assumption | exact hst.sl 0 rfl | exact hst.old (by decide) (by assumption)) (by omega) (by omega) ?_; intro o17 p17 ha17 hr17; (first | subst ha17 | (obtain ⟨h1, h2⟩ := some_addr ha17; subst h1; subst h2; clear ha17) | skip)) | fail)
  refine idx_q rfl rfl ?_; go_wp2_with (first | (refine L_load1 (d := some 18) rfl rfl rfl (by rfl) Tryd.underlying5 rfl (hr17 0 _ HC0.out) ?_) | (refine L_load1 (d := some 18) rfl rfl rfl (by rfl) Tryd.underlying5 rfl (by first | assumption | exact cell_of (hst.get 0 rfl) cuArr_0 | exact cell_of (hst.get 0 rfl) rfl) ?_) | fail)
  refine idx_qc rfl rfl (by rfl) Tryd.underlying3 ?_; go_wp2_with fail
  refine idx_q rfl rfl ?_; go_wp2_with fail
  refine idx_g rfl ?_; go_wp2_with fail; refine ⟨by first | exact Below.refl _ _ | exact hnew.below, ?_⟩
  refine idx_g rfl ?_; go_wp2_with fail; refine ⟨by first | exact Below.refl _ _ | exact hnew.below, ?_⟩
  refine idx_g rfl ?_; go_wp2_with fail; refine ⟨by first | exact Below.refl _ _ | exact hnew.below, ?_⟩
  refine idx_g rfl ?_; go_wp2_with (first | (refine L_load1 (d := some 24) rfl rfl rfl (by rfl) Tryd.underlying49 rfl (by first | assumption | exact cell_of (hst.get 0 rfl) cuArr_0 | exact cell_of (hst.get 0 rfl) rfl) ?_) | fail); refine ⟨by first | exact Below.refl _ _ | exact hnew.below, ?_⟩
  refine idx_g rfl ?_; go_wp2_with (first | (refine L_idxS (d := some 25) rfl rfl rfl (by rfl) (by rfl) Tryd.underlying49 el_uint8 (by first | exact hst.old (by decide) hd | assumption | exact hst.sl 0 rfl | exact hst.old (by decide) (by assumption)) (by omega) (by omega) ?_; intro o25 p25 ha25 hr25; (first | subst ha25 | (obtain ⟨h1, h2⟩ := some_addr ha25; subst h1; subst h2; clear ha25) | skip)) | fail); refine ⟨by first | exact Below.refl _ _ | exact hnew.below, ?_⟩
  refine idx_g rfl ?_; go_wp2_with (first | (refine L_load1 (d := some 26) rfl rfl rfl (by rfl) Tryd.underlying5 rfl (hr25 0 _ HC1.out) ?_) | (refine L_load1 (d := some 26) rfl rfl rfl (by rfl) Tryd.underlying5 rfl (by first | assumption | exact cell_of (hst.get 0 rfl) cuArr_0 | exact cell_of (hst.get 0 rfl) rfl) ?_) | fail); refine ⟨by first | exact Below.refl _ _ | exact hnew.below, ?_⟩
  refine idx_g rfl ?_; go_wp2_with fail; refine ⟨by first | exact Below.refl _ _ | exact hnew.below, ?_⟩
  refine idx_g rfl ?_; go_wp2_with fail; refine ⟨by first | exact Below.refl _ _ | exact hnew.below, ?_⟩
  refine idx_g rfl ?_; go_wp2_with fail; refine ⟨by first | exact Below.refl _ _ | exact hnew.below, ?_⟩
  refine idx_nil ?_
  clear hr17 hr25 hor ha hb
  replace k1 : ¬ (1000 : Int) < (N : Int) := by omega
  replace k2 : ¬ (r : Int) < 2 + (N : Int) + 8 := by omega
  go_wp2_with (first
    | (refine L_load1 (d := some 35) rfl rfl rfl (by rfl) Tryd.underlying49 rfl (by first | assumption | exact cell_of (hst.get 0 rfl) cuArr_0 | exact cell_of (hst.get 0 rfl) rfl) ?_)
    | fail)
  refine wp_region_idx [(0, 0), (1, 0), (2, 0), (3, 0), (4, 0), (5, 0), (6, 0), (7, 0), (8, 0), (9, 0), (10, 0), (11, 0), (12, 0), (13, 0), (14, 0), (15, 0), (16, 0), (17, 2), (18, 2)] (by kernel_rfl) (by kernel_rfl) ?_
  replace hst := hst.drew
  refine idx_q rfl rfl ?_; go_wp2_with fail
  refine idx_q rfl rfl ?_; go_wp2_with fail
  refine idx_qf rfl rfl (by kernel_rfl) ?_; go_wp2_with fail
  refine idx_q rfl rfl ?_; go_wp2_with (first | (refine L_load1 (d := some 45) rfl rfl rfl (by rfl) Tryd.underlying49 rfl (by first | assumption | exact cell_of (hst.get 0 rfl) cuArr_0 | exact cell_of (hst.get 0 rfl) rfl) ?_) | fail)
  refine idx_q rfl rfl ?_; go_wp2_with fail
  refine idx_q rfl rfl ?_; go_wp2_with fail
  refine idx_q rfl rfl ?_; go_wp2_with (first | (first | (refine L_cutV (d := some 48) rfl rfl rfl (by rfl) Tryd.underlying49 el_uint8 (by decide) hd 2 (2 + N) _ (Or.inr ⟨_, _, rfl, rfl⟩) (Or.inr ⟨_, _, rfl, by first | exact ev_tmp rfl | exact ev_int rfl (by omega) | (rw [ev_tmp rfl]; congr 1; omega)⟩) (Or.inl ⟨rfl, rfl⟩) (by omega) (by omega) (by omega) (by omega) ?_; intro A48 c48 hs48) | (refine L_cutO (d := some 48) rfl rfl hst rfl (by rfl) Tryd.underlying49 el_uint8 0 rfl (by first | rfl | omega) 2 (2 + N) _ (Or.inr ⟨_, _, rfl, rfl⟩) (Or.inr ⟨_, _, rfl, by first | exact ev_tmp rfl | exact ev_int rfl (by omega) | (rw [ev_tmp rfl]; congr 1; omega)⟩) (Or.inl ⟨rfl, rfl⟩) (by omega) (by omega) (by omega) (by omega) ?_; clear hst; intro A48 c48 hst; simp only [List.set_cons_zero, List.set_cons_succ] at hst) | (refine L_cutS (d := some 48) rfl rfl rfl (by rfl) Tryd.underlying49 el_uint8 (by decide) (by first | assumption | exact hst.old (by decide) (by assumption) | exact hst.sl 0 rfl) 2 (2 + N) _ (Or.inr ⟨_, _, rfl, rfl⟩) (Or.inr ⟨_, _, rfl, by first | exact ev_tmp rfl | exact ev_int rfl (by omega) | (rw [ev_tmp rfl]; congr 1; omega)⟩) (Or.inl ⟨rfl, rfl⟩) (by omega) (by omega) (by omega) (by omega) ?_; intro A48 c48 hs48)) | fail)
  refine idx_q rfl rfl ?_; go_wp2_with fail
  refine idx_q rfl rfl ?_; go_wp2_with fail
  refine idx_qf rfl rfl (by kernel_rfl) ?_; go_wp2_with fail
  refine idx_q rfl rfl ?_; go_wp2_with (first | (refine L_load1 (d := some 52) rfl rfl rfl (by rfl) Tryd.underlying49 rfl (by first | assumption | exact cell_of (hst.get 0 rfl) cuArr_0 | exact cell_of (hst.get 0 rfl) rfl) ?_) | fail)
  refine idx_q rfl rfl ?_; go_wp2_with fail
  refine idx_q rfl rfl ?_; go_wp2_with fail
  refine idx_q rfl rfl ?_; go_wp2_with fail
  refine idx_q rfl rfl ?_; go_wp2_with fail
  refine idx_q rfl rfl ?_; go_wp2_with fail
  refine idx_q rfl rfl ?_; go_wp2_with (first | (first | (refine L_cutV (d := some 58) rfl rfl rfl (by rfl) Tryd.underlying49 el_uint8 (by decide) hd (2 + N) (2 + N + 8) _ (Or.inr ⟨_, _, rfl, by first | exact ev_tmp rfl | exact ev_int rfl (by omega) | (rw [ev_tmp rfl]; congr 1; omega)⟩) (Or.inr ⟨_, _, rfl, by first | exact ev_tmp rfl | exact ev_int rfl (by omega) | (rw [ev_tmp rfl]; congr 1; omega)⟩) (Or.inl ⟨rfl, rfl⟩) (by omega) (by omega) (by omega) (by omega) ?_; intro A58 c58 hs58) | (refine L_cutO (d := some 58) rfl rfl hst rfl (by rfl) Tryd.underlying49 el_uint8 0 rfl (by first | rfl | omega) (2 + N) (2 + N + 8) _ (Or.inr ⟨_, _, rfl, by first | exact ev_tmp rfl | exact ev_int rfl (by omega) | (rw [ev_tmp rfl]; congr 1; omega)⟩) (Or.inr ⟨_, _, rfl, by first | exact ev_tmp rfl | exact ev_int rfl (by omega) | (rw [ev_tmp rfl]; congr 1; omega)⟩) (Or.inl ⟨rfl, rfl⟩) (by omega) (by omega) (by omega) (by omega) ?_; clear hst; intro A58 c58 hst; simp only [List.set_cons_zero, List.set_cons_succ] at hst) | (refine L_cutS (d := some 58) rfl rfl rfl (by rfl) Tryd.underlying49 el_uint8 (by decide) (by first | assumption | exact hst.old (by decide) (by assumption) | exact hst.sl 0 rfl) (2 + N) (2 + N + 8) _ (Or.inr ⟨_, _, rfl, by first | exact ev_tmp rfl | exact ev_int rfl (by omega) | (rw [ev_tmp rfl]; congr 1; omega)⟩) (Or.inr ⟨_, _, rfl, by first | exact ev_tmp rfl | exact ev_int rfl (by omega) | (rw [ev_tmp rfl]; congr 1; omega)⟩) (Or.inl ⟨rfl, rfl⟩) (by omega) (by omega) (by omega) (by omega) ?_; intro A58 c58 hs58)) | fail)
  refine idx_g rfl ?_; go_wp2_with fail; refine ⟨by first | exact Below.refl _ _ | exact hnew.below, ?_⟩
  refine idx_g rfl ?_; go_wp2_with fail; refine ⟨by first | exact Below.refl _ _ | exact hnew.below, ?_⟩
  refine idx_nil ?_
  rw [HL1.out, show 2 + N - 2 = N by omega] at hs48
  rw [HL2.out, show 2 + N + 8 - (2 + N) = 8 by omega] at hs58
  clear HL1 HL2 HC0 HC1
  go_upto_region 9 with (first
    | (go_at_call 59; (try clear hnew); refine (dmark_any last (t.take N) Lp A48 8 lc N c48 _ (HT.out.of hst) (hl _ hst) (hst.old (by decide) hs48) (by decide) (by omega)).mono ?_; rintro e Wm ⟨gm, rfl, hnew⟩; replace hst := hst.trans hnew; simp only [List.cons_append, List.nil_append] at hst)
    | (go_at_call 77; (try clear hnew); refine (equalB_any _ _ _ _ _ _ _ _ _ (hst.old (by decide) hs58) (mark_slr (hst.get 0 rfl))).mono ?_; rw [HNE.out]; rintro e We ⟨rfl, hnew⟩; replace hst := hst.keep hnew)
    | (refine L_load1 (d := some 63) rfl rfl rfl (by rfl) Tryd.underlying49 rfl (by first | assumption | exact cell_of (hst.get 0 rfl) cuArr_1 | exact cell_of (hst.get 0 rfl) rfl | exact cell_of (hst.get 1 rfl) cuArr_1 | exact cell_of (hst.get 1 rfl) rfl) ?_)
    | fail)
  (try clear hnew)
  replace hst := hst.tail
  refine wp_region_pm (.one 0 3 (.one 1 3 (.one 2 3 (.one 3 3 (.one 7 3 (.one 8 3 (.one 9 3 (.one 4 2 (.one 5 2 (.one 6 2 (.one 10 3 (.one 11 2 (.one 12 2 (.one 13 1 (.one 14 2 (.one 15 2 (.one 16 1 .nil))))))))))))))))) (by kernel_rfl) (by kernel_rfl) ?_
  replace hst := hst.drew
  refine pm_p rfl rfl ?_; go_wp2_with fail
  refine pm_p rfl rfl ?_; go_wp2_with fail
  refine pm_p rfl rfl ?_; go_wp2_with fail
  refine pm_p rfl rfl ?_; go_wp2_with fail
  refine pm_p rfl rfl ?_; go_wp2_with fail
  refine pm_pv rfl (pureV_add rfl (by rfl) (by rfl)) ?_; go_wp2_with fail
  refine pm_pv rfl (pureV_add rfl (by rfl) (by rfl)) ?_; go_wp2_with fail
  refine pm_g rfl ?_; go_wp2_with fail; refine ⟨by first | exact Below.refl _ _ | exact hnew.below, ?_⟩
  refine pm_g rfl ?_; go_wp2_with fail; refine ⟨by first | exact Below.refl _ _ | exact hnew.below, ?_⟩
  refine pm_g rfl ?_; go_wp2_with (first | (refine L_load1 (d := some 74) rfl rfl rfl (by rfl) Tryd.underlying49 rfl (by first | assumption | exact cell_of (hst.get 0 rfl) cuArr_0 | exact cell_of (hst.get 0 rfl) rfl) ?_) | fail); refine ⟨by first | exact Below.refl _ _ | exact hnew.below, ?_⟩
  refine pm_pv rfl (pureV_cut rfl (by rfl) Tryd.underlying49 el_uint8 (2 + N + 8) _ _ (Or.inr ⟨_, _, rfl, by first | exact ev_tmp rfl | exact ev_int rfl (by omega) | (rw [ev_tmp rfl]; congr 1; omega)⟩) (Or.inl ⟨rfl, rfl, rfl⟩) (Or.inl ⟨rfl, rfl⟩) (by omega) (by omega) (by omega) (by omega)) ?_; go_wp2_with (first | (first | (refine L_cutV (d := some 78) rfl rfl rfl (by rfl) Tryd.underlying49 el_uint8 (by decide) hd (2 + N + 8) _ _ (Or.inr ⟨_, _, rfl, by first | exact ev_tmp rfl | exact ev_int rfl (by omega) | (rw [ev_tmp rfl]; congr 1; omega)⟩) (Or.inl ⟨rfl, rfl, rfl⟩) (Or.inl ⟨rfl, rfl⟩) (by omega) (by omega) (by omega) (by omega) ?_; intro A78 c78 hs78) | (refine L_cutO (d := some 78) rfl rfl hst rfl (by rfl) Tryd.underlying49 el_uint8 0 rfl (by first | rfl | omega) (2 + N + 8) _ _ (Or.inr ⟨_, _, rfl, by first | exact ev_tmp rfl | exact ev_int rfl (by omega) | (rw [ev_tmp rfl]; congr 1; omega)⟩) (Or.inl ⟨rfl, rfl, rfl⟩) (Or.inl ⟨rfl, rfl⟩) (by omega) (by omega) (by omega) (by omega) ?_; clear hst; intro A78 c78 hst; simp only [List.set_cons_zero, List.set_cons_succ, cuArr_s0, cuArr_s1] at hst) | (refine L_cutS (d := some 78) rfl rfl rfl (by rfl) Tryd.underlying49 el_uint8 (by decide) (by first | assumption | exact hst.old (by decide) (by assumption) | exact hst.sl 0 rfl) (2 + N + 8) _ _ (Or.inr ⟨_, _, rfl, by first | exact ev_tmp rfl | exact ev_int rfl (by omega) | (rw [ev_tmp rfl]; congr 1; omega)⟩) (Or.inl ⟨rfl, rfl, rfl⟩) (Or.inl ⟨rfl, rfl⟩) (by omega) (by omega) (by omega) (by omega) ?_; intro A78 c78 hs78)) | fail)
  refine pm_g rfl ?_; go_wp2_with fail; refine ⟨by first | exact Below.refl _ _ | exact hnew.below, ?_⟩
  refine pm_g rfl ?_; go_wp2_with fail; refine ⟨by first | exact Below.refl _ _ | exact hnew.below, ?_⟩
  refine pm_e rfl ?_; go_wp2_with (first | (refine wpl_at (.store 49 (.tmp 80) (.tmp 70)) rfl ?_; first | (refine L_store1 rfl rfl hst rfl (by rfl) (ev_tmp rfl) rfl el_S_uint8 0 rfl (by first | exact of_decide_eq_true rfl | omega | (simp; done) | (simp; omega)) ?_; clear hst; intro WS13 hst; simp only [List.set_cons_zero, List.set_cons_succ, cuArr_s0, cuArr_s1] at hst)) | fail)
  refine pm_g rfl ?_; go_wp2_with fail; refine ⟨by first | exact Below.refl _ _ | exact hnew.below, ?_⟩
  refine pm_g rfl ?_; go_wp2_with fail; refine ⟨by first | exact Below.refl _ _ | exact hnew.below, ?_⟩
  refine pm_e rfl ?_; go_wp2_with (first | (refine wpl_at (.store 49 (.tmp 82) (.tmp 78)) rfl ?_; first | (refine L_store1 rfl rfl hst rfl (by rfl) (ev_tmp rfl) rfl el_S_uint8 0 rfl (by first | exact of_decide_eq_true rfl | omega | (simp; done) | (simp; omega)) ?_; clear hst; intro WS16 hst; simp only [List.set_cons_zero, List.set_cons_succ, cuArr_s0, cuArr_s1] at hst)) | fail)
  refine pm_nil ?_
  go_wp2_with (first
    | fail)
  go_ret2
  rw [HL3.out] at hs78
  exact ⟨A48, N, c48, A78, _, c78, A58, c58, rfl, hs48, by omega, hs78, hs58, hst⟩
end Go.Proofs.YtkbleigmfcleaaaDoor
