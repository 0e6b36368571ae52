/-
  Proved here: the contract of the program's bytes of digits. Condition: a text of a length that a slice may have.
-/
import Derived.Test.YtaebeemnipafbaaGreatDoorUnhexPlain
import Derived.Test.YtaebeemnipafbaaGreatDoorLawC
import Derived.Test.YtaebeemnipafbaaGreatDoorDrawT
import Derived.Test.YtaebeemnipafbaaGreatDoorRefWord
import Derived.Test.YtaebeemnipafbaaGreatDoorErr
set_option maxRecDepth 20000
set_option linter.unusedSimpArgs false
set_option linter.unusedVariables false
namespace Go.Proofs.YtaebeemnipafbaaGreatDoor
open Go.RowKit

/-- how it ends: all pairs are digits, or the t-th one is not -/
def UnhexEnd (l : List UInt8) (m t : Nat) (w : World) (e : Ending) (w' : World) : Prop :=
  (t = m ∧ ∃ A c, e = .returned (.tuple #[.slice A m c, .nilIface]) ∧ St w w' [.row A m c 5 1 (bytesL (decL l m))]) ∨ (t < m ∧ e = .returned (.tuple #[.slice none 0 0, errV 1]) ∧ St w w' [])
theorem str_at (s : ByteArray) (j : Nat) (h : j < s.size) : s[j]? = some (s.data.toList.getD j 0) := by
  have h' : j < s.data.toList.length := by simpa using h
  rw [List.getD_eq_getElem?_getD, List.getElem?_eq_getElem h']
  simp [h]
  rfl
theorem idxByte_any (b : UInt8) (w : World) : Calls Tryz.prog 147 #[.string digitsS, .int .u8 (b.toNat : Int)] w fun e w' => e = .returned (.int .i64 (hexV b)) ∧ w' = w := by
  have h := Tryz.strings_IndexByte digitsS (b.toNat : Int) w
  rw [show ((b.toNat : Int)).toNat.toUInt8 = b by simp] at h
  exact h
theorem or_pair (x y : Int) (hx0 : 0 ≤ x) (hx : x < 16) (hy0 : 0 ≤ y) (hy : y < 16) : bits .or .i64 (x * 16) y = x * 16 + y := by
  obtain ⟨a, rfl⟩ := Int.eq_ofNat_of_zero_le hx0
  obtain ⟨b, rfl⟩ := Int.eq_ofNat_of_zero_le hy0
  have h := i64_or_nat (a * 16) b (by omega) (by omega)
  have h2 : a * 16 ||| b = a * 16 + b := by
    have := Nat.shiftLeft_add_eq_or_of_lt (i := 4) (b := b) (by omega) a
    rw [Nat.shiftLeft_eq] at this
    exact this.symm
  rw [h2] at h
  rw [show ((a : Nat) : Int) * 16 = ((a * 16 : Nat) : Int) by omega, h]
  omega

set_option maxHeartbeats 1000000 in
theorem unhex_odd (s : ByteArray) (w : World) (hs : s.size ≤ 140737488355000) (ho : s.size % 2 = 1) :
    Calls Tryz.prog 132 #[.string s] w fun e w' => e = .returned (.tuple #[.slice none 0 0, errV 1]) ∧ St w w' [] := by
  have hst := St.refl w
  have h1 : ((s.size : Int) % 2 != 0) = true := by rw [bne_iff_ne]; omega
  clear ho
  go_enter Tryz.func132, Tryz.ntmps132
  go_wp2_with fail
  go_ret2
  exact ⟨rfl, hst⟩

set_option maxHeartbeats 2000000 in
theorem unhex_any (s : ByteArray) (m t : Nat) (w : World) (hs : s.size ≤ 140737488355000) (hm : s.size = 2 * m) (ht : t ≤ m) (hok : ∀ j, j < t → pairOk s.data.toList j) (hend : t < m → ¬ pairOk s.data.toList t) :
    Calls Tryz.prog 132 #[.string s] w (UnhexEnd s.data.toList m t w) := by
  have hst := St.refl w
  have Hm := Lib.hid hm
  have Hok := Lib.hid hok
  have Hend := Lib.hid hend
  have h1 : ((s.size : Int) % 2 != 0) = false := by rw [bne_eq_false_iff_eq]; omega
  have hm2 : 2 * m ≤ 140737488355000 := by omega
  have hle : 2 * m ≤ s.size := by omega
  have hge : s.size ≤ 2 * m := by omega
  have Hat := Lib.hid (fun j => str_at s j)
  clear hok hend hm
  go_enter Tryz.func132, Tryz.ntmps132
  go_wp2_with fail
  have hst : St w w [.row none 0 0 5 1 (bytesL (decL s.data.toList 0))] := hst.nilRow 5 1
  go_loopg [4, 5, 6, 7] m (fun gk s4 s5 s6 s7 wr => ∃ (k : Nat) (O : Option Addr) (oc : Nat), Hid (k + gk = m) ∧ k ≤ t ∧ s4 = .slice O k oc ∧ s5 = .int .i64 ((2 * k : Nat) : Int) ∧ St w wr [.row O k oc 5 1 (bytesL (decL s.data.toList k))])
  case atStart => exact ⟨0, _, _, Lib.hid (by omega), by omega, rfl, rfl, hst⟩
  case round =>
    clear hst
    obtain ⟨k, O, oc, HK, hkt, rfl, rfl, hst⟩ := hrel
    have hk := HK.out
    have e1 : ((2 * k : Nat) : Int) = 2 * (k : Int) := by omega
    rw [e1]
    clear e1
    by_cases hkm : k < m
    · clear hk
      have HC1 := Lib.hid (Hat.out (2 * k) (by omega))
      have HC2 := Lib.hid (Hat.out (2 * k + 1) (by omega))
      have HP := Lib.hid (show pairOk s.data.toList k ↔ 0 ≤ hexV (s.data.toList.getD (2 * k) 0) ∧ 0 ≤ hexV (s.data.toList.getD (2 * k + 1) 0) from Iff.rfl)
      have HB := Lib.hid (show pairB s.data.toList k = UInt8.ofNat ((hexV (s.data.toList.getD (2 * k) 0)).toNat * 16 + (hexV (s.data.toList.getD (2 * k + 1) 0)).toNat) from rfl)
      generalize s.data.toList.getD (2 * k) 0 = b1 at *
      generalize s.data.toList.getD (2 * k + 1) 0 = b2 at *
      have HI1 := Lib.hid (idxByte_any b1)
      have HI2 := Lib.hid (idxByte_any b2)
      have hv1 := hexV_cases b1
      have hv2 := hexV_cases b2
      generalize hexV b1 = v1 at *
      generalize hexV b2 = v2 at *
      by_cases hkt' : k < t
      · obtain ⟨p1, p2⟩ := HP.out.1 (Hok.out k hkt')
        have q1 := (hv1.resolve_left (by omega)).2.1
        have q2 := (hv2.resolve_left (by omega)).2.1
        have hor := or_pair v1 v2 p1 q1 p2 q2
        have n1 : ¬ v1 < 0 := by omega
        have n2 : ¬ v2 < 0 := by omega
        clear hv1 hv2 HP
        go_wp2_with (fail)
        refine wp_region_idx [(0, 0), (1, 0), (2, 0), (4, 0), (5, 0), (6, 0), (7, 0), (3, 2), (8, 2), (9, 2), (10, 2)] (by kernel_rfl) (by kernel_rfl) ?_
        replace hst := hst.drew
        refine idx_q rfl rfl ?_; go_wp2_with fail
        refine idx_q rfl rfl ?_; go_wp2_with fail
        refine idx_q rfl rfl ?_; go_wp2_with ((refine L_strIdx (d := some 21) rfl rfl rfl Tryz.underlying9 rfl (by rfl) (2 * k) (by omega) HC1.out ?_))
        refine idx_q rfl rfl ?_; go_wp2_with fail
        refine idx_q rfl rfl ?_; go_wp2_with fail
        refine idx_q rfl rfl ?_; go_wp2_with fail
        refine idx_q rfl rfl ?_; go_wp2_with ((refine L_strIdx (d := some 26) rfl rfl rfl Tryz.underlying9 rfl (by rfl) (2 * k + 1) (by omega) HC2.out ?_))
        refine idx_g rfl ?_; go_wp2_with ((go_at_call_of 147 (Value.int .u8 (b1.toNat : Int)); refine (HI1.out _).mono ?_; rintro e W22 ⟨rfl, rfl⟩)); refine ⟨by (exact Below.refl _ _), ?_⟩
        refine idx_g rfl ?_; go_wp2_with ((go_at_call 147; refine (HI2.out _).mono ?_; rintro e W27 ⟨rfl, rfl⟩)); refine ⟨by (exact Below.refl _ _), ?_⟩
        refine idx_g rfl ?_; go_wp2_with fail; refine ⟨by (exact Below.refl _ _), ?_⟩
        refine idx_g rfl ?_; go_wp2_with fail; refine ⟨by (exact Below.refl _ _), ?_⟩
        refine idx_nil ?_
        go_wp2_with (first | (refine L_buildS (d := some 41) rfl rfl rfl [_] (bs_1 (ev_tmp rfl)) rfl Tryz.underlying22 el_uint8 rfl (by (simp [Value.cells]; done)) (by decide) (by decide) ?_; (try clear hnew); intro g41 W41 hnew; replace hst := hst.trans hnew; simp only [List.cons_append, List.nil_append] at hst; simp only [List.flatMap_cons, List.flatMap_nil, List.append_nil, Value.cells, List.toList_toArray] at hst) | (refine L_appendO (d := some 42) rfl rfl hst rfl (by rfl) (by rfl) Tryz.underlying22 el_uint8 rfl (by decide) (by decide) 1 rfl (by (rfl)) (by (exact hst.sl 0 rfl)) (by (simp [Value.oneCell']; done)) (by omega) ?_; clear hst; intro A42 c42 W42 hst; simp only [List.set_cons_zero, List.set_cons_succ, List.nil_append, Nat.zero_add] at hst))
        clear hnew
        have HV := Lib.hid (show bytesL (decL s.data.toList k) ++ [Value.int .u8 (v1 * 16 + v2)] = bytesL (decL s.data.toList (k + 1)) by
          rw [decL_succ, bytesL_append, HB.out]
          congr 1
          simp only [bytesL, List.map_cons, List.map_nil, byteV, UInt8.toNat_ofNat']
          rw [Nat.mod_eq_of_lt (by omega)]
          congr 2
          omega)
        go_roundg (gk - 1)
        case measure => have hk := HK.out; omega
        case rel =>
          have hk := HK.out
          refine ⟨k + 1, A42, c42, Lib.hid (by omega), by omega, rfl, by (rfl), ?_⟩
          rw [← HV.out]
          exact hst.pick [1] (by decide)
      · obtain rfl : k = t := by omega
        have hno := Hend.out hkm
        rw [HP.out] at hno
        by_cases n1 : v1 < 0
        · clear hno hv1 hv2 HP
          go_wp2_with (fail)
          refine wp_region_idx [(0, 0), (1, 0), (2, 0), (4, 0), (5, 0), (6, 0), (7, 0), (3, 2), (8, 2), (9, 2), (10, 2)] (by kernel_rfl) (by kernel_rfl) ?_
          replace hst := hst.drew
          refine idx_q rfl rfl ?_; go_wp2_with fail
          refine idx_q rfl rfl ?_; go_wp2_with fail
          refine idx_q rfl rfl ?_; go_wp2_with ((refine L_strIdx (d := some 21) rfl rfl rfl Tryz.underlying9 rfl (by rfl) (2 * k) (by omega) HC1.out ?_))
          refine idx_q rfl rfl ?_; go_wp2_with fail
          refine idx_q rfl rfl ?_; go_wp2_with fail
          refine idx_q rfl rfl ?_; go_wp2_with fail
          refine idx_q rfl rfl ?_; go_wp2_with ((refine L_strIdx (d := some 26) rfl rfl rfl Tryz.underlying9 rfl (by rfl) (2 * k + 1) (by omega) HC2.out ?_))
          refine idx_g rfl ?_; go_wp2_with ((go_at_call_of 147 (Value.int .u8 (b1.toNat : Int)); refine (HI1.out _).mono ?_; rintro e W22 ⟨rfl, rfl⟩)); refine ⟨by (exact Below.refl _ _), ?_⟩
          refine idx_g rfl ?_; go_wp2_with ((go_at_call 147; refine (HI2.out _).mono ?_; rintro e W27 ⟨rfl, rfl⟩)); refine ⟨by (exact Below.refl _ _), ?_⟩
          refine idx_g rfl ?_; go_wp2_with fail; refine ⟨by (exact Below.refl _ _), ?_⟩
          refine idx_g rfl ?_; go_wp2_with fail; refine ⟨by (exact Below.refl _ _), ?_⟩
          refine idx_nil ?_
          go_wp2_with (fail)
          go_ret2
          exact .inr ⟨hkm, rfl, hst.forget⟩
        · have n2 : v2 < 0 := by omega
          have n1' : ¬ v1 < 0 := by omega
          clear hno hv1 hv2 HP
          go_wp2_with (fail)
          refine wp_region_idx [(0, 0), (1, 0), (2, 0), (4, 0), (5, 0), (6, 0), (7, 0), (3, 2), (8, 2), (9, 2), (10, 2)] (by kernel_rfl) (by kernel_rfl) ?_
          replace hst := hst.drew
          refine idx_q rfl rfl ?_; go_wp2_with fail
          refine idx_q rfl rfl ?_; go_wp2_with fail
          refine idx_q rfl rfl ?_; go_wp2_with ((refine L_strIdx (d := some 21) rfl rfl rfl Tryz.underlying9 rfl (by rfl) (2 * k) (by omega) HC1.out ?_))
          refine idx_q rfl rfl ?_; go_wp2_with fail
          refine idx_q rfl rfl ?_; go_wp2_with fail
          refine idx_q rfl rfl ?_; go_wp2_with fail
          refine idx_q rfl rfl ?_; go_wp2_with ((refine L_strIdx (d := some 26) rfl rfl rfl Tryz.underlying9 rfl (by rfl) (2 * k + 1) (by omega) HC2.out ?_))
          refine idx_g rfl ?_; go_wp2_with ((go_at_call_of 147 (Value.int .u8 (b1.toNat : Int)); refine (HI1.out _).mono ?_; rintro e W22 ⟨rfl, rfl⟩)); refine ⟨by (exact Below.refl _ _), ?_⟩
          refine idx_g rfl ?_; go_wp2_with ((go_at_call 147; refine (HI2.out _).mono ?_; rintro e W27 ⟨rfl, rfl⟩)); refine ⟨by (exact Below.refl _ _), ?_⟩
          refine idx_g rfl ?_; go_wp2_with fail; refine ⟨by (exact Below.refl _ _), ?_⟩
          refine idx_g rfl ?_; go_wp2_with fail; refine ⟨by (exact Below.refl _ _), ?_⟩
          refine idx_nil ?_
          go_wp2_with (fail)
          go_ret2
          exact .inr ⟨hkm, rfl, hst.forget⟩
    · obtain rfl : k = m := by omega
      obtain rfl : t = k := by omega
      clear hk
      go_wp2_with (fail)
      go_ret2
      exact .inl ⟨rfl, _, _, rfl, hst⟩
end Go.Proofs.YtaebeemnipafbaaGreatDoor
