/-
  Proved here: the contracts of the program's bytes of a number and number of bytes. No condition beyond the machine's numbers.
-/
import Derived.Test.YtaebeemnipafbaaGreatDoorRefPlain
import Derived.Test.YtaebeemnipafbaaGreatDoorLawE
import Derived.Test.YtaebeemnipafbaaGreatDoorLawD
import Derived.Test.YtaebeemnipafbaaGreatDoorEl
import Derived.Test.YtaebeemnipafbaaGreatDoorRefWord
import Derived.Test.YtaebeemnipafbaaGreatDoorErr
import Derived.Deep.LoopGhost
set_option maxRecDepth 20000
set_option linter.unusedSimpArgs false
set_option linter.unusedVariables false
namespace Go.Proofs.YtaebeemnipafbaaGreatDoor
open Go.RowKit

theorem shr_cell (n k : Nat) : ((n : Int) / (2 : Int) ^ (8 * k)) = ((n >>> (8 * k) : Nat) : Int) := by
  rw [Nat.shiftRight_eq_div_pow]
  simp

set_option maxHeartbeats 1000000 in
theorem oput_any (n size : Nat) (w : World) (h1 : 1 ≤ size) (h8 : size ≤ 8) (hn : n ≤ 9223372036854775807) (hfit : size < 8 → n >>> (8 * size) = 0) :
    Calls Tryz.prog 60 #[.int .i64 (n : Int), .int .i64 (size : Int)] w fun e w' => ∃ A, e = .returned (.tuple #[.slice A size size, .nilIface]) ∧ St w w' [.row A size size 5 1 (bytesL (bigE size n))] := by
  have hst := St.refl w
  have t1 : ¬ (size : Int) < 1 := by omega
  have t2 : ¬ (8 : Int) < (size : Int) := by omega
  have t3 : ¬ (n : Int) < 0 := by omega
  by_cases hs8 : size < 8
  · have hz : (n : Int) / (2 : Int) ^ (8 * size) = 0 := by rw [shr_cell, hfit hs8]; rfl
    clear hfit
    go_enter Tryz.func60, Tryz.ntmps60
    go_wp2_with ((refine L_makeS (d := some 31) rfl rfl rfl (by rfl) (by rfl) Tryz.underlying22 el_uint8 rfl (by omega) (by (simp only [maxLen]; omega)) ?_; (try clear hnew); intro g31 W31 hnew; replace hst := hst.trans hnew; simp only [List.cons_append, List.nil_append] at hst))
    clear hnew
    have hst : St w W31 [.row g31 size size 5 1 (putL size n size)] := by rw [putL_start]; exact hst
    go_loopg [7, 34] size (fun gk s7 s34 wr => ∃ m k : Nat, Hid (m = gk) ∧ Hid (m + k = size) ∧ s34 = .int .i64 (k : Int) ∧ St w wr [.row g31 size size 5 1 (putL size n m)])
    case atStart => exact ⟨size, 0, Lib.hid rfl, Lib.hid rfl, rfl, hst⟩
    case round =>
      clear hst
      obtain ⟨m, k, HG, HK, rfl, hst⟩ := hrel
      have hk := HK.out
      by_cases hm : 0 < m
      · obtain ⟨m, rfl⟩ : ∃ m', m = m' + 1 := ⟨m - 1, by omega⟩
        have HS := Lib.hid (putL_set size n m (by omega))
        rw [show size - 1 - m = k by omega] at HS
        have hks : k < size := by omega
        have hms : m < size := by omega
        have hidx : (size : Int) - 1 - (k : Int) = (m : Int) := by omega
        have HCell := Lib.hid (shr_cell n k)
        clear hk
        go_wp2_with (first | ((refine L_idxO (d := some 47) rfl rfl hst rfl (by rfl) (by rfl) Tryz.underlying22 el_uint8 0 rfl (by (rfl)) (by omega) (by omega) ?_; intro o47 p47 ha47; ((subst ha47)))) | (refine wpl_at (.store 5 (.tmp 47) (.tmp 46)) rfl ?_; (refine L_storeR rfl rfl hst rfl (by rfl) (ev_tmp rfl) rfl el_uint8 0 rfl (by (omega)) ?_; clear hst; intro WS11 hst; simp only [List.set_cons_zero, List.set_cons_succ] at hst)))
        go_roundg (gk - 1)
        case measure => have hg := HG.out; omega
        case rel =>
          have hg := HG.out
          have hk := HK.out
          refine ⟨m, k + 1, Lib.hid (by omega), Lib.hid (by omega), by go_num, ?_⟩
          rw [← HS.out]
          rw [HCell.out] at hst
          simpa using hst
      · obtain rfl : m = 0 := by omega
        obtain rfl : k = size := by omega
        clear hk HG HK
        go_wp2_with (fail)
        rw [putL_end] at hst
        go_ret2
        exact ⟨_, rfl, hst⟩
  · clear hfit
    go_enter Tryz.func60, Tryz.ntmps60
    go_wp2_with ((refine L_makeS (d := some 31) rfl rfl rfl (by rfl) (by rfl) Tryz.underlying22 el_uint8 rfl (by omega) (by (simp only [maxLen]; omega)) ?_; (try clear hnew); intro g31 W31 hnew; replace hst := hst.trans hnew; simp only [List.cons_append, List.nil_append] at hst))
    clear hnew
    have hst : St w W31 [.row g31 size size 5 1 (putL size n size)] := by rw [putL_start]; exact hst
    go_loopg [7, 34] size (fun gk s7 s34 wr => ∃ m k : Nat, Hid (m = gk) ∧ Hid (m + k = size) ∧ s34 = .int .i64 (k : Int) ∧ St w wr [.row g31 size size 5 1 (putL size n m)])
    case atStart => exact ⟨size, 0, Lib.hid rfl, Lib.hid rfl, rfl, hst⟩
    case round =>
      clear hst
      obtain ⟨m, k, HG, HK, rfl, hst⟩ := hrel
      have hk := HK.out
      by_cases hm : 0 < m
      · obtain ⟨m, rfl⟩ : ∃ m', m = m' + 1 := ⟨m - 1, by omega⟩
        have HS := Lib.hid (putL_set size n m (by omega))
        rw [show size - 1 - m = k by omega] at HS
        have hks : k < size := by omega
        have hms : m < size := by omega
        have hidx : (size : Int) - 1 - (k : Int) = (m : Int) := by omega
        have HCell := Lib.hid (shr_cell n k)
        clear hk
        go_wp2_with (first | ((refine L_idxO (d := some 47) rfl rfl hst rfl (by rfl) (by rfl) Tryz.underlying22 el_uint8 0 rfl (by (rfl)) (by omega) (by omega) ?_; intro o47 p47 ha47; ((subst ha47)))) | (refine wpl_at (.store 5 (.tmp 47) (.tmp 46)) rfl ?_; (refine L_storeR rfl rfl hst rfl (by rfl) (ev_tmp rfl) rfl el_uint8 0 rfl (by (omega)) ?_; clear hst; intro WS11 hst; simp only [List.set_cons_zero, List.set_cons_succ] at hst)))
        go_roundg (gk - 1)
        case measure => have hg := HG.out; omega
        case rel =>
          have hg := HG.out
          have hk := HK.out
          refine ⟨m, k + 1, Lib.hid (by omega), Lib.hid (by omega), by go_num, ?_⟩
          rw [← HS.out]
          rw [HCell.out] at hst
          simpa using hst
      · obtain rfl : m = 0 := by omega
        obtain rfl : k = size := by omega
        clear hk HG HK
        go_wp2_with (fail)
        rw [putL_end] at hst
        go_ret2
        exact ⟨_, rfl, hst⟩

/-- where it is refused -/
def putNo (n size : Int) : Prop := size < 1 ∨ 8 < size ∨ n < 0 ∨ size < 8 ∧ 0 < n / (2 : Int) ^ (8 * size.toNat)
set_option maxHeartbeats 1000000 in
theorem oput_no (n size : Int) (w : World) (hn1 : -9223372036854775808 ≤ n) (hn2 : n ≤ 9223372036854775807) (hs1 : -9223372036854775808 ≤ size) (hs2 : size ≤ 9223372036854775807) (h : putNo n size) :
    Calls Tryz.prog 60 #[.int .i64 n, .int .i64 size] w fun e w' => e = .returned (.tuple #[.slice none 0 0, errV 2]) ∧ St w w' [] := by
  have hst := St.refl w
  unfold putNo at h
  by_cases c1 : size < 1
  · clear h
    go_enter Tryz.func60, Tryz.ntmps60
    go_wp2_with fail
    go_ret2
    exact ⟨rfl, hst⟩
  by_cases c2 : 8 < size
  · clear h
    go_enter Tryz.func60, Tryz.ntmps60
    go_wp2_with fail
    go_ret2
    exact ⟨rfl, hst⟩
  by_cases c3 : n < 0
  · clear h
    go_enter Tryz.func60, Tryz.ntmps60
    go_wp2_with fail
    go_ret2
    exact ⟨rfl, hst⟩
  · obtain ⟨c4, c5⟩ := ((h.resolve_left c1).resolve_left c2).resolve_left c3
    obtain ⟨z, rfl⟩ := Int.eq_ofNat_of_zero_le (show 0 ≤ size by omega)
    obtain ⟨k, rfl⟩ := Int.eq_ofNat_of_zero_le (show 0 ≤ n by omega)
    simp only [Int.toNat_natCast] at c5
    obtain ⟨v, hv⟩ : ∃ v, (k : Int) / (2 : Int) ^ (8 * z) = v := ⟨_, rfl⟩
    rw [hv] at c5
    clear h
    go_enter Tryz.func60, Tryz.ntmps60
    go_wp2_with fail
    go_ret2
    exact ⟨rfl, hst⟩

end Go.Proofs.YtaebeemnipafbaaGreatDoor
