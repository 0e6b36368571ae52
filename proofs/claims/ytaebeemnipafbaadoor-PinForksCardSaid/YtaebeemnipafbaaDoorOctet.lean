/-
  Proved here: the contracts of the program's bytes of a number and number of bytes. No condition beyond the machine's numbers.
-/
import Derived.Test.YtaebeemnipafbaaDoorRefPlain
import Derived.Test.YtaebeemnipafbaaDoorLawE
import Derived.Test.YtaebeemnipafbaaDoorLawD
import Derived.Test.YtaebeemnipafbaaDoorEl
import Derived.Test.YtaebeemnipafbaaDoorRefWord
import Derived.Test.YtaebeemnipafbaaDoorErr
import Derived.Deep.LoopGhost
set_option maxRecDepth 20000
set_option linter.unusedSimpArgs false
set_option linter.unusedVariables false
namespace Go.Proofs.YtaebeemnipafbaaDoor
open Go.RowKit

theorem shr_cell (n k : Nat) : ((n : Int) / (2 : Int) ^ (8 * k)) = ((n >>> (8 * k) : Nat) : Int) := by
  rw [Nat.shiftRight_eq_div_pow]
  simp

set_option maxHeartbeats 1000000 in
theorem oput_any (n size : Nat) (w : World) (h1 : 1 ≤ size) (h8 : size ≤ 8) (hn : n ≤ 9223372036854775807) (hfit : size < 8 → n >>> (8 * size) = 0) :
    Calls Tryd.prog 66 #[.int .i64 (n : Int), .int .i64 (size : Int)] w fun e w' => ∃ A, e = .returned (.tuple #[.slice A size size, .nilIface]) ∧ St w w' [.row A size size 5 1 (bytesL (bigE size n))] := by
  have hst := St.refl w
  have t1 : ¬ (size : Int) < 1 := by omega
  have t2 : ¬ (8 : Int) < (size : Int) := by omega
  have t3 : ¬ (n : Int) < 0 := by omega
  by_cases hs8 : size < 8
  · have hz : (n : Int) / (2 : Int) ^ (8 * size) = 0 := by rw [shr_cell, hfit hs8]; rfl
    clear hfit
    go_enter Tryd.func66, Tryd.ntmps66
    go_wp2_with (first
      | (refine L_makeS (d := some 31) rfl rfl rfl (by rfl) (by rfl) Tryd.underlying22 el_uint8 rfl (by omega) (by first | decide | (simp only [maxLen]; omega)) ?_; (try clear hnew); intro g31 W31 hnew; replace hst := hst.trans hnew; simp only [List.cons_append, List.nil_append] at hst)
      | fail)
    clear hnew
    have hst : St w W31 [.row g31 size size 5 1 (putL size n size)] := by rw [putL_start]; exact hst
    go_loopg [7, 34] size (fun gk s7 s34 wr => ∃ m k : Nat, Hid (m = gk) ∧ Hid (m + k = size) ∧ s34 = .int .i64 (k : Int) ∧ St w wr [.row g31 size size 5 1 (putL size n m)])
    case atStart => exact ⟨size, 0, Lib.hid rfl, Lib.hid rfl, rfl, hst⟩
    case round =>
      clear hst
      obtain ⟨m, k, HG, HK, rfl, hst⟩ := hrel
      have hk := HK.out
      by_cases hm : 0 < m
      · obtain ⟨m, rfl⟩ : ∃ m', m = m' + 1 := ⟨m - 1, by omega⟩
        have HS := Lib.hid (putL_set size n m (by omega))
        rw [show size - 1 - m = k by omega] at HS
        have hks : k < size := by omega
        have hms : m < size := by omega
        have hidx : (size : Int) - 1 - (k : Int) = (m : Int) := by omega
        have HCell := Lib.hid (shr_cell n k)
        clear hk
        go_wp2_with (first
          | (first | (refine L_idxO (d := some 47) rfl rfl hst rfl (by rfl) (by rfl) Tryd.underlying22 el_uint8 0 rfl (by first | rfl | omega) (by omega) (by omega) ?_; intro o47 p47 ha47; (first | subst ha47 | (obtain ⟨h1, h2⟩ := some_addr ha47; subst h1; subst h2; clear ha47) | skip)))
          | (refine wpl_at (.store 5 (.tmp 47) (.tmp 46)) rfl ?_; first | (refine L_store1 rfl rfl hst rfl (by rfl) (ev_tmp rfl) rfl el_uint8 0 rfl (by first | exact of_decide_eq_true rfl | omega | (simp; done) | (simp; omega)) ?_; clear hst; intro WS11 hst; simp only [List.set_cons_zero, List.set_cons_succ] at hst) | (refine L_storeR rfl rfl hst rfl (by rfl) (ev_tmp rfl) rfl el_uint8 0 rfl (by first | omega | (simp; done) | (simp; omega)) ?_; clear hst; intro WS11 hst; simp only [List.set_cons_zero, List.set_cons_succ] at hst) | (refine L_storeR (i := 0) rfl rfl hst rfl (by rfl) (ev_tmp rfl) rfl el_uint8 0 rfl (by first | omega | (simp; done) | (simp; omega)) ?_; clear hst; intro WS11 hst; simp only [List.set_cons_zero, List.set_cons_succ] at hst))
          | fail)
        go_roundg (gk - 1)
        case measure => have hg := HG.out; omega
        case rel =>
          have hg := HG.out
          have hk := HK.out
          refine ⟨m, k + 1, Lib.hid (by omega), Lib.hid (by omega), by go_num, ?_⟩
          rw [← HS.out]
          rw [HCell.out] at hst
          simpa using hst
      · obtain rfl : m = 0 := by omega
        obtain rfl : k = size := by omega
        clear hk HG HK
        go_wp2_with (first
          | fail)
        rw [putL_end] at hst
        go_ret2
        exact ⟨_, rfl, hst⟩
  · clear hfit
    go_enter Tryd.func66, Tryd.ntmps66
    go_wp2_with (first
      | (refine L_makeS (d := some 31) rfl rfl rfl (by rfl) (by rfl) Tryd.underlying22 el_uint8 rfl (by omega) (by first | decide | (simp only [maxLen]; omega)) ?_; (try clear hnew); intro g31 W31 hnew; replace hst := hst.trans hnew; simp only [List.cons_append, List.nil_append] at hst)
      | fail)
    clear hnew
    have hst : St w W31 [.row g31 size size 5 1 (putL size n size)] := by rw [putL_start]; exact hst
    go_loopg [7, 34] size (fun gk s7 s34 wr => ∃ m k : Nat, Hid (m = gk) ∧ Hid (m + k = size) ∧ s34 = .int .i64 (k : Int) ∧ St w wr [.row g31 size size 5 1 (putL size n m)])
    case atStart => exact ⟨size, 0, Lib.hid rfl, Lib.hid rfl, rfl, hst⟩
    case round =>
      clear hst
      obtain ⟨m, k, HG, HK, rfl, hst⟩ := hrel
      have hk := HK.out
      by_cases hm : 0 < m
      · obtain ⟨m, rfl⟩ : ∃ m', m = m' + 1 := ⟨m - 1, by omega⟩
        have HS := Lib.hid (putL_set size n m (by omega))
        rw [show size - 1 - m = k by omega] at HS
        have hks : k < size := by omega
        have hms : m < size := by omega
        have hidx : (size : Int) - 1 - (k : Int) = (m : Int) := by omega
        have HCell := Lib.hid (shr_cell n k)
        clear hk
        go_wp2_with (first
          | (first | (refine L_idxO (d := some 47) rfl rfl hst rfl (by rfl) (by rfl) Tryd.underlying22 el_uint8 0 rfl (by first | rfl | omega) (by omega) (by omega) ?_; intro o47 p47 ha47; (first | subst ha47 | (obtain ⟨h1, h2⟩ := some_addr ha47; subst h1; subst h2; clear ha47) | skip)))
          | (refine wpl_at (.store 5 (.tmp 47) (.tmp 46)) rfl ?_; first | (refine L_store1 rfl rfl hst rfl (by rfl) (ev_tmp rfl) rfl el_uint8 0 rfl (by first | exact of_decide_eq_true rfl | omega | (simp; done) | (simp; omega)) ?_; clear hst; intro WS11 hst; simp only [List.set_cons_zero, List.set_cons_succ] at hst) | (refine L_storeR rfl rfl hst rfl (by rfl) (ev_tmp rfl) rfl el_uint8 0 rfl (by first | omega | (simp; done) | (simp; omega)) ?_; clear hst; intro WS11 hst; simp only [List.set_cons_zero, List.set_cons_succ] at hst) | (refine L_storeR (i := 0) rfl rfl hst rfl (by rfl) (ev_tmp rfl) rfl el_uint8 0 rfl (by first | omega | (simp; done) | (simp; omega)) ?_; clear hst; intro WS11 hst; simp only [List.set_cons_zero, List.set_cons_succ] at hst))
          | fail)
        go_roundg (gk - 1)
        case measure => have hg := HG.out; omega
        case rel =>
          have hg := HG.out
          have hk := HK.out
          refine ⟨m, k + 1, Lib.hid (by omega), Lib.hid (by omega), by go_num, ?_⟩
          rw [← HS.out]
          rw [HCell.out] at hst
          simpa using hst
      · obtain rfl : m = 0 := by omega
        obtain rfl : k = size := by omega
        clear hk HG HK
        go_wp2_with (first
          | fail)
        rw [putL_end] at hst
        go_ret2
        exact ⟨_, rfl, hst⟩

/-- where it is refused -/
def putNo (n size : Int) : Prop := size < 1 ∨ 8 < size ∨ n < 0 ∨ size < 8 ∧ 0 < n / (2 : Int) ^ (8 * size.toNat)
set_option maxHeartbeats 1000000 in
theorem oput_no (n size : Int) (w : World) (hn1 : -9223372036854775808 ≤ n) (hn2 : n ≤ 9223372036854775807) (hs1 : -9223372036854775808 ≤ size) (hs2 : size ≤ 9223372036854775807) (h : putNo n size) :
    Calls Tryd.prog 66 #[.int .i64 n, .int .i64 size] w fun e w' => e = .returned (.tuple #[.slice none 0 0, errV 2]) ∧ St w w' [] := by
  have hst := St.refl w
  unfold putNo at h
  by_cases c1 : size < 1
  · clear h
    go_enter Tryd.func66, Tryd.ntmps66
    go_wp2_with fail
    go_ret2
    exact ⟨rfl, hst⟩
  by_cases c2 : 8 < size
  · clear h
    go_enter Tryd.func66, Tryd.ntmps66
    go_wp2_with fail
    go_ret2
    exact ⟨rfl, hst⟩
  by_cases c3 : n < 0
  · clear h
    go_enter Tryd.func66, Tryd.ntmps66
    go_wp2_with fail
    go_ret2
    exact ⟨rfl, hst⟩
  · obtain ⟨c4, c5⟩ := ((h.resolve_left c1).resolve_left c2).resolve_left c3
    obtain ⟨z, rfl⟩ := Int.eq_ofNat_of_zero_le (show 0 ≤ size by omega)
    obtain ⟨k, rfl⟩ := Int.eq_ofNat_of_zero_le (show 0 ≤ n by omega)
    simp only [Int.toNat_natCast] at c5
    obtain ⟨v, hv⟩ : ∃ v, (k : Int) / (2 : Int) ^ (8 * z) = v := ⟨_, rfl⟩
    rw [hv] at c5
    clear h
    go_enter Tryd.func66, Tryd.ntmps66
    go_wp2_with fail
    go_ret2
    exact ⟨rfl, hst⟩

theorem or_byte (acc : Nat) (x : UInt8) (h : acc * 256 + x.toNat ≤ 9223372036854775807) : bits .or .i64 ((acc : Int) * 256) (x.toNat : Int) = (acc : Int) * 256 + (x.toNat : Int) := by
  have hx := UInt8.toNat_lt x
  have h1 := i64_or_nat (acc * 256) x.toNat (by omega) (by omega)
  have h2 : acc * 256 ||| x.toNat = acc * 256 + x.toNat := by
    have := Nat.shiftLeft_add_eq_or_of_lt (i := 8) (b := x.toNat) (by omega) acc
    rw [Nat.shiftLeft_eq] at this
    exact this.symm
  rw [h2] at h1
  rw [show (acc : Int) * 256 = ((acc * 256 : Nat) : Int) by omega, h1]
  omega
set_option maxHeartbeats 1000000 in
theorem onum_any (b : List UInt8) (A : Option Addr) (n c : Nat) (w : World) (hx : SlR w A n c 1 (bytesL b)) (h1 : 1 ≤ n) (h8 : n ≤ 8) (h127 : n = 8 → (b.getD 0 0).toNat ≤ 127) :
    Calls Tryd.prog 80 #[.slice A n c] w fun e w' => e = .returned (.tuple #[.int .i64 (natE b : Int), .nilIface]) ∧ St w w' [] := by
  have hst := St.refl w
  have hl := hx.1
  rw [length_bytesL, Nat.mul_one] at hl
  have Hfit := Lib.hid (fun i (hi : i ≤ n) => natE_fits b (by omega) (fun h => h127 (by omega)) i (by omega))
  have Hl := Lib.hid hl
  have hcap := hx.2.1
  clear hl
  have t1 : ¬ (n : Int) < 1 := by omega
  have t2 : ¬ (8 : Int) < (n : Int) := by omega
  by_cases hn8 : n = 8
  · subst hn8
    have hb0 := Lib.hid (show 0 < b.length by rw [Hl.out]; decide)
    have h127 := h127 rfl
    have HC0 := Lib.hid (fun (W : World) (g off : Nat) h => byte_of_range (W := W) (g := g) (off := off) (i := 0) (l := b) h hb0.out)
    have n1 : ¬ (127 : Int) < ((b.getD 0 0).toNat : Int) := by omega
    generalize b.getD 0 0 = x0 at HC0 n1 h127
    go_enter Tryd.func80, Tryd.ntmps80
    go_wp2_with (first
      | (refine L_load1 (d := some 22) rfl rfl rfl (by rfl) Tryd.underlying5 rfl (HC0.out _ _ _ hr21) ?_)
      | (refine L_idxS (d := some 21) rfl rfl rfl (by rfl) (by rfl) Tryd.underlying22 el_uint8 (by first | exact hst.old (by decide) hx | assumption | exact hst.sl 0 rfl | exact hst.old (by decide) (by assumption)) (by omega) (by omega) ?_; intro o21 p21 ha21 hr21; (first | subst ha21 | (obtain ⟨h1, h2⟩ := some_addr ha21; subst h1; subst h2; clear ha21) | skip))
      | (refine L_load1 (d := some 22) rfl rfl rfl (by rfl) Tryd.underlying5 rfl (by first | assumption | exact cell_of (hst.get 0 rfl) rfl) ?_)
      | fail)
    clear HC0 n1 h127
    go_loopg [4, 6, 29] 8 (fun gk s4 s6 s29 wr => ∃ i : Nat, Hid (i + gk = 8) ∧ s4 = .int .i64 (natE (b.take i) : Int) ∧ s29 = .int .i64 (i : Int) ∧ St w wr [])
    case atStart => exact ⟨0, Lib.hid (by omega), rfl, rfl, hst⟩
    case round =>
      clear hst
      obtain ⟨i, HI, rfl, rfl, hst⟩ := hrel
      have hi := HI.out
      by_cases hin : i < 8
      · clear hi
        have hb := Lib.hid (show i < b.length by rw [Hl.out]; exact hin)
        have HC := Lib.hid (fun (W : World) (g off : Nat) h => byte_of_range (W := W) (g := g) (off := off) (i := i) (l := b) h hb.out)
        have hfit := Hfit.out (i + 1) (by omega)
        have hnt := natE_take b i hb.out
        rw [hnt] at hfit
        have HN := Lib.hid hnt
        have hby := UInt8.toNat_lt (b.getD i 0)
        generalize natE (b.take i) = acc at *
        generalize b.getD i 0 = x at *
        have hor := or_byte acc x (by omega)
        clear hnt
        go_wp2_with (first
          | (refine L_load1 (d := some 32) rfl rfl rfl (by rfl) Tryd.underlying5 rfl (HC.out _ _ _ hr31) ?_)
          | (refine L_idxS (d := some 31) rfl rfl rfl (by rfl) (by rfl) Tryd.underlying22 el_uint8 (by first | exact hst.old (by decide) hx | assumption | exact hst.sl 0 rfl | exact hst.old (by decide) (by assumption)) (by omega) (by omega) ?_; intro o31 p31 ha31 hr31; (first | subst ha31 | (obtain ⟨h1, h2⟩ := some_addr ha31; subst h1; subst h2; clear ha31) | skip))
          | (refine L_load1 (d := some 32) rfl rfl rfl (by rfl) Tryd.underlying5 rfl (by first | assumption | exact cell_of (hst.get 0 rfl) rfl) ?_)
          | fail)
        go_roundg (gk - 1)
        case measure => have hi := HI.out; omega
        case rel =>
          have hi := HI.out
          refine ⟨i + 1, Lib.hid (by omega), ?_, by go_num, hst⟩
          rw [HN.out]
          go_num
      · obtain rfl : i = 8 := by omega
        clear hi HI
        have HN := Lib.hid (show b.take 8 = b from List.take_of_length_le (by rw [Hl.out]; exact Nat.le_refl _))
        rw [HN.out]
        go_wp2_with (first
          | fail)
        go_ret2
        exact ⟨rfl, hst⟩
  · have t3 : ((n : Int) == 8) = false := by simp; omega
    clear h127
    go_enter Tryd.func80, Tryd.ntmps80
    go_wp2_with (first
      | (refine L_idxS (d := some 21) rfl rfl rfl (by rfl) (by rfl) Tryd.underlying22 el_uint8 (by first | exact hst.old (by decide) hx | assumption | exact hst.sl 0 rfl | exact hst.old (by decide) (by assumption)) (by omega) (by omega) ?_; intro o21 p21 ha21 hr21; (first | subst ha21 | (obtain ⟨h1, h2⟩ := some_addr ha21; subst h1; subst h2; clear ha21) | skip))
      | (refine L_load1 (d := some 22) rfl rfl rfl (by rfl) Tryd.underlying5 rfl (by first | assumption | exact cell_of (hst.get 0 rfl) rfl) ?_)
      | fail)
    go_loopg [4, 6, 29] n (fun gk s4 s6 s29 wr => ∃ i : Nat, Hid (i + gk = n) ∧ s4 = .int .i64 (natE (b.take i) : Int) ∧ s29 = .int .i64 (i : Int) ∧ St w wr [])
    case atStart => exact ⟨0, Lib.hid (by omega), rfl, rfl, hst⟩
    case round =>
      clear hst
      obtain ⟨i, HI, rfl, rfl, hst⟩ := hrel
      have hi := HI.out
      by_cases hin : i < n
      · clear hi
        have hb := Lib.hid (show i < b.length by rw [Hl.out]; exact hin)
        have HC := Lib.hid (fun (W : World) (g off : Nat) h => byte_of_range (W := W) (g := g) (off := off) (i := i) (l := b) h hb.out)
        have hfit := Hfit.out (i + 1) (by omega)
        have hnt := natE_take b i hb.out
        rw [hnt] at hfit
        have HN := Lib.hid hnt
        have hby := UInt8.toNat_lt (b.getD i 0)
        generalize natE (b.take i) = acc at *
        generalize b.getD i 0 = x at *
        have hor := or_byte acc x (by omega)
        clear hnt
        go_wp2_with (first
          | (refine L_load1 (d := some 32) rfl rfl rfl (by rfl) Tryd.underlying5 rfl (HC.out _ _ _ hr31) ?_)
          | (refine L_idxS (d := some 31) rfl rfl rfl (by rfl) (by rfl) Tryd.underlying22 el_uint8 (by first | exact hst.old (by decide) hx | assumption | exact hst.sl 0 rfl | exact hst.old (by decide) (by assumption)) (by omega) (by omega) ?_; intro o31 p31 ha31 hr31; (first | subst ha31 | (obtain ⟨h1, h2⟩ := some_addr ha31; subst h1; subst h2; clear ha31) | skip))
          | (refine L_load1 (d := some 32) rfl rfl rfl (by rfl) Tryd.underlying5 rfl (by first | assumption | exact cell_of (hst.get 0 rfl) rfl) ?_)
          | fail)
        go_roundg (gk - 1)
        case measure => have hi := HI.out; omega
        case rel =>
          have hi := HI.out
          refine ⟨i + 1, Lib.hid (by omega), ?_, by go_num, hst⟩
          rw [HN.out]
          go_num
      · obtain rfl : i = n := by omega
        clear hi HI
        have HN := Lib.hid (show b.take i = b from List.take_of_length_le (by rw [Hl.out]; exact Nat.le_refl _))
        rw [HN.out]
        go_wp2_with (first
          | fail)
        go_ret2
        exact ⟨rfl, hst⟩

set_option maxHeartbeats 1000000 in
theorem onum_no (b : List UInt8) (A : Option Addr) (n c : Nat) (w : World) (hx : SlR w A n c 1 (bytesL b)) (h : n < 1 ∨ 8 < n ∨ n = 8 ∧ 127 < (b.getD 0 0).toNat) :
    Calls Tryd.prog 80 #[.slice A n c] w fun e w' => e = .returned (.tuple #[.int .i64 0, errV 2]) ∧ St w w' [] := by
  have hst := St.refl w
  have hl := hx.1
  rw [length_bytesL, Nat.mul_one] at hl
  have Hl := Lib.hid hl
  have hcap := hx.2.1
  have hmx := hx.2.2.1
  simp only [maxLen] at hmx
  clear hl
  by_cases c1 : n < 1
  · have t1 : (n : Int) < 1 := by omega
    clear h
    go_enter Tryd.func80, Tryd.ntmps80
    go_wp2_with fail
    go_ret2
    exact ⟨rfl, hst⟩
  have t1 : ¬ (n : Int) < 1 := by omega
  by_cases c2 : 8 < n
  · have t2 : (8 : Int) < (n : Int) := by omega
    clear h
    go_enter Tryd.func80, Tryd.ntmps80
    go_wp2_with fail
    go_ret2
    exact ⟨rfl, hst⟩
  · obtain ⟨rfl, h127⟩ := (h.resolve_left c1).resolve_left c2
    clear h
    have hb0 := Lib.hid (show 0 < b.length by rw [Hl.out]; decide)
    have HC0 := Lib.hid (fun (W : World) (g off : Nat) h => byte_of_range (W := W) (g := g) (off := off) (i := 0) (l := b) h hb0.out)
    have n1 : (127 : Int) < ((b.getD 0 0).toNat : Int) := by omega
    generalize b.getD 0 0 = x0 at HC0 n1 h127
    go_enter Tryd.func80, Tryd.ntmps80
    go_wp2_with (first
      | (refine L_load1 (d := some 22) rfl rfl rfl (by rfl) Tryd.underlying5 rfl (HC0.out _ _ _ hr21) ?_)
      | (refine L_idxS (d := some 21) rfl rfl rfl (by rfl) (by rfl) Tryd.underlying22 el_uint8 (by first | exact hst.old (by decide) hx | assumption | exact hst.sl 0 rfl | exact hst.old (by decide) (by assumption)) (by omega) (by omega) ?_; intro o21 p21 ha21 hr21; (first | subst ha21 | (obtain ⟨h1, h2⟩ := some_addr ha21; subst h1; subst h2; clear ha21) | skip))
      | (refine L_load1 (d := some 22) rfl rfl rfl (by rfl) Tryd.underlying5 rfl (by first | assumption | exact cell_of (hst.get 0 rfl) rfl) ?_)
      | fail)
    go_ret2
    exact ⟨rfl, hst⟩
end Go.Proofs.YtaebeemnipafbaaDoor
