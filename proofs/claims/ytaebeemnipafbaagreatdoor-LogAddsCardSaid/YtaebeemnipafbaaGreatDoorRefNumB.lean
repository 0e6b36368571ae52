/-
  Proved here: the contracts of the reference's numbers of bytes and bytes of numbers, wherever they are asked. No condition.
-/
import Derived.Test.YtaebeemnipafbaaGreatDoorRefNum
import Derived.Test.YtaebeemnipafbaaGreatDoorOctet
set_option maxRecDepth 20000
set_option linter.unusedSimpArgs false
set_option linter.unusedVariables false
namespace Go.Proofs.YtaebeemnipafbaaGreatDoor
open Go.RowKit

set_option maxHeartbeats 1000000 in
theorem rnum_all (b : List UInt8) (A : Option Addr) (n c : Nat) (w : World) (hx : SlR w A n c 1 (bytesL b)) (h1 : 1 ≤ n) (h8 : n ≤ 8) (h127 : n = 8 → (b.getD 0 0).toNat ≤ 127) :
    Calls Tryz.prog 77 #[.slice A n c] w fun e w' => e = .returned (.tuple #[.int .i64 (natE b : Int), .bool true]) ∧ St w w' [] := by
  by_cases hn8 : n ≤ 7
  · exact rnum_any b A n c w hx h1 hn8
  obtain rfl : n = 8 := by omega
  have hst := St.refl w
  have hl := hx.1
  rw [length_bytesL, Nat.mul_one] at hl
  have Hfit := Lib.hid (fun i (hi : i ≤ 8) => natE_fits b (by omega) (fun h => h127 (by omega)) i (by omega))
  have Hl := Lib.hid hl
  have hcap := hx.2.1
  clear hl
  have hb0 := Lib.hid (show 0 < b.length by rw [Hl.out]; decide)
  have h127 := h127 rfl
  have HC0 := Lib.hid (fun (W : World) (g off : Nat) h => byte_of_range (W := W) (g := g) (off := off) (i := 0) (l := b) h hb0.out)
  have n1 : ¬ (128 : Int) ≤ ((b.getD 0 0).toNat : Int) := by omega
  generalize b.getD 0 0 = x0 at HC0 n1 h127
  go_enter Tryz.func77, Tryz.ntmps77
  go_wp2_with (first | (refine L_load1 (d := some 21) rfl rfl rfl (by rfl) Tryz.underlying5 rfl (HC0.out _ _ _ hr20) ?_) | (refine L_idxS (d := some 20) rfl rfl rfl (by rfl) (by rfl) Tryz.underlying22 el_uint8 (by (exact hst.old (by decide) hx)) (by omega) (by omega) ?_; intro o20 p20 ha20 hr20; ((subst ha20))))
  clear HC0 n1 h127
  go_loopg [4, 5] 8 (fun gk s4 s5 wr => ∃ i : Nat, Hid (i + gk = 8) ∧ s4 = .int .i64 (natE (b.take i) : Int) ∧ s5 = .int .i64 (i : Int) ∧ St w wr [])
  case atStart => exact ⟨0, Lib.hid (by omega), rfl, rfl, hst⟩
  case round =>
    clear hst
    obtain ⟨i, HI, rfl, rfl, hst⟩ := hrel
    have hi := HI.out
    by_cases hin : i < 8
    · clear hi
      have hb := Lib.hid (show i < b.length by rw [Hl.out]; exact hin)
      have HC := Lib.hid (fun (W : World) (g off : Nat) h => byte_of_range (W := W) (g := g) (off := off) (i := i) (l := b) h hb.out)
      have hfit := Hfit.out (i + 1) (by omega)
      have hnt := natE_take b i hb.out
      rw [hnt] at hfit
      have HN := Lib.hid hnt
      have hby := UInt8.toNat_lt (b.getD i 0)
      generalize natE (b.take i) = acc at *
      generalize b.getD i 0 = x at *
      clear hnt
      go_wp2_with (first | (refine L_load1 (d := some 36) rfl rfl rfl (by rfl) Tryz.underlying5 rfl (HC.out _ _ _ hr35) ?_) | (refine L_idxS (d := some 35) rfl rfl rfl (by rfl) (by rfl) Tryz.underlying22 el_uint8 (by (exact hst.old (by decide) hx)) (by omega) (by omega) ?_; intro o35 p35 ha35 hr35; ((obtain ⟨h1, h2⟩ := some_addr ha35; subst h1; subst h2; clear ha35))))
      go_roundg (gk - 1)
      case measure => have hi := HI.out; omega
      case rel =>
        have hi := HI.out
        refine ⟨i + 1, Lib.hid (by omega), ?_, by go_num, hst⟩
        rw [HN.out]
        go_num
    · obtain rfl : i = 8 := by omega
      clear hi HI
      have HN := Lib.hid (show b.take 8 = b from List.take_of_length_le (by rw [Hl.out]; exact Nat.le_refl _))
      rw [HN.out]
      go_wp2_with (fail)
      go_ret2
      exact ⟨rfl, hst⟩

set_option maxHeartbeats 1000000 in
theorem rnum_no (b : List UInt8) (A : Option Addr) (n c : Nat) (w : World) (hx : SlR w A n c 1 (bytesL b)) (h : n < 1 ∨ 8 < n ∨ n = 8 ∧ 127 < (b.getD 0 0).toNat) :
    Calls Tryz.prog 77 #[.slice A n c] w fun e w' => e = .returned (.tuple #[.int .i64 0, .bool false]) ∧ St w w' [] := by
  have hst := St.refl w
  have hl := hx.1
  rw [length_bytesL, Nat.mul_one] at hl
  have Hl := Lib.hid hl
  have hcap := hx.2.1
  have hmx := hx.2.2.1
  simp only [maxLen] at hmx
  clear hl
  by_cases c1 : n < 1
  · obtain rfl : n = 0 := by omega
    clear h
    go_enter Tryz.func77, Tryz.ntmps77
    go_wp2_with (fail)
    go_ret2
    exact ⟨rfl, hst⟩
  have t1 : ((n : Int) == 0) = false := by simp; omega
  by_cases c2 : 8 < n
  · have t2 : (8 : Int) < (n : Int) := by omega
    clear h
    go_enter Tryz.func77, Tryz.ntmps77
    go_wp2_with (fail)
    go_ret2
    exact ⟨rfl, hst⟩
  · obtain ⟨rfl, h127⟩ := (h.resolve_left c1).resolve_left c2
    clear h
    have hb0 := Lib.hid (show 0 < b.length by rw [Hl.out]; decide)
    have HC0 := Lib.hid (fun (W : World) (g off : Nat) h => byte_of_range (W := W) (g := g) (off := off) (i := 0) (l := b) h hb0.out)
    have n1 : (128 : Int) ≤ ((b.getD 0 0).toNat : Int) := by omega
    generalize b.getD 0 0 = x0 at HC0 n1 h127
    go_enter Tryz.func77, Tryz.ntmps77
    go_wp2_with (first | (refine L_load1 (d := some 21) rfl rfl rfl (by rfl) Tryz.underlying5 rfl (HC0.out _ _ _ hr20) ?_) | (refine L_idxS (d := some 20) rfl rfl rfl (by rfl) (by rfl) Tryz.underlying22 el_uint8 (by (exact hst.old (by decide) hx)) (by omega) (by omega) ?_; intro o20 p20 ha20 hr20; ((subst ha20))))
    go_ret2
    exact ⟨rfl, hst⟩

set_option maxHeartbeats 1000000 in
theorem rput_no (n size : Int) (w : World) (h : size < 1 ∨ 8 < size ∨ n < 0) :
    Calls Tryz.prog 93 #[.int .i64 n, .int .i64 size] w fun e w' => e = .returned (.tuple #[.slice none 0 0, .bool false]) ∧ St w w' [] := by
  have hst := St.refl w
  by_cases c1 : size < 1
  · clear h
    go_enter Tryz.func93, Tryz.ntmps93
    go_wp2_with (fail)
    go_ret2
    exact ⟨rfl, hst⟩
  by_cases c2 : 8 < size
  · clear h
    go_enter Tryz.func93, Tryz.ntmps93
    go_wp2_with (fail)
    go_ret2
    exact ⟨rfl, hst⟩
  · have c3 : n < 0 := by omega
    clear h
    go_enter Tryz.func93, Tryz.ntmps93
    go_wp2_with (fail)
    go_ret2
    exact ⟨rfl, hst⟩
/-- both sides say the same of a number, a size: these bytes, or none -/
theorem put_both (n size : Int) (hn1 : -9223372036854775808 ≤ n) (hn2 : n ≤ 9223372036854775807) (hs1 : -9223372036854775808 ≤ size) (hs2 : size ≤ 9223372036854775807) :
    (∃ (k : Nat) (l : List UInt8), (∀ w, Calls Tryz.prog 93 #[.int .i64 n, .int .i64 size] w fun e w' => ∃ A, e = .returned (.tuple #[.slice A k k, .bool true]) ∧ St w w' [.row A k k 5 1 (bytesL l)]) ∧
      (∀ w, Calls Tryz.prog 60 #[.int .i64 n, .int .i64 size] w fun e w' => ∃ A, e = .returned (.tuple #[.slice A k k, .nilIface]) ∧ St w w' [.row A k k 5 1 (bytesL l)])) ∨
    ((∀ w, Calls Tryz.prog 93 #[.int .i64 n, .int .i64 size] w fun e w' => ∃ A k, e = .returned (.tuple #[.slice A k k, .bool false]) ∧ St w w' []) ∧
      (∀ w, Calls Tryz.prog 60 #[.int .i64 n, .int .i64 size] w fun e w' => e = .returned (.tuple #[.slice none 0 0, errV 2]) ∧ St w w' [])) := by
  by_cases h : size < 1 ∨ 8 < size ∨ n < 0
  · refine .inr ⟨fun w => (rput_no n size w h).mono fun e w' ⟨he, hs⟩ => ⟨_, _, he, hs⟩, fun w => oput_no n size w hn1 hn2 hs1 hs2 ?_⟩
    unfold putNo
    omega
  · obtain ⟨a, rfl⟩ : ∃ a : Nat, n = (a : Int) := ⟨n.toNat, by omega⟩
    obtain ⟨k, rfl⟩ : ∃ k : Nat, size = (k : Int) := ⟨size.toNat, by omega⟩
    by_cases hf : a >>> (8 * k) = 0
    · refine .inl ⟨k, bigE k a, fun w => ?_, fun w => oput_any a k w (by omega) (by omega) (by omega) fun _ => hf⟩
      have := rput_any a k w (by omega) (by omega) (by omega)
      rw [hf] at this
      exact this
    · refine .inr ⟨fun w => ?_, fun w => oput_no a k w hn1 hn2 hs1 hs2 ?_⟩
      · refine (rput_any a k w (by omega) (by omega) (by omega)).mono fun e w' => ?_
        rintro ⟨A, rfl, hs⟩
        refine ⟨A, k, ?_, hs.forget⟩
        generalize a >>> (8 * k) = v at *
        rw [show ((v : Int) == 0) = false by rw [beq_eq_false_iff_ne]; omega]
      · have hk8 : k < 8 := by
          by_cases h8 : k = 8
          · subst h8
            exact absurd (by rw [Nat.shiftRight_eq_div_pow]; exact Nat.div_eq_of_lt (Nat.lt_of_le_of_lt (show a ≤ 9223372036854775807 by omega) (by decide))) hf
          · omega
        refine .inr (.inr (.inr ⟨by omega, ?_⟩))
        rw [Int.toNat_natCast]
        have h1 : (a : Int) / (2 : Int) ^ (8 * k) = ((a >>> (8 * k) : Nat) : Int) := by
          rw [Nat.shiftRight_eq_div_pow, Int.natCast_ediv]
          simp
        rw [h1]
        generalize a >>> (8 * k) = v at *
        omega

end Go.Proofs.YtaebeemnipafbaaGreatDoor
