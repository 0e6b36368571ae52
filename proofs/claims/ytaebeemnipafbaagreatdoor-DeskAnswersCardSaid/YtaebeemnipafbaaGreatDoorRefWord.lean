/-
  Proved here: words of 32 bits as the reference reckons with them, in numbers of 64 bits. No condition on any program.
-/
import Derived.Test.YtaebeemnipafbaaGreatDoorWord
import Derived.Test.YtaebeemnipafbaaGreatDoorSq
set_option linter.unusedSimpArgs false
set_option linter.unusedVariables false
set_option maxRecDepth 100000
set_option maxHeartbeats 200000000
namespace Go.Proofs.YtaebeemnipafbaaGreatDoor
open Go.RowKit
abbrev iW (x : Wd) : Value := .int .i64 (x.n : Int)
theorem Pr (a : Nat) (ha : a < 2 ^ 63) : (BitVec.ofInt 64 (a : Int)).toNat = a := by
 rw [BitVec.ofInt_natCast, BitVec.toNat_ofNat]; exact Nat.mod_eq_of_lt (by omega)
theorem i64_xor_nat (a b : Nat) (ha : a < 2 ^ 63) (hb : b < 2 ^ 63) : bits .xor .i64 (a : Int) (b : Int) = ((a ^^^ b : Nat) : Int) := by
 have hx : a ^^^ b < 2 ^ 63 := Nat.xor_lt_two_pow ha hb
 show IntKind.i64.wrap ((BitVec.ofInt 64 (a : Int) ^^^ BitVec.ofInt 64 (b : Int)).toNat : Int) = _
 rw [BitVec.toNat_xor, Pr a ha, Pr b hb]
 exact IntWalk.i64_in _ (by omega)
theorem i64_or_nat (a b : Nat) (ha : a < 2 ^ 63) (hb : b < 2 ^ 63) : bits .or .i64 (a : Int) (b : Int) = ((a ||| b : Nat) : Int) := by
 have hx : a ||| b < 2 ^ 63 := Nat.or_lt_two_pow ha hb
 show IntKind.i64.wrap ((BitVec.ofInt 64 (a : Int) ||| BitVec.ofInt 64 (b : Int)).toNat : Int) = _
 rw [BitVec.toNat_or, Pr a ha, Pr b hb]
 exact IntWalk.i64_in _ (by omega)
theorem i64_and_nat (a b : Nat) (ha : a < 2 ^ 63) (hb : b < 2 ^ 63) : bits .and .i64 (a : Int) (b : Int) = ((a &&& b : Nat) : Int) := by
 have hx : a &&& b < 2 ^ 63 := Nat.and_lt_two_pow _ hb
 show IntKind.i64.wrap ((BitVec.ofInt 64 (a : Int) &&& BitVec.ofInt 64 (b : Int)).toNat : Int) = _
 rw [BitVec.toNat_and, Pr a ha, Pr b hb]
 exact IntWalk.i64_in _ (by omega)
theorem iw_xor (x y : Wd) : bits .xor .i64 (x.n : Int) (y.n : Int) = ((x.xor y).n : Int) := i64_xor_nat _ _ (by have := x.h; omega) (by have := y.h; omega)
theorem iw_and (x y : Wd) : bits .and .i64 (x.n : Int) (y.n : Int) = ((x.and y).n : Int) := i64_and_nat _ _ (by have := x.h; omega) (by have := y.h; omega)
theorem iw_or (x y : Wd) : bits .or .i64 (x.n : Int) (y.n : Int) = ((x.or y).n : Int) := i64_or_nat _ _ (by have := x.h; omega) (by have := y.h; omega)
theorem nat_mask32 (a : Nat) : a &&& 4294967295 = a % 4294967296 := Nat.and_two_pow_sub_one_eq_mod a 32
theorem iw_mask (a : Nat) (ha : a < 2 ^ 63) : bits .and .i64 (a : Int) 4294967295 = ((Wd.mk' a).n : Int) := by
 have := i64_and_nat a 4294967295 ha (by omega)
 rw [nat_mask32] at this
 exact this
theorem iw_not (x : Wd) : 4294967295 - (x.n : Int) = (x.not.n : Int) := by
 have := x.h
 show _ = ((4294967295 - x.n : Nat) : Int)
 omega
theorem iw_shl_mask (x : Wd) (c : Nat) (hc : c ≤ 31) : bits .and .i64 ((x.n : Int) * 2 ^ c) 4294967295 = ((x.shl c).n : Int) := by
 have hx := x.h
 have h1 : x.n * 2 ^ c < 2 ^ 63 := by
  have h2 : 2 ^ c ≤ 2 ^ 31 := Nat.pow_le_pow_right (by omega) hc
  calc x.n * 2 ^ c ≤ x.n * 2 ^ 31 := Nat.mul_le_mul_left _ h2
   _ < 2 ^ 63 := by omega
 have := iw_mask (x.n * 2 ^ c) h1
 rw [show (x.n : Int) * 2 ^ c = ((x.n * 2 ^ c : Nat) : Int) by simp]
 rw [this]
 show (((x.n * 2 ^ c) % 4294967296 : Nat) : Int) = (((x.n <<< c) % 4294967296 : Nat) : Int)
 rw [Nat.shiftLeft_eq]
theorem iw_shr (x : Wd) (c : Nat) : (x.n : Int) / 2 ^ c = ((x.shr c).n : Int) := wd_shr_int x c
theorem iw_rot (x : Wd) (s : Nat) (h1 : 2 ≤ s) (h2 : s ≤ 31) : bits .or .i64 ((x.n : Int) / 2 ^ s) (bits .and .i64 (wrap64 ((x.n : Int) * 2 ^ (32 - s))) 4294967295) = ((x.rot s).n : Int) := by
 have hx := x.h
 have hw : wrap64 ((x.n : Int) * 2 ^ (32 - s)) = (x.n : Int) * 2 ^ (32 - s) := by
  refine IntWalk.wrap64_in _ ⟨?_, ?_⟩
  ·have : (0 : Int) ≤ (x.n : Int) * 2 ^ (32 - s) := Int.mul_nonneg (by omega) (Int.pow_nonneg (by omega))
   omega
  ·have h1 : x.n * 2 ^ (32 - s) < 2 ^ 63 := by
    have h2 : 2 ^ (32 - s) ≤ 2 ^ 31 := Nat.pow_le_pow_right (by omega) (by omega)
    calc x.n * 2 ^ (32 - s) ≤ x.n * 2 ^ 31 := Nat.mul_le_mul_left _ h2
     _ < 2 ^ 63 := by omega
   rw [show (x.n : Int) * 2 ^ (32 - s) = ((x.n * 2 ^ (32 - s) : Nat) : Int) by simp]
   omega
 rw [hw, iw_shl_mask x (32 - s) (by omega), iw_shr, iw_or]
 rfl
end Go.Proofs.YtaebeemnipafbaaGreatDoor
