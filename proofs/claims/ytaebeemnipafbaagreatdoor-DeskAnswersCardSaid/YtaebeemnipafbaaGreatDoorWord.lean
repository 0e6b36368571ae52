/-
  Proved here: words of 32 bits: their sums, bits and turns as the walk meets them. No condition on any program.
-/
import Derived.Test.YtaebeemnipafbaaGreatDoorDig
import Derived.IntWalk
import Derived.Laws.DeepBits32
import Derived.Test.YtaebeemnipafbaaGreatDoorSq
set_option linter.unusedSimpArgs false
set_option linter.unusedVariables false
set_option maxRecDepth 100000
set_option maxHeartbeats 200000000
namespace Go.Proofs.YtaebeemnipafbaaGreatDoor
open Go.RowKit
structure Wd where
 n : Nat
 h : n < 4294967296
theorem Wd.ext' {a b : Wd} (h : a.n = b.n) : a = b := by
 cases a; cases b; simp_all
abbrev wV (x : Wd) : Value := .int .u32 (x.n : Int)
def Wd.mk' (n : Nat) : Wd := ⟨n % 4294967296, Nat.mod_lt _ (by omega)⟩
def Wd.add (x y : Wd) : Wd := ⟨(x.n + y.n) % 4294967296, Nat.mod_lt _ (by omega)⟩
def Wd.xor (x y : Wd) : Wd := ⟨x.n ^^^ y.n, Nat.xor_lt_two_pow (n := 32) x.h y.h⟩
def Wd.and (x y : Wd) : Wd := ⟨x.n &&& y.n, Nat.and_lt_two_pow (n := 32) _ y.h⟩
def Wd.or (x y : Wd) : Wd := ⟨x.n ||| y.n, Nat.or_lt_two_pow (n := 32) x.h y.h⟩
def Wd.not (x : Wd) : Wd := ⟨4294967295 - x.n, by omega⟩
def Wd.shr (x : Wd) (c : Nat) : Wd := ⟨x.n >>> c, by rw [Nat.shiftRight_eq_div_pow]; exact Nat.lt_of_le_of_lt (Nat.div_le_self _ _) x.h⟩
def Wd.shl (x : Wd) (c : Nat) : Wd := ⟨(x.n <<< c) % 4294967296, Nat.mod_lt _ (by omega)⟩
def Wd.rot (x : Wd) (s : Nat) : Wd := (x.shr s).or (x.shl (32 - s))
def Wd.turned (x : Wd) (a b c : Nat) : Wd := ((x.rot a).xor (x.rot b)).xor (x.rot c)
section
variable {P : Program} (w : World)
theorem Wd.or_comm (x y : Wd) : x.or y = y.or x := Wd.ext' (Nat.or_comm _ _)
theorem wd_add (x y : Wd) : IntKind.u32.wrap ((x.n : Int) + (y.n : Int)) = ((x.add y).n : Int) := by
 rw [IntKind.wrap_u32]
 show ((x.n : Int) + (y.n : Int)) % 4294967296 = (((x.n + y.n) % 4294967296 : Nat) : Int)
 omega
theorem wd_xor (x y : Wd) : bits .xor .u32 (x.n : Int) (y.n : Int) = ((x.xor y).n : Int) := u32_xor_nat _ _ x.h y.h
theorem wd_and (x y : Wd) : bits .and .u32 (x.n : Int) (y.n : Int) = ((x.and y).n : Int) := u32_and_nat _ _ x.h y.h
theorem wd_or (x y : Wd) : bits .or .u32 (x.n : Int) (y.n : Int) = ((x.or y).n : Int) := u32_or_nat _ _ x.h y.h
theorem nat_not32 (x : Nat) (hx : x < 4294967296) : 4294967295 ^^^ x = 4294967295 - x := by
 have h1 : (BitVec.allOnes 32 ^^^ BitVec.ofNat 32 x).toNat = (~~~ (BitVec.ofNat 32 x)).toNat := by rw [BitVec.allOnes_xor]
 rw [BitVec.toNat_xor, BitVec.toNat_not, BitVec.toNat_allOnes, BitVec.toNat_ofNat, Nat.mod_eq_of_lt (by omega)] at h1
 exact h1
theorem wd_not (x : Wd) : bits .xor .u32 IntKind.u32.max (x.n : Int) = ((x.not).n : Int) := by
 have hm : IntKind.u32.max = ((4294967295 : Nat) : Int) := by decide
 rw [hm, u32_xor_nat _ _ (by omega) x.h, nat_not32 _ x.h]
 rfl
theorem wd_shl_int (x : Wd) (c : Nat) (hc : c ≤ 32) : (x.n : Int) * 2 ^ min c 32 % 4294967296 = ((x.shl c).n : Int) := by
 have h2 : min c 32 = c := by omega
 show _ = (((x.n <<< c) % 4294967296 : Nat) : Int)
 rw [h2, Nat.shiftLeft_eq]
 simp
theorem wd_shr_int (x : Wd) (c : Nat) : (x.n : Int) / 2 ^ c = ((x.shr c).n : Int) := by
 show _ = ((x.n >>> c : Nat) : Int)
 rw [Nat.shiftRight_eq_div_pow]
 simp
theorem rot_count (s : Nat) (h1 : 1 ≤ s) (h2 : s ≤ 31) : bits .and .u64 (IntKind.u64.wrap (-(s : Int))) 31 = ((32 - s : Nat) : Int) := by
 have e1 : IntKind.u64.wrap (-(s : Int)) = ((18446744073709551616 - s : Nat) : Int) := by
  rw [IntKind.wrap_u64]
  omega
 rw [e1]
 have := u64_and_nat (18446744073709551616 - s) 31 (by omega) (by omega)
 rw [nat_mask5] at this
 rw [show (31 : Int) = ((31 : Nat) : Int) from rfl, this]
 congr 1
 omega
end
end Go.Proofs.YtaebeemnipafbaaGreatDoor
