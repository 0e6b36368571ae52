/-
  Proved here: the contracts of mac.Mac and mac.Key: the digest of bytes with a key.
-/
import Derived.Test.YtkkmfkpanpjgbaaDoorSha
import Derived.Test.YtkkmfkpanpjgbaaDoorLawB
import Derived.Deep.DeepCutAuto
import Derived.Deep.RegionWith
set_option maxRecDepth 20000
set_option linter.unusedSimpArgs false
set_option linter.unusedVariables false
namespace Go.Proofs.YtkkmfkpanpjgbaaDoor
open Go.RowKit

/-! ## the plain digest with a key -/
def keyOf (key : List UInt8) : List UInt8 := if 64 < key.length then (sha key).l else key
def padK (k : List UInt8) (x : UInt8) : List UInt8 := (List.range 64).map fun i => k.getD i 0 ^^^ x
def macN (key b : List UInt8) : Dig := sha (padK (keyOf key) 92 ++ (sha (padK (keyOf key) 54 ++ b)).l)
theorem length_padK (k : List UInt8) (x : UInt8) : (padK k x).length = 64 := by simp [padK]
def pCells (k : List UInt8) (x : UInt8) (n : Nat) : Array Value := bytesV ((padK k x).take n ++ List.replicate (64 - n) 0)
theorem size_pCells (k : List UInt8) (x : UInt8) (n : Nat) (h : n ≤ 64) : (pCells k x n).size = 64 := by
  simp [pCells, size_bytesV, length_padK]; omega
theorem pCells_set (k : List UInt8) (x : UInt8) (n : Nat) (hn : n < 64) : (pCells k x n).setIfInBounds n (byteV (k.getD n 0 ^^^ x)) = pCells k x (n + 1) := by
  have hl : n < (padK k x).length := by rw [length_padK]; exact hn
  have hg : (padK k x)[n] = k.getD n 0 ^^^ x := by simp [padK]
  have hz : List.replicate (64 - n) (0 : UInt8) = 0 :: List.replicate (64 - (n + 1)) 0 := by
    rw [show 64 - n = (64 - (n + 1)) + 1 by omega, List.replicate_succ]
  have ht : ((padK k x).take n).length = n := by rw [List.length_take, length_padK]; omega
  unfold pCells bytesV bytesL
  rw [hz, List.take_succ_eq_append_getElem hl, hg]
  apply Array.ext'
  simp only [Array.toList_setIfInBounds, List.map_append, List.map_cons]
  rw [List.set_append, if_neg (by rw [List.length_map, ht]; omega), List.length_map, ht, Nat.sub_self, List.set_cons_zero]
  simp
theorem pCells_0 (k : List UInt8) (x : UInt8) : pCells k x 0 = bytesV (List.replicate 64 0) := by simp [pCells]
theorem pCells_64 (k : List UInt8) (x : UInt8) : (pCells k x 64).toList = bytesL (padK k x) := by
  unfold pCells bytesV
  rw [List.take_of_length_le (by rw [length_padK]; exact Nat.le_refl _)]
  simp
theorem xor_val (a x : UInt8) : bits .xor .u8 (a.toNat : Int) (x.toNat : Int) = ((a.toNat ^^^ x.toNat : Nat) : Int) :=
  u8_xor_nat _ _ (UInt8.toNat_lt a) (UInt8.toNat_lt x)
theorem xor_byte (a x : UInt8) : Value.int .u8 ((a.toNat ^^^ x.toNat : Nat) : Int) = byteV (a ^^^ x) := by
  unfold byteV; rw [UInt8.toNat_xor]


def keyN (seed : Dig) (b : List UInt8) : Dig := macN seed.l b

end Go.Proofs.YtkkmfkpanpjgbaaDoor
