/-
  Proved here: numbers of bytes and bytes of numbers, plain. No program in sight.
-/
import Derived.Test.YtaebeemnipafbaaGreatDoorDig
set_option linter.unusedSimpArgs false
set_option linter.unusedVariables false
namespace Go.Proofs.YtaebeemnipafbaaGreatDoor

/-- the number that bytes are, the first one the greatest -/
def natE (b : List UInt8) : Nat := b.foldl (fun n x => n * 256 + x.toNat) 0
theorem natE_snoc (b : List UInt8) (x : UInt8) : natE (b ++ [x]) = natE b * 256 + x.toNat := by simp [natE]
theorem natE_lt : ∀ (b : List UInt8), natE b < 256 ^ b.length := by
  intro b
  induction h : b.length generalizing b with
  | zero =>
    rw [List.length_eq_zero_iff.1 h]
    decide
  | succ n ih =>
    obtain ⟨l, x, rfl⟩ : ∃ l x, b = l ++ [x] := ⟨b.dropLast, b.getLast (by intro e; rw [e] at h; cases h), (List.dropLast_concat_getLast _).symm⟩
    have hl : l.length = n := by simpa using h
    have := ih l hl
    have hx := UInt8.toNat_lt x
    rw [natE_snoc, Nat.pow_succ]
    omega
/-- the bytes of a number, so many -/
def bigE (size n : Nat) : List UInt8 := (List.range size).map fun i => UInt8.ofNat (n >>> (8 * (size - 1 - i)))
theorem length_bigE (size n : Nat) : (bigE size n).length = size := by simp [bigE]
theorem bigE_at (size n m : Nat) (hm : m < size) : (bigE size n)[m]? = some (UInt8.ofNat (n >>> (8 * (size - 1 - m)))) := by simp [bigE, hm]
/-- the row while the bytes are put, from the last one on -/
def putL (size n m : Nat) : List Value := List.replicate m (byteV 0) ++ (bytesL (bigE size n)).drop m
theorem putL_start (size n : Nat) : putL size n size = List.replicate size (byteV 0) := by
  unfold putL
  rw [List.drop_of_length_le (by rw [length_bytesL, length_bigE]; exact Nat.le_refl _), List.append_nil]
theorem putL_end (size n : Nat) : putL size n 0 = bytesL (bigE size n) := by simp [putL]
theorem putL_set (size n m : Nat) (hm : m < size) : (putL size n (m + 1)).set m (.int .u8 (((n >>> (8 * (size - 1 - m))) % 256 : Nat) : Int)) = putL size n m := by
  have hb : (bytesL (bigE size n))[m]? = some (.int .u8 (((n >>> (8 * (size - 1 - m))) % 256 : Nat) : Int)) := by
    simp only [bytesL, List.getElem?_map, bigE_at size n m hm, Option.map_some, byteV, UInt8.toNat_ofNat']
  have hl : (bytesL (bigE size n)).length = size := by rw [length_bytesL, length_bigE]
  unfold putL
  rw [List.set_append, if_pos (by simp), List.replicate_succ', List.set_append, if_neg (by simp)]
  simp only [List.length_replicate, Nat.sub_self, List.set_cons_zero]
  rw [List.append_assoc]
  congr 1
  rw [List.drop_eq_getElem_cons (by omega : m < (bytesL (bigE size n)).length)]
  rw [List.getElem?_eq_getElem (by omega)] at hb
  rw [Option.some.inj hb]
  rfl
end Go.Proofs.YtaebeemnipafbaaGreatDoor
