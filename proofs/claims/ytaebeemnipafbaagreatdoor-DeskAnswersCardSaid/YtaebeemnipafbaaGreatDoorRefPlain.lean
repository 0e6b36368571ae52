/-
  Proved here: numbers of bytes and bytes of numbers, plain. No program in sight.
-/
import Derived.Test.YtaebeemnipafbaaGreatDoorDig
import Derived.Test.YtaebeemnipafbaaGreatDoorSq
set_option linter.unusedSimpArgs false
set_option linter.unusedVariables false
set_option maxRecDepth 100000
set_option maxHeartbeats 200000000
namespace Go.Proofs.YtaebeemnipafbaaGreatDoor
def natE (b : List UInt8) : Nat := b.foldl (fun n x => n * 256 + x.toNat) 0
theorem natE_snoc (b : List UInt8) (x : UInt8) : natE (b ++ [x]) = natE b * 256 + x.toNat := by simp [natE]
theorem natE_take (b : List UInt8) (i : Nat) (h : i < b.length) : natE (b.take (i + 1)) = natE (b.take i) * 256 + (b.getD i 0).toNat := by
 rw [List.take_succ_eq_append_getElem h, natE_snoc]
 simp [List.getD_eq_getElem?_getD, h]
theorem natE_lt : ∀ (b : List UInt8), natE b < 256 ^ b.length := by
 intro b
 induction h : b.length generalizing b with
 | zero =>
  rw [List.length_eq_zero_iff.1 h]
  decide
 | succ n ih =>
  obtain ⟨l, x, rfl⟩ : ∃ l x, b = l ++ [x] := ⟨b.dropLast, b.getLast (by intro e; rw [e] at h; cases h), (List.dropLast_concat_getLast _).symm⟩
  have hl : l.length = n := by simpa using h
  have := ih l hl
  have hx := UInt8.toNat_lt x
  rw [natE_snoc, Nat.pow_succ]
  omega
def Mp (size n : Nat) : List UInt8 := (List.range size).map fun i => UInt8.ofNat (n >>> (8 * (size - 1 - i)))
theorem length_bigE (size n : Nat) : (Mp size n).length = size := by simp [Mp]
theorem bigE_at (size n m : Nat) (hm : m < size) : (Mp size n)[m]? = some (UInt8.ofNat (n >>> (8 * (size - 1 - m)))) := by simp [Mp, hm]
theorem shift_next (n k : Nat) : n >>> (8 * (k + 1)) = (n >>> (8 * k)) / 256 := by
 rw [show 8 * (k + 1) = 8 * k + 8 by omega, Nat.shiftRight_add, Nat.shiftRight_eq_div_pow _ 8]
def putL (size n m : Nat) : List Value := List.replicate m (JC 0) ++ (GK (Mp size n)).drop m
theorem putL_start (size n : Nat) : putL size n size = List.replicate size (JC 0) := by
 unfold putL
 rw [List.drop_of_length_le (by rw [G7, length_bigE]; exact Nat.le_refl _), List.append_nil]
theorem putL_end (size n : Nat) : putL size n 0 = GK (Mp size n) := by simp [putL]
theorem putL_set (size n m : Nat) (hm : m < size) : (putL size n (m + 1)).set m (.int .u8 (((n >>> (8 * (size - 1 - m))) % 256 : Nat) : Int)) = putL size n m := by
 have hb : (GK (Mp size n))[m]? = some (.int .u8 (((n >>> (8 * (size - 1 - m))) % 256 : Nat) : Int)) := by
  simp only [GK, List.getElem?_map, bigE_at size n m hm, Option.map_some, JC, UInt8.toNat_ofNat']
 have hl : (GK (Mp size n)).length = size := by rw [G7, length_bigE]
 unfold putL
 rw [List.set_append, if_pos (by simp), List.replicate_succ', List.set_append, if_neg (by simp)]
 simp only [List.length_replicate, Nat.sub_self, List.set_cons_zero]
 rw [List.append_assoc]
 congr 1
 rw [List.drop_eq_getElem_cons (by omega : m < (GK (Mp size n)).length)]
 rw [List.getElem?_eq_getElem (by omega)] at hb
 rw [Option.some.inj hb]
 rfl
end Go.Proofs.YtaebeemnipafbaaGreatDoor
