/-
  Proved here: numbers of bytes and bytes of numbers, plain. No program in sight.
-/
import Derived.Test.YtaebeemnipafbaaGreatDoorDig
set_option linter.unusedSimpArgs false
set_option linter.unusedVariables false
namespace Go.Proofs.YtaebeemnipafbaaGreatDoor

/-- the number that bytes are, the first one the greatest -/
def natE (b : List UInt8) : Nat := b.foldl (fun n x => n * 256 + x.toNat) 0
theorem natE_snoc (b : List UInt8) (x : UInt8) : natE (b ++ [x]) = natE b * 256 + x.toNat := by simp [natE]
theorem natE_take (b : List UInt8) (i : Nat) (h : i < b.length) : natE (b.take (i + 1)) = natE (b.take i) * 256 + (b.getD i 0).toNat := by
  rw [List.take_succ_eq_append_getElem h, natE_snoc]
  simp [List.getD_eq_getElem?_getD, h]
theorem natE_lt : ∀ (b : List UInt8), natE b < 256 ^ b.length := by
  intro b
  induction h : b.length generalizing b with
  | zero =>
    rw [List.length_eq_zero_iff.1 h]
    decide
  | succ n ih =>
    obtain ⟨l, x, rfl⟩ : ∃ l x, b = l ++ [x] := ⟨b.dropLast, b.getLast (by intro e; rw [e] at h; cases h), (List.dropLast_concat_getLast _).symm⟩
    have hl : l.length = n := by simpa using h
    have := ih l hl
    have hx := UInt8.toNat_lt x
    rw [natE_snoc, Nat.pow_succ]
    omega
theorem natE_cons (x : UInt8) (r : List UInt8) : natE (x :: r) = x.toNat * 256 ^ r.length + natE r := by
  have key : ∀ (r : List UInt8) (a : Nat), r.foldl (fun n x => n * 256 + x.toNat) a = a * 256 ^ r.length + natE r := by
    intro r
    induction r with
    | nil => intro a; simp [natE]
    | cons y r ih =>
      intro a
      unfold natE
      simp only [List.foldl_cons, List.length_cons]
      rw [ih, ih (0 * 256 + y.toNat), Nat.pow_succ, Nat.add_mul, Nat.zero_mul, Nat.zero_add, Nat.mul_assoc, Nat.mul_comm 256, Nat.add_assoc]
  have := key r x.toNat
  unfold natE at this ⊢
  simpa using this
theorem natE_fits (b : List UInt8) (h8 : b.length ≤ 8) (h : b.length = 8 → (b.getD 0 0).toNat ≤ 127) (i : Nat) (hi : i ≤ b.length) : natE (b.take i) ≤ 9223372036854775807 := by
  by_cases h7 : i ≤ 7
  · have h1 := natE_lt (b.take i)
    have h2 : 256 ^ (b.take i).length ≤ 256 ^ 7 := Nat.pow_le_pow_right (by omega) (by rw [List.length_take]; omega)
    omega
  · have hb : b.length = 8 := by omega
    have ht : b.take i = b := List.take_of_length_le (by omega)
    rw [ht]
    match b, hb, h with
    | x :: r, hb, h =>
      have hx : x.toNat ≤ 127 := by simpa using h hb
      have hr : r.length = 7 := by simpa using hb
      have h1 := natE_lt r
      rw [natE_cons, hr] at *
      omega
/-- the bytes of a number, so many -/
def bigE (size n : Nat) : List UInt8 := (List.range size).map fun i => UInt8.ofNat (n >>> (8 * (size - 1 - i)))
theorem length_bigE (size n : Nat) : (bigE size n).length = size := by simp [bigE]
theorem bigE_at (size n m : Nat) (hm : m < size) : (bigE size n)[m]? = some (UInt8.ofNat (n >>> (8 * (size - 1 - m)))) := by simp [bigE, hm]
theorem shift_next (n k : Nat) : n >>> (8 * (k + 1)) = (n >>> (8 * k)) / 256 := by
  rw [show 8 * (k + 1) = 8 * k + 8 by omega, Nat.shiftRight_add, Nat.shiftRight_eq_div_pow _ 8]
/-- the row while the bytes are put, from the last one on -/
def putL (size n m : Nat) : List Value := List.replicate m (byteV 0) ++ (bytesL (bigE size n)).drop m
theorem putL_start (size n : Nat) : putL size n size = List.replicate size (byteV 0) := by
  unfold putL
  rw [List.drop_of_length_le (by rw [length_bytesL, length_bigE]; exact Nat.le_refl _), List.append_nil]
theorem putL_end (size n : Nat) : putL size n 0 = bytesL (bigE size n) := by simp [putL]
theorem putL_set (size n m : Nat) (hm : m < size) : (putL size n (m + 1)).set m (.int .u8 (((n >>> (8 * (size - 1 - m))) % 256 : Nat) : Int)) = putL size n m := by
  have hb : (bytesL (bigE size n))[m]? = some (.int .u8 (((n >>> (8 * (size - 1 - m))) % 256 : Nat) : Int)) := by
    simp only [bytesL, List.getElem?_map, bigE_at size n m hm, Option.map_some, byteV, UInt8.toNat_ofNat']
  have hl : (bytesL (bigE size n)).length = size := by rw [length_bytesL, length_bigE]
  unfold putL
  rw [List.set_append, if_pos (by simp), List.replicate_succ', List.set_append, if_neg (by simp)]
  simp only [List.length_replicate, Nat.sub_self, List.set_cons_zero]
  rw [List.append_assoc]
  congr 1
  rw [List.drop_eq_getElem_cons (by omega : m < (bytesL (bigE size n)).length)]
  rw [List.getElem?_eq_getElem (by omega)] at hb
  rw [Option.some.inj hb]
  rfl
end Go.Proofs.YtaebeemnipafbaaGreatDoor
