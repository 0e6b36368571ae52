/-
  Proved here: numbers of bytes, and back; bytes of numbers, and back. No program in sight.
-/
import Derived.Test.YtnofmbajgjmdfaaRefPlain
namespace Go.Proofs.Ytnofmbajgjmdfaa

theorem bigE_succ (size n : Nat) : bigE (size + 1) n = bigE size (n / 256) ++ [UInt8.ofNat n] := by
  unfold bigE
  rw [List.range_succ, List.map_append]
  congr 1
  · refine List.map_congr_left fun i hi => ?_
    have hi : i < size := List.mem_range.1 hi
    congr 1
    rw [show 8 * (size + 1 - 1 - i) = 8 + 8 * (size - 1 - i) by omega, Nat.shiftRight_add, Nat.shiftRight_eq_div_pow _ 8]
  · simp
theorem natE_bigE : ∀ (size n : Nat), n < 256 ^ size → natE (bigE size n) = n
  | 0, n, h => by
    have : n = 0 := by simpa using h
    subst this
    rfl
  | size + 1, n, h => by
    rw [Nat.pow_succ] at h
    rw [bigE_succ, natE_snoc, natE_bigE size (n / 256) (by omega), UInt8.toNat_ofNat']
    omega
theorem bigE_natE (b : List UInt8) : bigE b.length (natE b) = b := by
  induction h : b.length generalizing b with
  | zero =>
    rw [List.length_eq_zero_iff.1 h]
    rfl
  | succ n ih =>
    obtain ⟨l, x, rfl⟩ : ∃ l x, b = l ++ [x] := ⟨b.dropLast, b.getLast (by intro e; rw [e] at h; cases h), (List.dropLast_concat_getLast _).symm⟩
    have hl : l.length = n := by simpa using h
    have hx := UInt8.toNat_lt x
    rw [bigE_succ, natE_snoc, show (natE l * 256 + x.toNat) / 256 = natE l by omega, ih l hl]
    congr 2
    apply UInt8.toNat_inj.1
    rw [UInt8.toNat_ofNat']
    omega
theorem pow8 (k : Nat) : 2 ^ (8 * k) = 256 ^ k := by rw [Nat.pow_mul]
theorem shr_zero (n k : Nat) (h : n < 256 ^ k) : n >>> (8 * k) = 0 := by
  rw [Nat.shiftRight_eq_div_pow, pow8]
  exact Nat.div_eq_of_lt h
theorem lt_of_shr (n k : Nat) (h : n >>> (8 * k) = 0) : n < 256 ^ k := by
  rw [Nat.shiftRight_eq_div_pow, pow8] at h
  have hp : 0 < 256 ^ k := Nat.pow_pos (by decide)
  exact (Nat.div_eq_zero_iff_lt hp).1 h
theorem bigE_head (n : Nat) (h : n ≤ 9223372036854775807) : ((bigE 8 n).getD 0 0).toNat ≤ 127 := by
  have : (bigE 8 n).getD 0 0 = UInt8.ofNat (n >>> 56) := rfl
  rw [this, UInt8.toNat_ofNat', Nat.shiftRight_eq_div_pow]
  omega
end Go.Proofs.Ytnofmbajgjmdfaa
