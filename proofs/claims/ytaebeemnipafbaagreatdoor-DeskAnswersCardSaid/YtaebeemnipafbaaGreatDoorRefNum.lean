/-
  Proved here: the contracts of the reference's numbers of bytes and bytes of numbers. No condition.
-/
import Derived.Test.YtaebeemnipafbaaGreatDoorRefPlain
import Derived.Test.YtaebeemnipafbaaGreatDoorLawE
import Derived.Test.YtaebeemnipafbaaGreatDoorLawD
import Derived.Test.YtaebeemnipafbaaGreatDoorWrite
import Derived.Test.YtaebeemnipafbaaGreatDoorSq
set_option linter.unusedSimpArgs false
set_option linter.unusedVariables false
set_option maxRecDepth 100000
set_option maxHeartbeats 200000000
namespace Go.Proofs.YtaebeemnipafbaaGreatDoor
open Go.RowKit
theorem natE_bd (b : List UInt8) (h : b.length ≤ 6) : natE b ≤ 281474976710655 := by
 have h1 := natE_lt b
 have h2 : 256 ^ b.length ≤ 256 ^ 6 := Nat.pow_le_pow_right (by omega) h
 omega
theorem rnum_any (b : List UInt8) (A : Option Addr) (n c : Nat) (w : World) (hx : SlR w A n c 1 (GK b)) (h1 : 1 ≤ n) (h7 : n ≤ 7) :
  Calls Tryz.prog 77 #[.slice A n c] w fun e w' => e = .returned (.tuple #[.int .i64 (natE b : Int), .bool true]) ∧ St w w' [] := by
 have Ga := St.refl w
 have hl := hx.1
 rw [G7, Nat.mul_one] at hl
 have Hl := Gg hl
 clear hl
 have t1 : ¬ (n : Int) = 0 := by omega
 have t2 : ¬ (8 : Int) < (n : Int) := by omega
 have t3 : ¬ (n : Int) = 8 := by omega
 have t4 : ((n : Int) == 8) = false := by simpa using t3
 go_enter Tryz.func77, Tryz.ntmps77
 go_wp2_with (fail)
 go_loopg [4, 5] n (fun gk s4 s5 wr => ∃ i : Nat, Hid (i + gk = n) ∧ s4 = .int .i64 (natE (b.take i) : Int) ∧ s5 = .int .i64 (i : Int) ∧ St w wr [])
 case atStart => exact ⟨0, Gg (by omega), rfl, rfl, Ga⟩
 case round =>
  clear Ga
  obtain ⟨i, HI, rfl, rfl, Ga⟩ := hrel
  have hi := HI.out
  by_cases hin : i < n
  ·clear hi
   have hb := Gg (show i < b.length by rw [Hl.out]; exact hin)
   have HC := Gg (fun (W : World) (g off : Nat) h => Me (W := W) (g := g) (off := off) (i := i) (l := b) h hb.out)
   have hbd := natE_bd (b.take i) (by rw [List.length_take, Hl.out]; omega)
   have HN := Gg (natE_take b i hb.out)
   have hby := UInt8.toNat_lt (b.getD i 0)
   generalize natE (b.take i) = acc at *
   generalize b.getD i 0 = x at *
   go_wp2_with (first | (refine Gj 36 rfl (by rfl) uz5 rfl (HC.out _ _ _ hr35) ?_) | (refine Gp 35 rfl (by rfl) (by rfl) uz22 GF (Ga.old (by decide) (by assumption)) (by omega) (by omega) ?_; intro o35 p35 ha35 hr35; ((subst ha35))))
   go_roundg (gk - 1)
   case measure => have hi := HI.out; omega
   case rel =>
    have hi := HI.out
    refine ⟨i + 1, Gg (by omega), ?_, by go_num, Ga⟩
    rw [HN.out]
    go_num
  ·obtain rfl : i = n := by omega
   clear hi HI
   have HN := Gg (show b.take i = b from List.take_of_length_le (by rw [Hl.out]; exact Nat.le_refl _))
   rw [HN.out]
   go_wp2_with (fail)
   go_ret2
   exact ⟨rfl, Ga⟩
theorem rput_any (n size : Nat) (w : World) (h1 : 1 ≤ size) (h8 : size ≤ 8) (hn : n ≤ 9223372036854775807) :
  Calls Tryz.prog 93 #[.int .i64 (n : Int), .int .i64 (size : Int)] w fun e w' => ∃ A, e = .returned (.tuple #[.slice A size size, .bool (((n >>> (8 * size) : Nat) : Int) == 0)]) ∧ St w w' [.row A size size 5 1 (GK (Mp size n))] := by
 have Ga := St.refl w
 have t1 : ¬ (size : Int) < 1 := by omega
 have t2 : ¬ (8 : Int) < (size : Int) := by omega
 have t3 : ¬ (n : Int) < 0 := by omega
 go_enter Tryz.func93, Tryz.ntmps93
 go_wp2_with (refine L_makeS (d := some 19) rfl rfl rfl (by rfl) (by rfl) uz22 GF rfl (by omega) (by (simp only [maxLen]; omega)) ?_; (try clear Gb); intro g19 W19 Gb; replace Ga := Ga.tr1 Gb)
 clear Gb
 have Ga : St w W19 [.row g19 size size 5 1 (putL size n size)] := by rw [putL_start]; exact Ga
 go_loopg [0, 7] size (fun gk s0 s7 wr => ∃ m k : Nat, Hid (m = gk) ∧ Hid (m + k = size) ∧ s0 = .int .i64 ((n >>> (8 * k) : Nat) : Int) ∧ s7 = .int .i64 ((m : Int) - 1) ∧ St w wr [.row g19 size size 5 1 (putL size n m)])
 case atStart => exact ⟨size, 0, Lib.hid rfl, Lib.hid rfl, rfl, rfl, Ga⟩
 case round =>
  clear Ga
  obtain ⟨m, k, HG, HK, rfl, rfl, Ga⟩ := hrel
  have hk := HK.out
  have hcb : n >>> (8 * k) ≤ 9223372036854775807 := Nat.le_trans (by rw [Nat.shiftRight_eq_div_pow]; exact Nat.div_le_self _ _) hn
  by_cases hm : 0 < m
  ·obtain ⟨m, rfl⟩ : ∃ m', m = m' + 1 := ⟨m - 1, by omega⟩
   have HS := Gg (putL_set size n m (by omega))
   rw [show size - 1 - m = k by omega] at HS
   have HX := Gg (shift_next n k)
   have e1 : ((m + 1 : Nat) : Int) - 1 = (m : Int) := by omega
   rw [e1]
   have hml : m < size := by omega
   clear hk e1
   generalize n >>> (8 * k) = cur at *
   go_wp2_with (first | (refine MZ (d := some 31) rfl rfl Ga rfl (by rfl) (by rfl) uz22 GF 0 rfl (by rfl) (by omega) (by omega) ?_; intro o31 p31 ha31; ((subst ha31))) | (refine GB (.store 5 (.tmp 31) (.tmp 30)) rfl ?_; (refine Mv rfl rfl Ga rfl (by rfl) (Gw rfl) rfl GF 0 rfl (by (omega)) ?_; clear Ga; intro WS6 Ga; simp only [Ge, Gf] at Ga)))
   go_roundg (gk - 1)
   case measure => have hg := HG.out; omega
   case rel =>
    have hg := HG.out
    have hk := HK.out
    refine ⟨m, k + 1, Gg (by omega), Gg (by omega), by rw [HX.out]; go_num, rfl, ?_⟩
    rw [← HS.out]
    simpa using Ga
  ·obtain rfl : m = 0 := by omega
   obtain rfl : k = size := by omega
   clear hk HG HK
   go_wp2_with (fail)
   rw [putL_end] at Ga
   go_ret2
   exact ⟨_, rfl, Ga⟩
end Go.Proofs.YtaebeemnipafbaaGreatDoor
