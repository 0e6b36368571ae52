/-
  Proved here: the contracts of mac.Mac and mac.Key: the digest of bytes with a key.
-/
import Derived.Test.YtaebeemnipafbaaGreatDoorSha
import Derived.Test.YtaebeemnipafbaaGreatDoorLawB
import Derived.Deep.DeepCutAuto
import Derived.Deep.RegionWith
import Derived.Test.YtaebeemnipafbaaGreatDoorSq
set_option linter.unusedSimpArgs false
set_option linter.unusedVariables false
set_option maxRecDepth 100000
set_option maxHeartbeats 200000000
namespace Go.Proofs.YtaebeemnipafbaaGreatDoor
open Go.RowKit
def kyO (key : List UInt8) : List UInt8 := if 64 < key.length then (sha key).l else key
def ML (k : List UInt8) (x : UInt8) : List UInt8 := (List.range 64).map fun i => k.getD i 0 ^^^ x
def macN (key b : List UInt8) : Dig := sha (ML (kyO key) 92 ++ (sha (ML (kyO key) 54 ++ b)).l)
theorem KK (k : List UInt8) (x : UInt8) : (ML k x).length = 64 := by simp [ML]
def Nx (k : List UInt8) (x : UInt8) (n : Nat) : Array Value := K5 ((ML k x).take n ++ List.replicate (64 - n) 0)
theorem size_pCells (k : List UInt8) (x : UInt8) (n : Nat) (h : n ≤ 64) : (Nx k x n).size = 64 := by
 simp [Nx, PK, KK]; omega
theorem pCells_set (k : List UInt8) (x : UInt8) (n : Nat) (hn : n < 64) : (Nx k x n).setIfInBounds n (JC (k.getD n 0 ^^^ x)) = Nx k x (n + 1) := by
 have hl : n < (ML k x).length := by rw [KK]; exact hn
 have hg : (ML k x)[n] = k.getD n 0 ^^^ x := by simp [ML]
 have hz : List.replicate (64 - n) (0 : UInt8) = 0 :: List.replicate (64 - (n + 1)) 0 := by
  rw [show 64 - n = (64 - (n + 1)) + 1 by omega, List.replicate_succ]
 have ht : ((ML k x).take n).length = n := by rw [List.length_take, KK]; omega
 unfold Nx K5 GK
 rw [hz, List.take_succ_eq_append_getElem hl, hg]
 apply Array.ext'
 simp only [Array.toList_setIfInBounds, List.map_append, List.map_cons]
 rw [List.set_append, if_neg (by rw [List.length_map, ht]; omega), List.length_map, ht, Nat.sub_self, List.set_cons_zero]
 simp
theorem pCells_0 (k : List UInt8) (x : UInt8) : Nx k x 0 = K5 (List.replicate 64 0) := by simp [Nx]
theorem pCells_64 (k : List UInt8) (x : UInt8) : (Nx k x 64).toList = GK (ML k x) := by
 unfold Nx K5
 rw [List.take_of_length_le (by rw [KK]; exact Nat.le_refl _)]
 simp
theorem xor_val (a x : UInt8) : bits .xor .u8 (a.toNat : Int) (x.toNat : Int) = ((a.toNat ^^^ x.toNat : Nat) : Int) :=
 u8_xor_nat _ _ (UInt8.toNat_lt a) (UInt8.toNat_lt x)
theorem xor_byte (a x : UInt8) : Value.int .u8 ((a.toNat ^^^ x.toNat : Nat) : Int) = JC (a ^^^ x) := by
 unfold JC; rw [UInt8.toNat_xor]
theorem el_A64_uint8 : GW Tryz.prog 158 (K5 (List.replicate 64 0) |> Value.agg) 64 64 := by unfold GW; kernel_rfl
theorem mac_any (key b : List UInt8) (K A : Option Addr) (m mc n c : Nat) (w : World) (hT : Tb w) (hk : SlR w K m mc 1 (GK key)) (hx : SlR w A n c 1 (GK b)) (hm : m ≤ 140737488355000) (hn : n ≤ 140737488355000) :
  Calls Tryz.prog 61 #[.slice K m mc, .slice A n c] w fun e w' => e = .returned (macN key b).v ∧ St w w' [] := by
 have Ga := St.refl w
 have HT := Gg hT
 have hkl := hk.1
 have hxl := hx.1
 rw [G7, Nat.mul_one] at hkl hxl
 have Hkl := Gg hkl
 have Hxl := Gg hxl
 clear hT hkl hxl
 go_enter Tryz.func61, Tryz.ntmps61
 go_upto_if 14 with (refine Gk 4 rfl Gv ?_; (try clear Gb); intro g4 W4 Gb; replace Ga := Ga.tr1 Gb)
 clear Gb
 go_cut [0] (fun s0 wx => ∃ (K' : Option Addr) (m' c' : Nat) (kk : List UInt8) (Lk : List Res), Hid (kk = kyO key ∧ kk.length = m') ∧ m' ≤ 64 ∧ s0 = .slice K' m' c' ∧ Hid (Src w Lk K' m' c' 1 (GK kk)) ∧ St w wx (.blk g4 32 GM.arr :: Lk))
 case first =>
  by_cases h64 : 64 < m
  ·have h1 : (64 : Int) < (m : Int) := by omega
   go_wp2_with (first | (go_at_call 80; with_reducible refine (NS _ _ _ _ _ (HT.out.of Ga) (Ga.old (by decide) hk) (by omega)).mono ?_; rintro e W16 ⟨rfl, Gb⟩; replace Ga := Ga.keep Gb) | (refine Gk 5 rfl Gv ?_; (try clear Gb); intro g5 W5 Gb; replace Ga := Ga.tr1 Gb) | ((refine Gr 5 16 Ga rfl (by rfl) (Gw rfl) (Dig.one _) Gv (by rfl) 0 rfl (by rfl) ?_; clear Ga; intro WS3 Ga; simp only [Ge, Gf] at Ga)) | (refine Jx (d := some 17) rfl rfl rfl (by rfl) uz32 GF (Ga.get 0 rfl) (by rfl) (by decide) ?_; intro hs17))
   go_meet
   case rel =>
    refine ⟨_, _, _, (sha key).l, [.blk g5 32 (sha key).arr], Lib.hid ⟨?_, (sha key).h⟩, by omega, rfl, Lib.hid ?_, Ga.pick [1, 0] (by decide)⟩
    ·rw [kyO, if_pos (by rw [Hkl.out]; exact h64)]
    ·rw [← Dig.toList]
     exact Src.blk (i := 0) rfl (Dig.size _) (by decide)
  ·have h1 : (m : Int) ≤ 64 := by omega
   go_wp2_with fail
   go_meet
   case rel =>
    refine ⟨K, m, mc, key, [], Lib.hid ⟨?_, Hkl.out⟩, by omega, rfl, Gg (Src.old (by decide) hk _), Ga⟩
    rw [kyO, if_neg (by rw [Hkl.out]; omega)]
 case rest =>
  clear Ga
  obtain ⟨K', m', c', kk, Lk, HK, hm64, rfl, HS, Ga⟩ := hcut
  go_wp2_with (first | (refine Gk 6 rfl el_A64_uint8 ?_; (try clear Gb); intro g6 W6 Gb; replace Ga := Ga.tr1 Gb) | (refine Gk 7 rfl el_A64_uint8 ?_; (try clear Gb); intro g7 W7 Gb; replace Ga := Ga.tr1 Gb))
  clear Gb
  have Ga : St w W7 (.blk g7 158 (Nx kk 54 0) :: .blk g6 158 (Nx kk 92 0) :: .blk g4 32 GM.arr :: Lk) := by
   rw [pCells_0, pCells_0]
   exact Ga
  go_loopg [18] 64 (fun gk s18 wr => ∃ i : Nat, Hid (i + gk = 64) ∧ s18 = .int .i64 (i : Int) ∧ St w wr (.blk g7 158 (Nx kk 54 i) :: .blk g6 158 (Nx kk 92 i) :: .blk g4 32 GM.arr :: Lk))
  case atStart => exact ⟨0, Gg (by omega), rfl, Ga⟩
  case round =>
   clear Ga
   obtain ⟨i, HI, rfl, Ga⟩ := hrel
   have hi := HI.out
   by_cases h64 : i < 64
   ·clear hi
    have hs5 := Gg (size_pCells kk 54 i (by omega))
    have hs9 := Gg (size_pCells kk 92 i (by omega))
    have hp5 := Gg (pCells_set kk 54 i h64)
    have hp9 := Gg (pCells_set kk 92 i h64)
    by_cases hin : i < m'
    ·have hb := Gg (show i < kk.length by rw [HK.out.2]; exact hin)
     have hx5 : bits .xor .u8 ((kk.getD i 0).toNat : Int) 54 = (((kk.getD i 0).toNat ^^^ 54 : Nat) : Int) := xor_val _ 54
     have hx9 : bits .xor .u8 ((kk.getD i 0).toNat : Int) 92 = (((kk.getD i 0).toNat ^^^ 92 : Nat) : Int) := xor_val _ 92
     have HC := Gg (fun (W : World) (g off : Nat) h => Me (W := W) (g := g) (off := off) (i := i) (l := kk) h hb.out)
     generalize kk.getD i 0 = x at *
     go_wp2_with (first | (refine GB (.load 5 (.tmp 27)) rfl ?_; (refine Gj 28 rfl (by rfl) uz5 rfl (HC.out _ _ _ hr27) ?_)) | (refine GB (.store 5 (.tmp 35) (.tmp 32)) rfl ?_; refine Jh rfl rfl Ga rfl (by rfl) (Gw rfl) rfl GF 1 rfl (by rw [hs9.out]; omega) ?_; clear Ga; intro WS7 Ga; simp only [Ge, Gf] at Ga) | (refine GB (.store 5 (.tmp 36) (.tmp 34)) rfl ?_; refine Jh rfl rfl Ga rfl (by rfl) (Gw rfl) rfl GF 0 rfl (by rw [hs5.out]; omega) ?_; clear Ga; intro WS9 Ga; simp only [Ge, Gf] at Ga) | (refine Gp 27 rfl (by rfl) (by rfl) uz22 GF (HS.out _ (Ga.tailN 3)) (by omega) (by omega) ?_; intro o27 p27 ha27 hr27; ((subst ha27))))
     rw [show (Value.int .u8 ((x.toNat ^^^ 54 : Nat) : Int)) = JC (x ^^^ 54) from xor_byte x 54, hp5.out, show (Value.int .u8 ((x.toNat ^^^ 92 : Nat) : Int)) = JC (x ^^^ 92) from xor_byte x 92, hp9.out] at Ga
     go_roundg (gk - 1)
     case measure => have hi := HI.out; omega
     case rel =>
      have hi := HI.out
      exact ⟨i + 1, Gg (by omega), by go_num, Ga⟩
    ·have hz : kk.getD i 0 = 0 := by
      have := HK.out.2
      rw [List.getD_eq_getElem?_getD, List.getElem?_eq_none (by omega)]
      rfl
     have hx5 : bits .xor .u8 (0 : Int) 54 = 54 := by decide
     have hx9 : bits .xor .u8 (0 : Int) 92 = 92 := by decide
     rw [hz] at hp5 hp9
     clear hz
     go_wp2_with (first | (refine GB (.store 5 (.tmp 35) (.tmp 32)) rfl ?_; refine Jh rfl rfl Ga rfl (by rfl) (Gw rfl) rfl GF 1 rfl (by rw [hs9.out]; omega) ?_; clear Ga; intro WS7 Ga; simp only [Ge, Gf] at Ga) | (refine GB (.store 5 (.tmp 36) (.tmp 34)) rfl ?_; refine Jh rfl rfl Ga rfl (by rfl) (Gw rfl) rfl GF 0 rfl (by rw [hs5.out]; omega) ?_; clear Ga; intro WS9 Ga; simp only [Ge, Gf] at Ga))
     rw [show (Value.int .u8 54) = JC (0 ^^^ 54) from rfl, hp5.out, show (Value.int .u8 92) = JC (0 ^^^ 92) from rfl, hp9.out] at Ga
     go_roundg (gk - 1)
     case measure => have hi := HI.out; omega
     case rel =>
      have hi := HI.out
      exact ⟨i + 1, Gg (by omega), by go_num, Ga⟩
   ·obtain rfl : i = 64 := by omega
    clear hi HI
    go_wp2_with (first | (go_at_call 100; with_reducible refine (new_hs _).mono ?_; rintro e W38 ⟨g10, rfl, Gb⟩; replace Ga := Ga.trans Gb; clear Gb) | (go_at_call_of 101 (Value.slice (some ⟨g7, 0, none⟩) 64 64); with_reducible refine (write_any [] (ML kk 54) g10 0 0 none _ _ _ w _ _ HT.out Ga (by rw [← pCells_64]; exact Src.blk (i := 0) rfl (size_pCells _ _ _ (by decide)) (by decide)) (by rw [KK]; decide) (by decide)).mono ?_; rintro e W41 ⟨rfl, A41, n41, c41, hst'⟩; clear Ga; have Ga := hst'; clear hst') | (go_at_call 101; with_reducible refine (write_any ([] ++ ML kk 54) b g10 _ _ _ A n c w _ _ HT.out Ga (Src.old (by decide) hx _) (by rw [List.nil_append, KK, Hxl.out]; omega) (by omega)).mono ?_; rintro e W44 ⟨rfl, A44, n44, c44, hst'⟩; clear Ga; have Ga := hst'; clear hst') | (go_at_call 102; with_reducible refine (hsum_any ([] ++ ML kk 54 ++ b) g10 _ _ _ w _ _ HT.out Ga (by rw [List.nil_append, List.length_append, KK, Hxl.out]; omega)).mono ?_; rintro e W46 ⟨rfl, hst'⟩; clear Ga; have Ga := hst'; clear hst'; simp only [Hs, List.nil_append, List.cons_append] at Ga) | (refine Jx (d := some 40) rfl rfl rfl (by rfl) uz158 GF (Ga.get 2 rfl) (by rfl) (by decide) ?_; intro hs40) | (refine Gk 11 rfl Gv ?_; (try clear Gb); intro g11 W11 Gb; replace Ga := Ga.tr1 Gb) | ((refine Gr 11 46 Ga rfl (by rfl) (Gw rfl) (Dig.one _) Gv (by rfl) 0 rfl (by rfl) ?_; clear Ga; intro WS3 Ga; simp only [Ge, Gf] at Ga)))
    have hfin : sha (ML kk 92 ++ (sha (ML kk 54 ++ b)).l) = macN key b := by rw [HK.out.1]; rfl
    have Hfin := Gg hfin
    clear hfin
    refine GO [(0, 0), (1, 2), (2, 1), (3, 2), (4, 1)] (by kernel_rfl) (by kernel_rfl) ?_
    replace Ga := Ga.drew
    refine GG rfl rfl ?_; go_wp2_with (refine Jx (d := some 47) rfl rfl rfl (by rfl) uz158 GF (Ga.get 4 rfl) (by rfl) (by decide) ?_; intro hs47)
    refine GA rfl ?_; go_wp2_with (refine Jx (d := some 48) rfl rfl rfl (by rfl) uz32 GF (Ga.get 0 rfl) (by rfl) (by decide) ?_; intro hs48); refine Gh ?_
    refine J6 rfl ?_; go_wp2_with (refine L_appendF (d := some 49) rfl rfl rfl (by rfl) (by rfl) uz22 GF rfl (by decide) (by assumption) (by (assumption)) (by omega) (by omega) (by omega) ?_; (try clear Gb); intro A49 c49 W49 Gb; replace Ga := Ga.trans Gb; simp only [Gc, Gd] at Ga)
    refine GA rfl ?_; go_wp2_with ((go_at_call 80; with_reducible refine (NS (ML kk 92 ++ (sha (ML kk 54 ++ b)).l) _ _ _ _ (HT.out.of Ga) (by rw [Hj, ← pCells_64, ← Dig.toList]; exact Ga.sl 0 rfl) (by decide)).mono ?_; (try clear Gb); rintro e W50 ⟨rfl, Gb⟩; replace Ga := Ga.keep Gb)); refine Gi Gb ?_
    refine J6 rfl ?_; go_wp2_with ((refine Gr 4 50 Ga rfl (by rfl) (Gw rfl) (Dig.one _) Gv (by rfl) 6 rfl (by rfl) ?_; clear Ga; intro WS4 Ga; simp only [Ge, Gf] at Ga))
    refine G5 ?_
    rw [Hfin.out] at Ga
    go_wp2_with fail
    refine Hw rfl rfl rfl (Ga.get 6 rfl) uz32 rfl Gv (by rfl) ?_
    exact ⟨rfl, Ga.forget⟩
end Go.Proofs.YtaebeemnipafbaaGreatDoor
