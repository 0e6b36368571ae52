/-
  Proved here: the contracts of mac.Mac and mac.Key: the digest of bytes with a key.
-/
import Derived.Test.YtaebeemnipafbaaGreatDoorSha
import Derived.Test.YtaebeemnipafbaaGreatDoorLawB
import Derived.Deep.DeepCutAuto
import Derived.Deep.RegionWith
set_option maxRecDepth 20000
set_option linter.unusedSimpArgs false
set_option linter.unusedVariables false
namespace Go.Proofs.YtaebeemnipafbaaGreatDoor
open Go.RowKit

/-! ## the plain digest with a key -/
def keyOf (key : List UInt8) : List UInt8 := if 64 < key.length then (sha key).l else key
def padK (k : List UInt8) (x : UInt8) : List UInt8 := (List.range 64).map fun i => k.getD i 0 ^^^ x
def macN (key b : List UInt8) : Dig := sha (padK (keyOf key) 92 ++ (sha (padK (keyOf key) 54 ++ b)).l)
theorem length_padK (k : List UInt8) (x : UInt8) : (padK k x).length = 64 := by simp [padK]
def pCells (k : List UInt8) (x : UInt8) (n : Nat) : Array Value := bytesV ((padK k x).take n ++ List.replicate (64 - n) 0)
theorem size_pCells (k : List UInt8) (x : UInt8) (n : Nat) (h : n ≤ 64) : (pCells k x n).size = 64 := by
  simp [pCells, size_bytesV, length_padK]; omega
theorem pCells_set (k : List UInt8) (x : UInt8) (n : Nat) (hn : n < 64) : (pCells k x n).setIfInBounds n (byteV (k.getD n 0 ^^^ x)) = pCells k x (n + 1) := by
  have hl : n < (padK k x).length := by rw [length_padK]; exact hn
  have hg : (padK k x)[n] = k.getD n 0 ^^^ x := by simp [padK]
  have hz : List.replicate (64 - n) (0 : UInt8) = 0 :: List.replicate (64 - (n + 1)) 0 := by
    rw [show 64 - n = (64 - (n + 1)) + 1 by omega, List.replicate_succ]
  have ht : ((padK k x).take n).length = n := by rw [List.length_take, length_padK]; omega
  unfold pCells bytesV bytesL
  rw [hz, List.take_succ_eq_append_getElem hl, hg]
  apply Array.ext'
  simp only [Array.toList_setIfInBounds, List.map_append, List.map_cons]
  rw [List.set_append, if_neg (by rw [List.length_map, ht]; omega), List.length_map, ht, Nat.sub_self, List.set_cons_zero]
  simp
theorem pCells_0 (k : List UInt8) (x : UInt8) : pCells k x 0 = bytesV (List.replicate 64 0) := by simp [pCells]
theorem pCells_64 (k : List UInt8) (x : UInt8) : (pCells k x 64).toList = bytesL (padK k x) := by
  unfold pCells bytesV
  rw [List.take_of_length_le (by rw [length_padK]; exact Nat.le_refl _)]
  simp
theorem xor_val (a x : UInt8) : bits .xor .u8 (a.toNat : Int) (x.toNat : Int) = ((a.toNat ^^^ x.toNat : Nat) : Int) :=
  u8_xor_nat _ _ (UInt8.toNat_lt a) (UInt8.toNat_lt x)
theorem xor_byte (a x : UInt8) : Value.int .u8 ((a.toNat ^^^ x.toNat : Nat) : Int) = byteV (a ^^^ x) := by
  unfold byteV; rw [UInt8.toNat_xor]
theorem el_A64_uint8 : ElemIs Tryz.prog 158 (bytesV (List.replicate 64 0) |> Value.agg) 64 64 := by unfold ElemIs; kernel_rfl

set_option maxHeartbeats 2000000 in
set_option maxRecDepth 100000 in
theorem mac_any (key b : List UInt8) (K A : Option Addr) (m mc n c : Nat) (w : World) (hT : Tb w) (hk : SlR w K m mc 1 (bytesL key)) (hx : SlR w A n c 1 (bytesL b)) (hm : m ≤ 140737488355000) (hn : n ≤ 140737488355000) :
    Calls Tryz.prog 61 #[.slice K m mc, .slice A n c] w fun e w' => e = .returned (macN key b).v ∧ St w w' [] := by
  have hst := St.refl w
  have HT := Lib.hid hT
  have hkl := hk.1
  have hxl := hx.1
  rw [length_bytesL, Nat.mul_one] at hkl hxl
  have Hkl := Lib.hid hkl
  have Hxl := Lib.hid hxl
  clear hT hkl hxl
  go_enter Tryz.func61, Tryz.ntmps61
  go_upto_if 14 with ((refine L_allocA (d := some 4) rfl rfl rfl el_api_Digest ?_; (try clear hnew); intro g4 W4 hnew; replace hst := hst.trans hnew; simp only [List.cons_append, List.nil_append] at hst))
  clear hnew
  go_cut [0] (fun s0 wx => ∃ (K' : Option Addr) (m' c' : Nat) (kk : List UInt8) (Lk : List Res), Hid (kk = keyOf key ∧ kk.length = m') ∧ m' ≤ 64 ∧ s0 = .slice K' m' c' ∧ Hid (Src w Lk K' m' c' 1 (bytesL kk)) ∧ St w wx (.blk g4 32 zeroD.arr :: Lk))
  case first =>
    by_cases h64 : 64 < m
    · have h1 : (64 : Int) < (m : Int) := by omega
      go_wp2_with (first | (go_at_call 80; with_reducible refine (ssum_any _ _ _ _ _ (HT.out.of hst) (hst.old (by decide) hk) (by omega)).mono ?_; rintro e W16 ⟨rfl, hnew⟩; replace hst := hst.keep hnew) | (refine L_allocA (d := some 5) rfl rfl rfl el_api_Digest ?_; (try clear hnew); intro g5 W5 hnew; replace hst := hst.trans hnew; simp only [List.cons_append, List.nil_append] at hst) | (refine wpl_at (.store 32 (.tmp 5) (.tmp 16)) rfl ?_; (refine L_storeA rfl rfl hst rfl (by rfl) (ev_tmp rfl) (by (exact Dig.one _)) el_api_Digest (by (rfl)) 0 rfl (by (rfl)) ?_; clear hst; intro WS3 hst; simp only [List.set_cons_zero, List.set_cons_succ] at hst)) | (refine L_sliceAll (d := some 17) rfl rfl rfl (by rfl) Tryz.underlying32 el_uint8 (by (exact hst.get 0 rfl)) (by (rfl)) (by decide) ?_; intro hs17))
      go_meet
      case rel =>
        refine ⟨_, _, _, (sha key).l, [.blk g5 32 (sha key).arr], Lib.hid ⟨?_, (sha key).h⟩, by omega, rfl, Lib.hid ?_, hst.pick [1, 0] (by decide)⟩
        · rw [keyOf, if_pos (by rw [Hkl.out]; exact h64)]
        · rw [← Dig.toList]
          exact Src.blk (i := 0) rfl (Dig.size _) (by decide)
    · have h1 : (m : Int) ≤ 64 := by omega
      go_wp2_with fail
      go_meet
      case rel =>
        refine ⟨K, m, mc, key, [], Lib.hid ⟨?_, Hkl.out⟩, by omega, rfl, Lib.hid (Src.old (by decide) hk _), hst⟩
        rw [keyOf, if_neg (by rw [Hkl.out]; omega)]
  case rest =>
    clear hst
    obtain ⟨K', m', c', kk, Lk, HK, hm64, rfl, HS, hst⟩ := hcut
    go_wp2_with (first | (refine L_allocA (d := some 6) rfl rfl rfl el_A64_uint8 ?_; (try clear hnew); intro g6 W6 hnew; replace hst := hst.trans hnew; simp only [List.cons_append, List.nil_append] at hst) | (refine L_allocA (d := some 7) rfl rfl rfl el_A64_uint8 ?_; (try clear hnew); intro g7 W7 hnew; replace hst := hst.trans hnew; simp only [List.cons_append, List.nil_append] at hst))
    clear hnew
    have hst : St w W7 (.blk g7 158 (pCells kk 54 0) :: .blk g6 158 (pCells kk 92 0) :: .blk g4 32 zeroD.arr :: Lk) := by
      rw [pCells_0, pCells_0]
      exact hst
    go_loopg [18] 64 (fun gk s18 wr => ∃ i : Nat, Hid (i + gk = 64) ∧ s18 = .int .i64 (i : Int) ∧ St w wr (.blk g7 158 (pCells kk 54 i) :: .blk g6 158 (pCells kk 92 i) :: .blk g4 32 zeroD.arr :: Lk))
    case atStart => exact ⟨0, Lib.hid (by omega), rfl, hst⟩
    case round =>
      clear hst
      obtain ⟨i, HI, rfl, hst⟩ := hrel
      have hi := HI.out
      by_cases h64 : i < 64
      · clear hi
        have hs5 := Lib.hid (size_pCells kk 54 i (by omega))
        have hs9 := Lib.hid (size_pCells kk 92 i (by omega))
        have hp5 := Lib.hid (pCells_set kk 54 i h64)
        have hp9 := Lib.hid (pCells_set kk 92 i h64)
        by_cases hin : i < m'
        · have hb := Lib.hid (show i < kk.length by rw [HK.out.2]; exact hin)
          have hx5 : bits .xor .u8 ((kk.getD i 0).toNat : Int) 54 = (((kk.getD i 0).toNat ^^^ 54 : Nat) : Int) := xor_val _ 54
          have hx9 : bits .xor .u8 ((kk.getD i 0).toNat : Int) 92 = (((kk.getD i 0).toNat ^^^ 92 : Nat) : Int) := xor_val _ 92
          have HC := Lib.hid (fun (W : World) (g off : Nat) h => byte_of_range (W := W) (g := g) (off := off) (i := i) (l := kk) h hb.out)
          generalize kk.getD i 0 = x at *
          go_wp2_with (first | (refine wpl_at (.load 5 (.tmp 27)) rfl ?_; (refine L_load1 (d := some 28) rfl rfl rfl (by rfl) Tryz.underlying5 rfl (HC.out _ _ _ hr27) ?_)) | (refine wpl_at (.store 5 (.tmp 35) (.tmp 32)) rfl ?_; refine L_store1 rfl rfl hst rfl (by rfl) (ev_tmp rfl) rfl el_uint8 1 rfl (by rw [hs9.out]; omega) ?_; clear hst; intro WS7 hst; simp only [List.set_cons_zero, List.set_cons_succ] at hst) | (refine wpl_at (.store 5 (.tmp 36) (.tmp 34)) rfl ?_; refine L_store1 rfl rfl hst rfl (by rfl) (ev_tmp rfl) rfl el_uint8 0 rfl (by rw [hs5.out]; omega) ?_; clear hst; intro WS9 hst; simp only [List.set_cons_zero, List.set_cons_succ] at hst) | (refine L_idxS (d := some 27) rfl rfl rfl (by rfl) (by rfl) Tryz.underlying22 el_uint8 (by (exact HS.out _ (hst.tailN 3))) (by omega) (by omega) ?_; intro o27 p27 ha27 hr27; ((subst ha27))))
          rw [show (Value.int .u8 ((x.toNat ^^^ 54 : Nat) : Int)) = byteV (x ^^^ 54) from xor_byte x 54, hp5.out, show (Value.int .u8 ((x.toNat ^^^ 92 : Nat) : Int)) = byteV (x ^^^ 92) from xor_byte x 92, hp9.out] at hst
          go_roundg (gk - 1)
          case measure => have hi := HI.out; omega
          case rel =>
            have hi := HI.out
            exact ⟨i + 1, Lib.hid (by omega), by go_num, hst⟩
        · have hz : kk.getD i 0 = 0 := by
            have := HK.out.2
            rw [List.getD_eq_getElem?_getD, List.getElem?_eq_none (by omega)]
            rfl
          have hx5 : bits .xor .u8 (0 : Int) 54 = 54 := by decide
          have hx9 : bits .xor .u8 (0 : Int) 92 = 92 := by decide
          rw [hz] at hp5 hp9
          clear hz
          go_wp2_with (first | (refine wpl_at (.store 5 (.tmp 35) (.tmp 32)) rfl ?_; refine L_store1 rfl rfl hst rfl (by rfl) (ev_tmp rfl) rfl el_uint8 1 rfl (by rw [hs9.out]; omega) ?_; clear hst; intro WS7 hst; simp only [List.set_cons_zero, List.set_cons_succ] at hst) | (refine wpl_at (.store 5 (.tmp 36) (.tmp 34)) rfl ?_; refine L_store1 rfl rfl hst rfl (by rfl) (ev_tmp rfl) rfl el_uint8 0 rfl (by rw [hs5.out]; omega) ?_; clear hst; intro WS9 hst; simp only [List.set_cons_zero, List.set_cons_succ] at hst))
          rw [show (Value.int .u8 54) = byteV (0 ^^^ 54) from rfl, hp5.out, show (Value.int .u8 92) = byteV (0 ^^^ 92) from rfl, hp9.out] at hst
          go_roundg (gk - 1)
          case measure => have hi := HI.out; omega
          case rel =>
            have hi := HI.out
            exact ⟨i + 1, Lib.hid (by omega), by go_num, hst⟩
      · obtain rfl : i = 64 := by omega
        clear hi HI
        go_wp2_with (first | (go_at_call 100; with_reducible refine (new_hs _).mono ?_; rintro e W38 ⟨g10, rfl, hnew⟩; replace hst := hst.trans hnew; clear hnew) | (go_at_call_of 101 (Value.slice (some ⟨g7, 0, none⟩) 64 64); with_reducible refine (write_any [] (padK kk 54) g10 0 0 none _ _ _ w _ _ HT.out hst (by rw [← pCells_64]; exact Src.blk (i := 0) rfl (size_pCells _ _ _ (by decide)) (by decide)) (by rw [length_padK]; decide) (by decide)).mono ?_; rintro e W41 ⟨rfl, A41, n41, c41, hst'⟩; clear hst; have hst := hst'; clear hst') | (go_at_call 101; with_reducible refine (write_any ([] ++ padK kk 54) b g10 _ _ _ A n c w _ _ HT.out hst (Src.old (by decide) hx _) (by rw [List.nil_append, length_padK, Hxl.out]; omega) (by omega)).mono ?_; rintro e W44 ⟨rfl, A44, n44, c44, hst'⟩; clear hst; have hst := hst'; clear hst') | (go_at_call 102; with_reducible refine (hsum_any ([] ++ padK kk 54 ++ b) g10 _ _ _ w _ _ HT.out hst (by rw [List.nil_append, List.length_append, length_padK, Hxl.out]; omega)).mono ?_; rintro e W46 ⟨rfl, hst'⟩; clear hst; have hst := hst'; clear hst'; simp only [Hs, List.nil_append, List.cons_append] at hst) | (refine L_sliceAll (d := some 40) rfl rfl rfl (by rfl) Tryz.underlying158 el_uint8 (by (exact hst.get 2 rfl)) (by (rfl)) (by decide) ?_; intro hs40) | (refine L_allocA (d := some 11) rfl rfl rfl el_api_Digest ?_; (try clear hnew); intro g11 W11 hnew; replace hst := hst.trans hnew; simp only [List.cons_append, List.nil_append] at hst) | (refine wpl_at (.store 32 (.tmp 11) (.tmp 46)) rfl ?_; (refine L_storeA rfl rfl hst rfl (by rfl) (ev_tmp rfl) (by (exact Dig.one _)) el_api_Digest (by (rfl)) 0 rfl (by (rfl)) ?_; clear hst; intro WS3 hst; simp only [List.set_cons_zero, List.set_cons_succ] at hst)))
        have hfin : sha (padK kk 92 ++ (sha (padK kk 54 ++ b)).l) = macN key b := by rw [HK.out.1]; rfl
        have Hfin := Lib.hid hfin
        clear hfin
        refine wp_region_idx [(0, 0), (1, 2), (2, 1), (3, 2), (4, 1)] (by kernel_rfl) (by kernel_rfl) ?_
        replace hst := hst.drew
        refine idx_q rfl rfl ?_; go_wp2_with ((refine L_sliceAll (d := some 47) rfl rfl rfl (by rfl) Tryz.underlying158 el_uint8 (by (exact hst.get 4 rfl)) (by (rfl)) (by decide) ?_; intro hs47))
        refine idx_g rfl ?_; go_wp2_with ((refine L_sliceAll (d := some 48) rfl rfl rfl (by rfl) Tryz.underlying32 el_uint8 (by (exact hst.get 0 rfl)) (by (rfl)) (by decide) ?_; intro hs48)); refine ⟨by (exact Below.refl _ _), ?_⟩
        refine idx_e rfl ?_; go_wp2_with ((refine L_appendF (d := some 49) rfl rfl rfl (by rfl) (by rfl) Tryz.underlying22 el_uint8 rfl (by decide) (by assumption) (by (assumption)) (by omega) (by omega) (by omega) ?_; (try clear hnew); intro A49 c49 W49 hnew; replace hst := hst.trans hnew; simp only [List.cons_append, List.nil_append] at hst))
        refine idx_g rfl ?_; go_wp2_with ((go_at_call 80; with_reducible refine (ssum_any (padK kk 92 ++ (sha (padK kk 54 ++ b)).l) _ _ _ _ (HT.out.of hst) (by rw [bytesL_append, ← pCells_64, ← Dig.toList]; exact hst.sl 0 rfl) (by decide)).mono ?_; (try clear hnew); rintro e W50 ⟨rfl, hnew⟩; replace hst := hst.keep hnew)); refine ⟨by (exact hnew.below), ?_⟩
        refine idx_e rfl ?_; go_wp2_with ((refine wpl_at (.store 32 (.tmp 4) (.tmp 50)) rfl ?_; (refine L_storeA rfl rfl hst rfl (by rfl) (ev_tmp rfl) (by (exact Dig.one _)) el_api_Digest (by (rfl)) 6 rfl (by (rfl)) ?_; clear hst; intro WS4 hst; simp only [List.set_cons_zero, List.set_cons_succ] at hst)))
        refine idx_nil ?_
        rw [Hfin.out] at hst
        go_wp2_with fail
        refine bp_cell rfl rfl rfl (hst.get 6 rfl) Tryz.underlying32 rfl el_api_Digest (by (rfl)) ?_
        exact ⟨rfl, hst.forget⟩

def keyN (seed : Dig) (b : List UInt8) : Dig := macN seed.l b

end Go.Proofs.YtaebeemnipafbaaGreatDoor
