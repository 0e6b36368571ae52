/-
  Proved here: the contract of a hasher's Sum: it tells the digest of all bytes that it took, and stays as it was.
-/
import Derived.Test.YtaebeemnipafbaaGreatDoorWrite
import Derived.Test.YtaebeemnipafbaaGreatDoorSq
set_option linter.unusedSimpArgs false
set_option linter.unusedVariables false
set_option maxRecDepth 100000
set_option maxHeartbeats 200000000
namespace Go.Proofs.YtaebeemnipafbaaGreatDoor
open Go.RowKit
def N6 (b : List UInt8) (j : Nat) : List UInt8 := KP b ++ [128] ++ List.replicate j 0
theorem PX (b : List UInt8) : (KP b).length = b.length % 64 := by
 unfold KP Mt; rw [List.length_drop]; omega
theorem length_tailAt (b : List UInt8) (j : Nat) : (N6 b j).length = b.length % 64 + 1 + j := by
 simp [N6, PX]; omega
theorem tailAt_succ (b : List UInt8) (j : Nat) : N6 b j ++ [0] = N6 b (j + 1) := by
 simp [N6, List.replicate_succ']
def bitsN (b : List UInt8) : Nat := b.length * 8 % 18446744073709551616
def topByte (n j : Nat) : UInt8 := UInt8.ofNat (n >>> (8 * (7 - j)))
theorem topByte_val (m i : Nat) : JC (topByte m i) = .int .u8 ((m : Int) / 2 ^ (8 * (7 - i)) % 256) := by
 unfold JC topByte
 congr 1
 rw [UInt8.toNat_ofNat', Nat.shiftRight_eq_div_pow]
 have : (((2 : Nat) ^ (8 * (7 - i)) : Nat) : Int) = (2 : Int) ^ (8 * (7 - i)) := by simp
 rw [← this]
 omega
def N7 (b : List UInt8) (j : Nat) : List UInt8 := N6 b (K9 b.length) ++ (eight (bitsN b)).take j
theorem Pf (n : Nat) : (eight n).length = 8 := rfl
theorem length_lastAt (b : List UInt8) (j : Nat) (hj : j ≤ 8) : (N7 b j).length = b.length % 64 + 1 + K9 b.length + j := by
 simp [N7, length_tailAt, Pf]; omega
theorem lastAt_succ (b : List UInt8) (j : Nat) (hj : j < 8) : N7 b j ++ [topByte (bitsN b) j] = N7 b (j + 1) := by
 have h : (eight (bitsN b))[j]? = some (topByte (bitsN b) j) := by simp [eight, topByte, hj]
 have hl : j < (eight (bitsN b)).length := by rw [Pf]; exact hj
 unfold N7
 rw [List.take_succ_eq_append_getElem hl, List.append_assoc]
 congr 3
 rw [List.getElem?_eq_getElem hl] at h
 simpa using h.symm
theorem padded_eq (b : List UInt8) : Ms b = b ++ ([128] ++ List.replicate (K9 b.length) 0 ++ eight (bitsN b)) := by
 simp [Ms, bitsN]
theorem lastAt_8 (b : List UInt8) : N7 b 8 = (Ms b).drop (64 * Mt b) := by
 have h : 64 * Mt b ≤ b.length := by unfold Mt; omega
 rw [padded_eq, List.drop_append_of_le_length h]
 rw [N7, List.take_of_length_le (by rw [Pf]; exact Nat.le_refl _)]
 simp [N6, KP]
theorem mid_padded (b : List UInt8) : Mid (Ms b) (Mt b) (stOf b) (N7 b 8) := by
 have h : 64 * Mt b ≤ b.length := by unfold Mt; omega
 refine ⟨?_, ?_, lastAt_8 b⟩
 ·rw [padded_eq, List.length_append]; omega
 ·unfold stOf
  rw [padded_eq, Px _ _ _ _ h]
theorem length_padded (b : List UInt8) : (Ms b).length % 64 = 0 := by
 rw [padded_eq]
 simp only [List.length_append, List.length_cons, List.length_nil, List.length_replicate, Pf, K9]
 omega
theorem mid_end {b : List UInt8} {k : Nat} {s : S8} {r : List UInt8} (h : Mid (Ms b) k s r) (hr : r.length = 0) : s.bytes = (sha b).l := by
 have h1 := h.len
 have h2 := h.le
 have h3 := length_padded b
 have h4 : k = (Ms b).length / 64 := by omega
 show s.bytes = (KW begS (Ms b) ((Ms b).length / 64)).bytes
 rw [h.st, h4]
theorem Pg (s : S8) : s.bytes.length = 32 := rfl
def MY (s : S8) (n : Nat) : Array Value := K5 (s.bytes.take n ++ List.replicate (32 - n) 0)
theorem size_dCells (s : S8) (n : Nat) (h : n ≤ 32) : (MY s n).size = 32 := by
 simp [MY, PK, Pg]; omega
theorem bytes_get (s : S8) (i k : Nat) (hi : i < 8) (hk : k < 4) : s.bytes[4 * i + k]? = some (UInt8.ofNat ((s.get i).n >>> (24 - 8 * k))) := by
 rcases i with _ | _ | _ | _ | _ | _ | _ | _ | i <;> (try omega) <;> (rcases k with _ | _ | _ | _ | k <;> (try omega) <;> rfl)
theorem dCells_set (s : S8) (i k : Nat) (hi : i < 8) (hk : k < 4) : (MY s (4 * i + k)).setIfInBounds (4 * i + k) (JC (UInt8.ofNat ((s.get i).n >>> (24 - 8 * k)))) = MY s (4 * i + k + 1) := by
 have hg := bytes_get s i k hi hk
 have hl : 4 * i + k < s.bytes.length := by rw [Pg]; omega
 rw [List.getElem?_eq_getElem hl, Option.some.injEq] at hg
 have hz : List.replicate (32 - (4 * i + k)) (0 : UInt8) = 0 :: List.replicate (32 - (4 * i + k + 1)) 0 := by
  rw [show 32 - (4 * i + k) = (32 - (4 * i + k + 1)) + 1 by omega, List.replicate_succ]
 have ht : (s.bytes.take (4 * i + k)).length = 4 * i + k := by rw [List.length_take, Pg]; omega
 unfold MY K5 GK
 rw [hz, List.take_succ_eq_append_getElem hl, hg]
 apply Array.ext'
 simp only [Array.toList_setIfInBounds, List.map_append, List.map_cons]
 rw [List.set_append, if_neg (by rw [List.length_map, ht]; omega), List.length_map, ht, Nat.sub_self, List.set_cons_zero]
 simp
theorem dCells_32 (s : S8) : MY s 32 = K5 s.bytes := by
 rw [MY, List.take_of_length_le (by rw [Pg]; exact Nat.le_refl _)]
 simp
def GM : Dig := ⟨List.replicate 32 0, by simp⟩
theorem s8_get (s : S8) (i : Nat) (hi : i < 8) : s.arr[i]? = some (wV (s.get i)) := by
 rcases i with _ | _ | _ | _ | _ | _ | _ | _ | i <;> (try omega) <;> rfl
theorem Gv : GW Tryz.prog 32 (GM.v) 32 32 := by unfold GW; kernel_rfl
theorem el_uint32 : GW Tryz.prog 196 (.int .u32 0) 1 4 := by unfold GW; kernel_rfl
theorem hsum_any (b : List UInt8) (g n c : Nat) (A : Option Addr) (w0 w : World) (L : List Res) (hT : Tb w0) (Ga : St w0 w (Hs g b A n c ++ L)) (hl : b.length ≤ 1152921504606846976) :
  Calls Tryz.prog 102 #[.pointer (some ⟨g, 0, none⟩)] w fun e w' => e = .returned (sha b).v ∧ St w0 w' (Hs g b A n c ++ L) := by
 simp only [Hs, Gc, Gd] at Ga ⊢
 have hn : (KP b).length = n := by
  have := (Ga.sl 1 rfl).1
  rwa [G7, Nat.mul_one] at this
 have hn64 : n < 64 := by rw [← hn]; exact restOf_lt b
 have Hn := Gg hn
 have HT := Gg hT
 clear hn hT
 have Hb : Hid (∃ bl : Nat, bl = b.length) := Lib.hid ⟨_, rfl⟩
 obtain ⟨bl, hbl⟩ := Hb.out
 have Hbl := Gg hbl
 rw [← hbl] at Ga hl
 clear hbl Hb
 go_enter Tryz.func102, Tryz.ntmps102
 go_wp2_with (first | (refine Gk 2 rfl Gv ?_; (try clear Gb); intro g2 W2 Gb; replace Ga := Ga.tr1 Gb) | (refine Gj 12 rfl (by rfl) uz22 rfl (Gy (Ga.get 1 rfl) hArr_8) ?_) | (refine GY (d := some 13) rfl rfl (Ga.nilRow 5 1) rfl (by rfl) (by rfl) uz22 GF rfl (by decide) (by decide) 0 rfl rfl (Ga.sl 2 rfl) (GX) (by omega) ?_; clear Ga; intro A13 c13 W13 Ga; simp only [Ge, Gf, List.nil_append, Nat.zero_add] at Ga) | (refine Gq 15 rfl [_] (Kj GT) rfl uz22 GF rfl (by (simp [Value.cells]; done)) (by decide) (by decide) ?_; (try clear Gb); intro g15 W15 Gb; replace Ga := Ga.tr1 Gb; simp only [List.flatMap_cons, List.flatMap_nil, List.append_nil, Value.cells, List.toList_toArray] at Ga) | (refine GY (d := some 16) rfl rfl Ga rfl (by rfl) (by rfl) uz22 GF rfl (by decide) (by decide) 1 rfl (by rfl) (Ga.sl 0 rfl) (by (simp [Value.oneCell']; done)) (by omega) ?_; clear Ga; intro A16 c16 W16 Ga; simp only [Ge, Gf, List.nil_append, Nat.zero_add] at Ga))
 have Ga : St w0 W16 (.row A16 (n + 1 + 0) c16 5 1 (GK (N6 b 0)) :: .blk g2 32 GM.arr :: .blk g 201 (P3 (stOf b) A n c bl) :: .row A n c 5 1 (GK (KP b)) :: L) := by
  have ht0 : N6 b 0 = KP b ++ [128] := by simp [N6]
  rw [ht0, Hj]
  exact Ga.tail
 clear Gb
 have hz : K9 b.length = (119 - n) % 64 := by rw [K9, ← Hn.out, PX]
 have hlast := lastAt_succ b
 have hl0 : N7 b 0 = N6 b (K9 b.length) := by simp [N7]
 have hbits : bitsN b = bl * 8 := by rw [bitsN, ← Hbl.out]; omega
 have hmid := mid_padded b
 have hlen8 := length_lastAt b 8 (by omega)
 rw [← PX, Hn.out] at hlen8
 have hfin := fun k s r => mid_end (b := b) (k := k) (s := s) (r := r)
 generalize K9 b.length = z at *
 have HF := Gg hfin
 have HL := Gg hlast
 have HL0 := Gg hl0
 have HB := Gg hbits
 have HM := Gg hmid
 have HL8 := Gg hlen8
 have HTS := Gg (tailAt_succ b)
 have HZ := Gg hz
 have hz64 : z < 64 := by omega
 clear hlast hl0 hbits hmid hlen8 hz hfin
 go_loopg [3] z (fun gk s3 wr => ∃ (j : Nat) (A' : Option Addr) (c' : Nat), Hid (j + gk = z) ∧ s3 = .slice A' (n + 1 + j) c' ∧ St w0 wr (.row A' (n + 1 + j) c' 5 1 (GK (N6 b j)) :: .blk g2 32 GM.arr :: .blk g 201 (P3 (stOf b) A n c bl) :: .row A n c 5 1 (GK (KP b)) :: L))
 case atStart => exact ⟨0, A16, c16, Gg (by omega), rfl, Ga⟩
 case round =>
  clear Ga
  obtain ⟨j, A', c', HJ, rfl, Ga⟩ := hrel
  have hz := HZ.out
  have hj := HJ.out
  have hj64 : j < 64 := by omega
  by_cases h0 : 0 < gk
  ·have hr : (((n : Int) + 1 + (j : Int)) % 64 != 56) = true := by rw [bne_iff_ne]; omega
   clear hz hj
   go_wp2_with (first | (refine Gq 22 rfl [_] (Kj GT) rfl uz22 GF rfl (by (simp [Value.cells]; done)) (by decide) (by decide) ?_; (try clear Gb); intro g22 W22 Gb; replace Ga := Ga.tr1 Gb; simp only [List.flatMap_cons, List.flatMap_nil, List.append_nil, Value.cells, List.toList_toArray] at Ga) | (refine GY (d := some 23) rfl rfl Ga rfl (by rfl) (by rfl) uz22 GF rfl (by decide) (by decide) 1 rfl (by rfl) (Ga.sl 0 rfl) (by (simp [Value.oneCell']; done)) (by omega) ?_; clear Ga; intro A23 c23 W23 Ga; simp only [Ge, Gf, List.nil_append, Nat.zero_add] at Ga))
   go_roundg (gk - 1)
   case measure => omega
   case rel =>
    have hj := HJ.out
    refine ⟨j + 1, A23, c23, Gg (by omega), rfl, ?_⟩
    rw [← HTS.out, Hj]
    exact Ga.tail
  ·have hr : (((n : Int) + 1 + (j : Int)) % 64 != 56) = false := by rw [bne_eq_false_iff_eq]; omega
   obtain rfl : j = z := by omega
   rw [← HL0.out] at Ga
   clear hz hj HJ h0 HTS
   go_wp2_with (fail)
   go_loopg [3, 4] 8 (fun gk s3 s4 wr => ∃ (i : Nat) (A' : Option Addr) (c' : Nat), Hid (i + gk = 8) ∧ s3 = .slice A' (n + 1 + j + i) c' ∧ s4 = .int .i64 (7 - (i : Int)) ∧ St w0 wr (.row A' (n + 1 + j + i) c' 5 1 (GK (N7 b i)) :: .blk g2 32 GM.arr :: .blk g 201 (P3 (stOf b) A n c bl) :: .row A n c 5 1 (GK (KP b)) :: L))
   case atStart => exact ⟨0, A', c', Gg (by omega), rfl, by simp, Ga⟩
   case round =>
    clear Ga
    obtain ⟨i, A', c', HI, rfl, rfl, Ga⟩ := hrel
    have hi := HI.out
    have hi8 : i ≤ 8 := by omega
    by_cases h0 : 0 < gk
    ·have h7 : (0 : Int) ≤ 7 - (i : Int) := by omega
     have hi7 : i < 8 := by omega
     clear hi
     go_wp2_with (first | (refine Gj 32 rfl (by rfl) uz3 rfl (Gy (Ga.get 2 rfl) hArr_9) ?_) | (refine Gq 39 rfl [_] (Kj (Gw rfl)) rfl uz22 GF rfl (by (simp [Value.cells]; done)) (by decide) (by decide) ?_; (try clear Gb); intro g39 W39 Gb; replace Ga := Ga.tr1 Gb; simp only [List.flatMap_cons, List.flatMap_nil, List.append_nil, Value.cells, List.toList_toArray] at Ga) | (refine GY (d := some 40) rfl rfl Ga rfl (by rfl) (by rfl) uz22 GF rfl (by decide) (by decide) 1 rfl (by rfl) (Ga.sl 0 rfl) (by (simp [Value.oneCell']; done)) (by omega) ?_; clear Ga; intro A40 c40 W40 Ga; simp only [Ge, Gf, List.nil_append, Nat.zero_add] at Ga))
     go_roundg (gk - 1)
     case measure => omega
     case rel =>
      have hi := HI.out
      refine ⟨i + 1, A40, c40, Gg (by omega), rfl, by congr 1; omega, ?_⟩
      rw [← HL.out i hi7, Hj, HB.out]
      have hb : GK [topByte (bl * 8) i] = [.int .u8 ((bl : Int) * 8 / 2 ^ (8 * (7 - i)) % 256)] := by
       show [JC (topByte (bl * 8) i)] = _
       rw [topByte_val]
       congr 4
      rw [hb]
      exact Ga.tail
    ·obtain rfl : i = 8 := by omega
     have h7 : ¬ (0 : Int) ≤ 7 - ((8 : Nat) : Int) := by omega
     clear hi HI h0 HL
     go_wp2_with (first | (refine Gn 44 rfl (by rfl) uz198 rfl KJ (hArr_range (Ga.get 2 rfl)) (by rfl) ?_) | (refine Gk 5 rfl KJ ?_; (try clear Gb); intro g5 W5 Gb; replace Ga := Ga.tr1 Gb) | ((refine Gr 5 44 Ga rfl (by rfl) (Gw rfl) (S8.one _) KJ (by rfl) 0 rfl (by rfl) ?_; clear Ga; intro WS5 Ga; simp only [Ge, Gf] at Ga)))
     go_loopg [3] (n + 1 + j + 8) (fun gk s3 wr => ∃ (kk : Nat) (s : S8) (r : List UInt8) (A' : Option Addr) (c' : Nat), Hid (Mid (Ms b) kk s r ∧ r.length = gk ∧ gk % 64 = 0) ∧ s3 = .slice A' gk c' ∧ St w0 wr (.blk g5 198 s.arr :: .row A' gk c' 5 1 (GK r) :: .blk g2 32 GM.arr :: .blk g 201 (P3 (stOf b) A n c bl) :: .row A n c 5 1 (GK (KP b)) :: L))
     case atStart =>
      have hz := HZ.out
      exact ⟨Mt b, stOf b, N7 b 8, A', c', Lib.hid ⟨HM.out, HL8.out, by omega⟩, rfl, Ga⟩
     case round =>
      clear Ga Gb h7 hi8 hr HM HL8 HZ HL0 HB
      obtain ⟨kk, s, r, A', c', HR, rfl, Ga⟩ := hrel
      have hr := HR.out.2.2
      have hc' : gk ≤ c' := (Ga.sl 1 rfl).2.1
      by_cases h0 : 0 < gk
      ·have h64 : 64 ≤ gk := by omega
       have h1 : (0 : Int) < (gk : Int) := by omega
       clear hr
       go_wp2_with (first | (go_at_call 128; with_reducible refine (block_any _ _ _ _ _ _ (HT.out.of Ga) (Ga.sl 1 rfl) h64).mono ?_; rintro e W52 ⟨rfl, Gb⟩; replace Ga := Ga.keep Gb) | (refine L_cutO (d := some 49) rfl rfl Ga rfl (by rfl) uz22 GF 1 rfl (by rfl) 64 _ _ (Or.inr ⟨_, _, rfl, rfl⟩) (Or.inl ⟨rfl, rfl, rfl⟩) (Or.inl ⟨rfl, rfl⟩) (by omega) (by omega) (by omega) (by omega) ?_; clear Ga; intro A49 c49 Ga; simp only [Ge, Gf, Nu] at Ga) | (refine Gl 50 rfl (by rfl) uz198 rfl KJ (Ga.get 0 rfl) (by rfl) ?_) | ((refine Gr 5 52 Ga rfl (by rfl) (Gw rfl) (S8.one _) KJ (by rfl) 0 rfl (by rfl) ?_; clear Ga; intro WS3 Ga; simp only [Ge, Gf, Nu] at Ga)))
       go_roundg (gk - 64)
       case measure => omega
       case rel =>
        obtain ⟨hM, hl, _⟩ := HR.out
        refine ⟨kk + 1, Nc s r, r.drop 64, A49, c49, Lib.hid ⟨hM.next (by omega), by rw [List.length_drop, hl], by omega⟩, rfl, ?_⟩
        rw [List.take_of_length_le (by rw [List.length_drop, hl]; exact Nat.le_refl _)] at Ga
        exact Ga
      ·obtain rfl : gk = 0 := by omega
       have hd := HF.out kk s r HR.out.1 HR.out.2.1
       have HD := Gg hd
       clear hr hd HR HF h0
       go_wp2_with ((refine Gl 53 rfl (by rfl) uz198 rfl KJ (Ga.get 0 rfl) (S8.size _) ?_))
       rw [show GM.arr = MY s (4 * 0) from rfl] at Ga
       go_loopg [54] 8 (fun gk s54 wr => ∃ i : Nat, Hid (i + gk = 8) ∧ s54 = .int .i64 (i : Int) ∧ St w0 wr (.blk g5 198 s.arr :: .row A' 0 c' 5 1 (GK r) :: .blk g2 32 (MY s (4 * i)) :: .blk g 201 (P3 (stOf b) A n c bl) :: .row A n c 5 1 (GK (KP b)) :: L))
       case atStart => exact ⟨0, Gg (by omega), rfl, Ga⟩
       case round =>
        clear Ga
        obtain ⟨i, HI, rfl, Ga⟩ := hrel
        obtain ⟨gk_1, hg1⟩ : ∃ q, q = gk := ⟨_, rfl⟩
        subst hg1
        have hi := HI.out
        by_cases hi8 : i < 8
        ·clear hi
         go_wp2_with (refine L_index1 (d := some 57) rfl rfl rfl uz198 uz196 rfl el_uint32 (by rfl) (Gw rfl) hi8 (s8_get s i hi8) ?_)
         go_loopg [58] 4 (fun gk s58 wr => ∃ k : Nat, Hid (k + gk = 4) ∧ s58 = .int .i64 (k : Int) ∧ St w0 wr (.blk g5 198 s.arr :: .row A' 0 c' 5 1 (GK r) :: .blk g2 32 (MY s (4 * i + k)) :: .blk g 201 (P3 (stOf b) A n c bl) :: .row A n c 5 1 (GK (KP b)) :: L))
         case atStart => exact ⟨0, Gg (by omega), rfl, Ga⟩
         case round =>
          clear Ga
          obtain ⟨k, HK, rfl, Ga⟩ := hrel
          have hk := HK.out
          by_cases hk4 : k < 4
          ·clear hk
           have hsz := Gg (size_dCells s (4 * i + k) (by omega))
           have hset := Gg (dCells_set s i k hi8 hk4)
           go_wp2_with (refine Jh rfl rfl Ga rfl (by rfl) (Gw rfl) rfl GF 2 rfl (by rw [hsz.out]; omega) ?_; clear Ga; intro WS11 Ga; simp only [Ge, Gf] at Ga)
           rw [← byteV_shr, hset.out] at Ga
           go_roundg (gk - 1)
           case measure => have hk := HK.out; omega
           case rel =>
            have hk := HK.out
            exact ⟨k + 1, Gg (by omega), by go_num, Ga⟩
          ·obtain rfl : k = 4 := by omega
           go_wp2_with (fail)
           rw [show 4 * i + 4 = 4 * (i + 1) by omega] at Ga
           go_roundg (gk_1 - 1)
           case measure => have hi := HI.out; omega
           case rel =>
            have hi := HI.out
            exact ⟨i + 1, Gg (by omega), by go_num, Ga⟩
        ·obtain rfl : i = 8 := by omega
         have hfin : MY s (4 * 8) = (sha b).arr := by
          rw [show 4 * 8 = 32 from rfl, dCells_32, HD.out]
          rfl
         rw [hfin] at Ga
         clear hi HI HD hfin
         go_wp2_with (first | (refine Gl 74 rfl (by rfl) uz32 rfl Gv (Ga.get 2 rfl) (by rfl) ?_) | ((refine Gr 2 74 Ga rfl (by rfl) (Gw rfl) (Dig.one _) Gv (by rfl) 2 rfl (by rfl) ?_; clear Ga; intro WS1 Ga; simp only [Ge, Gf] at Ga)))
         exact bodyPost_ret (results_cell_row rfl _ _ g2 32 _ (0, 0) _ (by rfl) (Ga.get 2 rfl) uz32 rfl (by rw [Gv.size, Dig.size])) rfl ⟨rfl, by rw [Hbl.out] at Ga; exact Ga.tailN 3⟩
end Go.Proofs.YtaebeemnipafbaaGreatDoor
