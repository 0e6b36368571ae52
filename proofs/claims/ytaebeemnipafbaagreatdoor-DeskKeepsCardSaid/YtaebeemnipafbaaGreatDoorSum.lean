/-
  Proved here: the contract of a hasher's Sum: it tells the digest of all bytes that it took, and stays as it was.
-/
import Derived.Test.YtaebeemnipafbaaGreatDoorWrite
set_option maxRecDepth 20000
set_option linter.unusedSimpArgs false
set_option linter.unusedVariables false
namespace Go.Proofs.YtaebeemnipafbaaGreatDoor
open Go.RowKit

/-! ## the end of a text -/
def tailAt (b : List UInt8) (j : Nat) : List UInt8 := restOf b ++ [128] ++ List.replicate j 0
theorem length_restOf (b : List UInt8) : (restOf b).length = b.length % 64 := by
  unfold restOf fullOf; rw [List.length_drop]; omega
theorem length_tailAt (b : List UInt8) (j : Nat) : (tailAt b j).length = b.length % 64 + 1 + j := by
  simp [tailAt, length_restOf]; omega
theorem tailAt_succ (b : List UInt8) (j : Nat) : tailAt b j ++ [0] = tailAt b (j + 1) := by
  simp [tailAt, List.replicate_succ']
def bitsN (b : List UInt8) : Nat := b.length * 8 % 18446744073709551616
def topByte (n j : Nat) : UInt8 := UInt8.ofNat (n >>> (8 * (7 - j)))
theorem topByte_val (m i : Nat) : byteV (topByte m i) = .int .u8 ((m : Int) / 2 ^ (8 * (7 - i)) % 256) := by
  unfold byteV topByte
  congr 1
  rw [UInt8.toNat_ofNat', Nat.shiftRight_eq_div_pow]
  have : (((2 : Nat) ^ (8 * (7 - i)) : Nat) : Int) = (2 : Int) ^ (8 * (7 - i)) := by simp
  rw [← this]
  omega
def lastAt (b : List UInt8) (j : Nat) : List UInt8 := tailAt b (zerosFor b.length) ++ (eight (bitsN b)).take j
theorem length_eight (n : Nat) : (eight n).length = 8 := rfl
theorem length_lastAt (b : List UInt8) (j : Nat) (hj : j ≤ 8) : (lastAt b j).length = b.length % 64 + 1 + zerosFor b.length + j := by
  simp [lastAt, length_tailAt, length_eight]; omega
theorem lastAt_succ (b : List UInt8) (j : Nat) (hj : j < 8) : lastAt b j ++ [topByte (bitsN b) j] = lastAt b (j + 1) := by
  have h : (eight (bitsN b))[j]? = some (topByte (bitsN b) j) := by simp [eight, topByte, hj]
  have hl : j < (eight (bitsN b)).length := by rw [length_eight]; exact hj
  unfold lastAt
  rw [List.take_succ_eq_append_getElem hl, List.append_assoc]
  congr 3
  rw [List.getElem?_eq_getElem hl] at h
  simpa using h.symm
theorem padded_eq (b : List UInt8) : padded b = b ++ ([128] ++ List.replicate (zerosFor b.length) 0 ++ eight (bitsN b)) := by
  simp [padded, bitsN]
theorem lastAt_8 (b : List UInt8) : lastAt b 8 = (padded b).drop (64 * fullOf b) := by
  have h : 64 * fullOf b ≤ b.length := by unfold fullOf; omega
  rw [padded_eq, List.drop_append_of_le_length h]
  rw [lastAt, List.take_of_length_le (by rw [length_eight]; exact Nat.le_refl _)]
  simp [tailAt, restOf]
theorem mid_padded (b : List UInt8) : Mid (padded b) (fullOf b) (stOf b) (lastAt b 8) := by
  have h : 64 * fullOf b ≤ b.length := by unfold fullOf; omega
  refine ⟨?_, ?_, lastAt_8 b⟩
  · rw [padded_eq, List.length_append]; omega
  · unfold stOf
    rw [padded_eq, blocksS_append _ _ _ _ h]
theorem length_padded (b : List UInt8) : (padded b).length % 64 = 0 := by
  rw [padded_eq]
  simp only [List.length_append, List.length_cons, List.length_nil, List.length_replicate, length_eight, zerosFor]
  omega
theorem mid_end {b : List UInt8} {k : Nat} {s : S8} {r : List UInt8} (h : Mid (padded b) k s r) (hr : r.length = 0) : s.bytes = (sha b).l := by
  have h1 := h.len
  have h2 := h.le
  have h3 := length_padded b
  have h4 : k = (padded b).length / 64 := by omega
  show s.bytes = (blocksS begS (padded b) ((padded b).length / 64)).bytes
  rw [h.st, h4]

/-! ## the digest's bytes out of the words -/
theorem length_bytes (s : S8) : s.bytes.length = 32 := rfl
def dCells (s : S8) (n : Nat) : Array Value := bytesV (s.bytes.take n ++ List.replicate (32 - n) 0)
theorem size_dCells (s : S8) (n : Nat) (h : n ≤ 32) : (dCells s n).size = 32 := by
  simp [dCells, size_bytesV, length_bytes]; omega
theorem bytes_get (s : S8) (i k : Nat) (hi : i < 8) (hk : k < 4) : s.bytes[4 * i + k]? = some (UInt8.ofNat ((s.get i).n >>> (24 - 8 * k))) := by
  rcases i with _ | _ | _ | _ | _ | _ | _ | _ | i <;> (try omega) <;> (rcases k with _ | _ | _ | _ | k <;> (try omega) <;> rfl)
theorem dCells_set (s : S8) (i k : Nat) (hi : i < 8) (hk : k < 4) : (dCells s (4 * i + k)).setIfInBounds (4 * i + k) (byteV (UInt8.ofNat ((s.get i).n >>> (24 - 8 * k)))) = dCells s (4 * i + k + 1) := by
  have hg := bytes_get s i k hi hk
  have hl : 4 * i + k < s.bytes.length := by rw [length_bytes]; omega
  rw [List.getElem?_eq_getElem hl, Option.some.injEq] at hg
  have hz : List.replicate (32 - (4 * i + k)) (0 : UInt8) = 0 :: List.replicate (32 - (4 * i + k + 1)) 0 := by
    rw [show 32 - (4 * i + k) = (32 - (4 * i + k + 1)) + 1 by omega, List.replicate_succ]
  have ht : (s.bytes.take (4 * i + k)).length = 4 * i + k := by rw [List.length_take, length_bytes]; omega
  unfold dCells bytesV bytesL
  rw [hz, List.take_succ_eq_append_getElem hl, hg]
  apply Array.ext'
  simp only [Array.toList_setIfInBounds, List.map_append, List.map_cons]
  rw [List.set_append, if_neg (by rw [List.length_map, ht]; omega), List.length_map, ht, Nat.sub_self, List.set_cons_zero]
  simp
theorem dCells_32 (s : S8) : dCells s 32 = bytesV s.bytes := by
  rw [dCells, List.take_of_length_le (by rw [length_bytes]; exact Nat.le_refl _)]
  simp
def zeroD : Dig := ⟨List.replicate 32 0, by simp⟩
theorem s8_get (s : S8) (i : Nat) (hi : i < 8) : s.arr[i]? = some (wV (s.get i)) := by
  rcases i with _ | _ | _ | _ | _ | _ | _ | _ | i <;> (try omega) <;> rfl
theorem el_api_Digest : ElemIs Tryz.prog 32 (zeroD.v) 32 32 := by unfold ElemIs; kernel_rfl
theorem el_uint32 : ElemIs Tryz.prog 196 (.int .u32 0) 1 4 := by unfold ElemIs; kernel_rfl

set_option maxHeartbeats 1000000 in
theorem hsum_any (b : List UInt8) (g n c : Nat) (A : Option Addr) (w0 w : World) (L : List Res) (hT : Tb w0) (hst : St w0 w (Hs g b A n c ++ L)) (hl : b.length ≤ 1152921504606846976) :
    Calls Tryz.prog 102 #[.pointer (some ⟨g, 0, none⟩)] w fun e w' => e = .returned (sha b).v ∧ St w0 w' (Hs g b A n c ++ L) := by
  simp only [Hs, List.cons_append, List.nil_append] at hst ⊢
  have hn : (restOf b).length = n := by
    have := (hst.sl 1 rfl).1
    rwa [length_bytesL, Nat.mul_one] at this
  have hn64 : n < 64 := by rw [← hn]; exact restOf_lt b
  have Hn := Lib.hid hn
  have HT := Lib.hid hT
  clear hn hT
  have Hb : Hid (∃ bl : Nat, bl = b.length) := Lib.hid ⟨_, rfl⟩
  obtain ⟨bl, hbl⟩ := Hb.out
  have Hbl := Lib.hid hbl
  rw [← hbl] at hst hl
  clear hbl Hb
  go_enter Tryz.func102, Tryz.ntmps102
  go_wp2_with (first | (refine L_allocA (d := some 2) rfl rfl rfl el_api_Digest ?_; (try clear hnew); intro g2 W2 hnew; replace hst := hst.trans hnew; simp only [List.cons_append, List.nil_append] at hst) | (refine L_load1 (d := some 12) rfl rfl rfl (by rfl) Tryz.underlying22 rfl (by (exact cell_of (hst.get 1 rfl) hArr_8)) ?_) | (refine L_appendO (d := some 13) rfl rfl (hst.nilRow 5 1) rfl (by rfl) (by rfl) Tryz.underlying22 el_uint8 rfl (by decide) (by decide) 0 rfl rfl (by (exact hst.sl 2 rfl)) (by (exact oneCell_bytes)) (by omega) ?_; clear hst; intro A13 c13 W13 hst; simp only [List.set_cons_zero, List.set_cons_succ, List.nil_append, Nat.zero_add] at hst) | (refine L_buildS (d := some 15) rfl rfl rfl [_] (bs_1 ev_const) rfl Tryz.underlying22 el_uint8 rfl (by (simp [Value.cells]; done)) (by decide) (by decide) ?_; (try clear hnew); intro g15 W15 hnew; replace hst := hst.trans hnew; simp only [List.cons_append, List.nil_append] at hst; simp only [List.flatMap_cons, List.flatMap_nil, List.append_nil, Value.cells, List.toList_toArray] at hst) | (refine L_appendO (d := some 16) rfl rfl hst rfl (by rfl) (by rfl) Tryz.underlying22 el_uint8 rfl (by decide) (by decide) 1 rfl (by (rfl)) (by (exact hst.sl 0 rfl)) (by (simp [Value.oneCell']; done)) (by omega) ?_; clear hst; intro A16 c16 W16 hst; simp only [List.set_cons_zero, List.set_cons_succ, List.nil_append, Nat.zero_add] at hst))
  have hst : St w0 W16 (.row A16 (n + 1 + 0) c16 5 1 (bytesL (tailAt b 0)) :: .blk g2 32 zeroD.arr :: .blk g 201 (hArr (stOf b) A n c bl) :: .row A n c 5 1 (bytesL (restOf b)) :: L) := by
    have ht0 : tailAt b 0 = restOf b ++ [128] := by simp [tailAt]
    rw [ht0, bytesL_append]
    exact hst.tail
  clear hnew
  have hz : zerosFor b.length = (119 - n) % 64 := by rw [zerosFor, ← Hn.out, length_restOf]
  have hlast := lastAt_succ b
  have hl0 : lastAt b 0 = tailAt b (zerosFor b.length) := by simp [lastAt]
  have hbits : bitsN b = bl * 8 := by rw [bitsN, ← Hbl.out]; omega
  have hmid := mid_padded b
  have hlen8 := length_lastAt b 8 (by omega)
  rw [← length_restOf, Hn.out] at hlen8
  have hfin := fun k s r => mid_end (b := b) (k := k) (s := s) (r := r)
  generalize zerosFor b.length = z at *
  have HF := Lib.hid hfin
  have HL := Lib.hid hlast
  have HL0 := Lib.hid hl0
  have HB := Lib.hid hbits
  have HM := Lib.hid hmid
  have HL8 := Lib.hid hlen8
  have HTS := Lib.hid (tailAt_succ b)
  have HZ := Lib.hid hz
  have hz64 : z < 64 := by omega
  clear hlast hl0 hbits hmid hlen8 hz hfin
  go_loopg [3] z (fun gk s3 wr => ∃ (j : Nat) (A' : Option Addr) (c' : Nat), Hid (j + gk = z) ∧ s3 = .slice A' (n + 1 + j) c' ∧ St w0 wr (.row A' (n + 1 + j) c' 5 1 (bytesL (tailAt b j)) :: .blk g2 32 zeroD.arr :: .blk g 201 (hArr (stOf b) A n c bl) :: .row A n c 5 1 (bytesL (restOf b)) :: L))
  case atStart => exact ⟨0, A16, c16, Lib.hid (by omega), rfl, hst⟩
  case round =>
    clear hst
    obtain ⟨j, A', c', HJ, rfl, hst⟩ := hrel
    have hz := HZ.out
    have hj := HJ.out
    have hj64 : j < 64 := by omega
    by_cases h0 : 0 < gk
    · have hr : (((n : Int) + 1 + (j : Int)) % 64 != 56) = true := by rw [bne_iff_ne]; omega
      clear hz hj
      go_wp2_with (first | (refine L_buildS (d := some 22) rfl rfl rfl [_] (bs_1 ev_const) rfl Tryz.underlying22 el_uint8 rfl (by (simp [Value.cells]; done)) (by decide) (by decide) ?_; (try clear hnew); intro g22 W22 hnew; replace hst := hst.trans hnew; simp only [List.cons_append, List.nil_append] at hst; simp only [List.flatMap_cons, List.flatMap_nil, List.append_nil, Value.cells, List.toList_toArray] at hst) | (refine L_appendO (d := some 23) rfl rfl hst rfl (by rfl) (by rfl) Tryz.underlying22 el_uint8 rfl (by decide) (by decide) 1 rfl (by (rfl)) (by (exact hst.sl 0 rfl)) (by (simp [Value.oneCell']; done)) (by omega) ?_; clear hst; intro A23 c23 W23 hst; simp only [List.set_cons_zero, List.set_cons_succ, List.nil_append, Nat.zero_add] at hst))
      go_roundg (gk - 1)
      case measure => omega
      case rel =>
        have hj := HJ.out
        refine ⟨j + 1, A23, c23, Lib.hid (by omega), rfl, ?_⟩
        rw [← HTS.out, bytesL_append]
        exact hst.tail
    · have hr : (((n : Int) + 1 + (j : Int)) % 64 != 56) = false := by rw [bne_eq_false_iff_eq]; omega
      obtain rfl : j = z := by omega
      rw [← HL0.out] at hst
      clear hz hj HJ h0 HTS
      go_wp2_with (fail)
      go_loopg [3, 4] 8 (fun gk s3 s4 wr => ∃ (i : Nat) (A' : Option Addr) (c' : Nat), Hid (i + gk = 8) ∧ s3 = .slice A' (n + 1 + j + i) c' ∧ s4 = .int .i64 (7 - (i : Int)) ∧ St w0 wr (.row A' (n + 1 + j + i) c' 5 1 (bytesL (lastAt b i)) :: .blk g2 32 zeroD.arr :: .blk g 201 (hArr (stOf b) A n c bl) :: .row A n c 5 1 (bytesL (restOf b)) :: L))
      case atStart => exact ⟨0, A', c', Lib.hid (by omega), rfl, by simp, hst⟩
      case round =>
        clear hst
        obtain ⟨i, A', c', HI, rfl, rfl, hst⟩ := hrel
        have hi := HI.out
        have hi8 : i ≤ 8 := by omega
        by_cases h0 : 0 < gk
        · have h7 : (0 : Int) ≤ 7 - (i : Int) := by omega
          have hi7 : i < 8 := by omega
          clear hi
          go_wp2_with (first | (refine L_load1 (d := some 32) rfl rfl rfl (by rfl) Tryz.underlying3 rfl (by (exact cell_of (hst.get 2 rfl) hArr_9)) ?_) | (refine L_buildS (d := some 39) rfl rfl rfl [_] (bs_1 (ev_tmp rfl)) rfl Tryz.underlying22 el_uint8 rfl (by (simp [Value.cells]; done)) (by decide) (by decide) ?_; (try clear hnew); intro g39 W39 hnew; replace hst := hst.trans hnew; simp only [List.cons_append, List.nil_append] at hst; simp only [List.flatMap_cons, List.flatMap_nil, List.append_nil, Value.cells, List.toList_toArray] at hst) | (refine L_appendO (d := some 40) rfl rfl hst rfl (by rfl) (by rfl) Tryz.underlying22 el_uint8 rfl (by decide) (by decide) 1 rfl (by (rfl)) (by (exact hst.sl 0 rfl)) (by (simp [Value.oneCell']; done)) (by omega) ?_; clear hst; intro A40 c40 W40 hst; simp only [List.set_cons_zero, List.set_cons_succ, List.nil_append, Nat.zero_add] at hst))
          go_roundg (gk - 1)
          case measure => omega
          case rel =>
            have hi := HI.out
            refine ⟨i + 1, A40, c40, Lib.hid (by omega), rfl, by congr 1; omega, ?_⟩
            rw [← HL.out i hi7, bytesL_append, HB.out]
            have hb : bytesL [topByte (bl * 8) i] = [.int .u8 ((bl : Int) * 8 / 2 ^ (8 * (7 - i)) % 256)] := by
              show [byteV (topByte (bl * 8) i)] = _
              rw [topByte_val]
              congr 4
            rw [hb]
            exact hst.tail
        · obtain rfl : i = 8 := by omega
          have h7 : ¬ (0 : Int) ≤ 7 - ((8 : Nat) : Int) := by omega
          clear hi HI h0 HL
          go_wp2_with (first | ((refine L_loadM (d := some 44) rfl rfl rfl (by rfl) Tryz.underlying198 rfl el_sha_state (by (exact hArr_range (hst.get 2 rfl))) (by (rfl)) ?_)) | (refine L_allocA (d := some 5) rfl rfl rfl el_sha_state ?_; (try clear hnew); intro g5 W5 hnew; replace hst := hst.trans hnew; simp only [List.cons_append, List.nil_append] at hst) | (refine wpl_at (.store 198 (.tmp 5) (.tmp 44)) rfl ?_; (refine L_storeA rfl rfl hst rfl (by rfl) (ev_tmp rfl) (by (exact S8.one _)) el_sha_state (by (rfl)) 0 rfl (by (rfl)) ?_; clear hst; intro WS5 hst; simp only [List.set_cons_zero, List.set_cons_succ] at hst)))
          go_loopg [3] (n + 1 + j + 8) (fun gk s3 wr => ∃ (kk : Nat) (s : S8) (r : List UInt8) (A' : Option Addr) (c' : Nat), Hid (Mid (padded b) kk s r ∧ r.length = gk ∧ gk % 64 = 0) ∧ s3 = .slice A' gk c' ∧ St w0 wr (.blk g5 198 s.arr :: .row A' gk c' 5 1 (bytesL r) :: .blk g2 32 zeroD.arr :: .blk g 201 (hArr (stOf b) A n c bl) :: .row A n c 5 1 (bytesL (restOf b)) :: L))
          case atStart =>
            have hz := HZ.out
            exact ⟨fullOf b, stOf b, lastAt b 8, A', c', Lib.hid ⟨HM.out, HL8.out, by omega⟩, rfl, hst⟩
          case round =>
            clear hst hnew h7 hi8 hr HM HL8 HZ HL0 HB
            obtain ⟨kk, s, r, A', c', HR, rfl, hst⟩ := hrel
            have hr := HR.out.2.2
            have hc' : gk ≤ c' := (hst.sl 1 rfl).2.1
            by_cases h0 : 0 < gk
            · have h64 : 64 ≤ gk := by omega
              have h1 : (0 : Int) < (gk : Int) := by omega
              clear hr
              go_wp2_with (first | (go_at_call 128; with_reducible refine (block_any _ _ _ _ _ _ (HT.out.of hst) (hst.sl 1 rfl) h64).mono ?_; rintro e W52 ⟨rfl, hnew⟩; replace hst := hst.keep hnew) | ((refine L_cutO (d := some 49) rfl rfl hst rfl (by rfl) Tryz.underlying22 el_uint8 1 rfl (by (rfl)) 64 _ _ (Or.inr ⟨_, _, rfl, rfl⟩) (Or.inl ⟨rfl, rfl, rfl⟩) (Or.inl ⟨rfl, rfl⟩) (by omega) (by omega) (by omega) (by omega) ?_; clear hst; intro A49 c49 hst; simp only [List.set_cons_zero, List.set_cons_succ, bytesL_cut] at hst)) | ((refine L_loadA (d := some 50) rfl rfl rfl (by rfl) Tryz.underlying198 rfl el_sha_state (by (exact hst.get 0 rfl)) (by (rfl)) ?_)) | (refine wpl_at (.store 198 (.tmp 5) (.tmp 52)) rfl ?_; (refine L_storeA rfl rfl hst rfl (by rfl) (ev_tmp rfl) (by (exact S8.one _)) el_sha_state (by (rfl)) 0 rfl (by (rfl)) ?_; clear hst; intro WS3 hst; simp only [List.set_cons_zero, List.set_cons_succ, bytesL_cut] at hst)))
              go_roundg (gk - 64)
              case measure => omega
              case rel =>
                obtain ⟨hM, hl, _⟩ := HR.out
                refine ⟨kk + 1, blockS s r, r.drop 64, A49, c49, Lib.hid ⟨hM.next (by omega), by rw [List.length_drop, hl], by omega⟩, rfl, ?_⟩
                rw [List.take_of_length_le (by rw [List.length_drop, hl]; exact Nat.le_refl _)] at hst
                exact hst
            · obtain rfl : gk = 0 := by omega
              have hd := HF.out kk s r HR.out.1 HR.out.2.1
              have HD := Lib.hid hd
              clear hr hd HR HF h0
              go_wp2_with (((refine L_loadA (d := some 53) rfl rfl rfl (by rfl) Tryz.underlying198 rfl el_sha_state (by (exact hst.get 0 rfl)) (by (exact S8.size _)) ?_)))
              rw [show zeroD.arr = dCells s (4 * 0) from rfl] at hst
              go_loopg [54] 8 (fun gk s54 wr => ∃ i : Nat, Hid (i + gk = 8) ∧ s54 = .int .i64 (i : Int) ∧ St w0 wr (.blk g5 198 s.arr :: .row A' 0 c' 5 1 (bytesL r) :: .blk g2 32 (dCells s (4 * i)) :: .blk g 201 (hArr (stOf b) A n c bl) :: .row A n c 5 1 (bytesL (restOf b)) :: L))
              case atStart => exact ⟨0, Lib.hid (by omega), rfl, hst⟩
              case round =>
                clear hst
                obtain ⟨i, HI, rfl, hst⟩ := hrel
                obtain ⟨gk_1, hg1⟩ : ∃ q, q = gk := ⟨_, rfl⟩
                subst hg1
                have hi := HI.out
                by_cases hi8 : i < 8
                · clear hi
                  go_wp2_with ((refine L_index1 (d := some 57) rfl rfl rfl Tryz.underlying198 Tryz.underlying196 rfl el_uint32 (by rfl) (ev_tmp rfl) hi8 (s8_get s i hi8) ?_))
                  go_loopg [58] 4 (fun gk s58 wr => ∃ k : Nat, Hid (k + gk = 4) ∧ s58 = .int .i64 (k : Int) ∧ St w0 wr (.blk g5 198 s.arr :: .row A' 0 c' 5 1 (bytesL r) :: .blk g2 32 (dCells s (4 * i + k)) :: .blk g 201 (hArr (stOf b) A n c bl) :: .row A n c 5 1 (bytesL (restOf b)) :: L))
                  case atStart => exact ⟨0, Lib.hid (by omega), rfl, hst⟩
                  case round =>
                    clear hst
                    obtain ⟨k, HK, rfl, hst⟩ := hrel
                    have hk := HK.out
                    by_cases hk4 : k < 4
                    · clear hk
                      have hsz := Lib.hid (size_dCells s (4 * i + k) (by omega))
                      have hset := Lib.hid (dCells_set s i k hi8 hk4)
                      go_wp2_with ((refine L_store1 rfl rfl hst rfl (by rfl) (ev_tmp rfl) rfl el_uint8 2 rfl (by rw [hsz.out]; omega) ?_; clear hst; intro WS11 hst; simp only [List.set_cons_zero, List.set_cons_succ] at hst))
                      rw [← byteV_shr, hset.out] at hst
                      go_roundg (gk - 1)
                      case measure => have hk := HK.out; omega
                      case rel =>
                        have hk := HK.out
                        exact ⟨k + 1, Lib.hid (by omega), by go_num, hst⟩
                    · obtain rfl : k = 4 := by omega
                      go_wp2_with (fail)
                      rw [show 4 * i + 4 = 4 * (i + 1) by omega] at hst
                      go_roundg (gk_1 - 1)
                      case measure => have hi := HI.out; omega
                      case rel =>
                        have hi := HI.out
                        exact ⟨i + 1, Lib.hid (by omega), by go_num, hst⟩
                · obtain rfl : i = 8 := by omega
                  have hfin : dCells s (4 * 8) = (sha b).arr := by
                    rw [show 4 * 8 = 32 from rfl, dCells_32, HD.out]
                    rfl
                  rw [hfin] at hst
                  clear hi HI HD hfin
                  go_wp2_with (first | ((refine L_loadA (d := some 74) rfl rfl rfl (by rfl) Tryz.underlying32 rfl el_api_Digest (by (exact hst.get 2 rfl)) (by (rfl)) ?_)) | (refine wpl_at (.store 32 (.tmp 2) (.tmp 74)) rfl ?_; (refine L_storeA rfl rfl hst rfl (by rfl) (ev_tmp rfl) (by (exact Dig.one _)) el_api_Digest (by (rfl)) 2 rfl (by (rfl)) ?_; clear hst; intro WS1 hst; simp only [List.set_cons_zero, List.set_cons_succ] at hst)))
                  exact bodyPost_ret (results_cell_row rfl _ _ g2 32 _ (0, 0) _ (by rfl) (hst.get 2 rfl) Tryz.underlying32 rfl (by rw [el_api_Digest.size, Dig.size])) rfl ⟨rfl, by rw [Hbl.out] at hst; exact hst.tailN 3⟩
end Go.Proofs.YtaebeemnipafbaaGreatDoor
