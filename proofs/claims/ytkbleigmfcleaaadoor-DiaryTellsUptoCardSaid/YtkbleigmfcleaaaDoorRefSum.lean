/-
  Proved here: the contract of the reference's digest of bytes: it is the plain one. Condition: bytes of a length that a slice may have.
-/
import Derived.Test.YtkbleigmfcleaaaDoorRefBlock
set_option maxRecDepth 20000
set_option linter.unusedSimpArgs false
set_option linter.unusedVariables false
namespace Go.Proofs.YtkbleigmfcleaaaDoor
open Go.RowKit

theorem bigE_eight (n : Nat) : bigE 8 n = eight n := rfl
/-- the text with so many zeros behind it -/
def padAt (b : List UInt8) (z : Nat) : List UInt8 := b ++ [128] ++ List.replicate z 0
theorem padAt_succ (b : List UInt8) (z : Nat) : padAt b z ++ [0] = padAt b (z + 1) := by simp [padAt, List.replicate_succ']
theorem padAt_0 (b : List UInt8) : padAt b 0 = b ++ [128] := by simp [padAt]
theorem padAt_end (b : List UInt8) (h : b.length * 8 < 18446744073709551616) : padAt b (zerosFor b.length) ++ bigE 8 (b.length * 8) = padded b := by
  rw [bigE_eight, padAt, padded, Nat.mod_eq_of_lt h]
theorem length_padAt (b : List UInt8) (z : Nat) : (padAt b z).length = b.length + 1 + z := by simp [padAt]; omega
theorem dCells_next (s : S8) (i : Nat) (hi : i < 32) : (dCells s i).setIfInBounds i (byteV (UInt8.ofNat ((s.get (i / 4)).n >>> (24 - 8 * (i % 4))))) = dCells s (i + 1) := by
  have := dCells_set s (i / 4) (i % 4) (by omega) (by omega)
  rw [show 4 * (i / 4) + i % 4 = i by omega] at this
  exact this

set_option maxHeartbeats 2000000 in
set_option maxRecDepth 100000 in
theorem rsum_any (b : List UInt8) (A : Option Addr) (n c : Nat) (w : World) (hx : SlR w A n c 1 (bytesL b)) (hn : n ≤ 140737488355000) :
    Calls Tryd.prog 38 #[.slice A n c] w fun e w' => e = .returned (sha b).v ∧ St w w' [] := by
  have hst := St.refl w
  have hl := hx.1
  rw [length_bytesL, Nat.mul_one] at hl
  obtain ⟨z, K, P, hz, hK, HE, HP, HF⟩ : ∃ (z K : Nat) (P : List UInt8), z = (119 - n % 64) % 64 ∧ n + 1 + z + 8 = 64 * K ∧ Hid (padAt b z ++ bigE 8 (n * 8) = P) ∧ Hid (P.length = 64 * K) ∧ Hid ((blocksS begS P K).bytes = (sha b).l) := by
    have he := padAt_end b (by omega)
    have hpl := length_padded b
    have hpn : (padded b).length = n + 1 + zerosFor b.length + 8 := by rw [← he, List.length_append, length_padAt, length_bigE, hl]
    rw [hl] at he hpn
    exact ⟨zerosFor n, (padded b).length / 64, padded b, rfl, by omega, Lib.hid he, Lib.hid (by omega), Lib.hid rfl⟩
  have Hl := Lib.hid hl
  have Hz := Lib.hid hz
  have H0 := Lib.hid (show bytesL b ++ [Value.int .u8 128] = bytesL (padAt b 0) by rw [padAt_0, bytesL_append]; rfl)
  have HS := Lib.hid (fun z => show bytesL (padAt b z) ++ [Value.int .u8 0] = bytesL (padAt b (z + 1)) by rw [← padAt_succ, bytesL_append]; rfl)
  have hz64 : z < 64 := by omega
  have HK := Lib.hid hK
  have HPut : ∀ w, Calls Tryd.prog 62 #[.int .i64 ((n : Int) * 8), .int .i64 8] w fun e w' => ∃ A, e = .returned (.tuple #[.slice A 8 8, .bool ((((n * 8) >>> 64 : Nat) : Int) == 0)]) ∧ St w w' [.row A 8 8 5 1 (bytesL (bigE 8 (n * 8)))] := fun w => by
    have := rput_any (n * 8) 8 w (by decide) (by decide) (by omega)
    rw [show ((n * 8 : Nat) : Int) = (n : Int) * 8 by omega] at this
    exact this
  have HPut := Lib.hid HPut
  rename_i HPut'
  clear hz hl hK HPut'
  go_enter Tryd.func38, Tryd.ntmps38
  go_wp2_with (first
    | (refine L_allocA (d := some 2) rfl rfl rfl el_api_Digest ?_; (try clear hnew); intro g2 W2 hnew; replace hst := hst.trans hnew; simp only [List.cons_append, List.nil_append] at hst)
    | (refine L_buildS (d := some 11) rfl rfl rfl [] (bs_0 ) rfl Tryd.underlying49 el_uint8 rfl (by first | (simp [Value.cells]; done) | (simp [Value.cells, Dig.size]; done)) (by decide) (by decide) ?_; (try clear hnew); intro g11 W11 hnew; replace hst := hst.trans hnew; simp only [List.cons_append, List.nil_append] at hst; simp only [List.flatMap_cons, List.flatMap_nil, List.append_nil, Value.cells, List.toList_toArray] at hst)
    | (refine L_appendO (d := some 13) rfl rfl hst rfl (by rfl) (by rfl) Tryd.underlying49 el_uint8 rfl (by decide) (by decide) 0 rfl (by first | rfl | omega) (by first | exact hst.old (by decide) hx | exact hst.sl 0 rfl | exact hst.sl 1 rfl | exact hst.sl 2 rfl | assumption | exact hst.old (by decide) (by assumption)) (by first | exact oneCell_bytes | (simp [Value.oneCell']; done)) (by omega) ?_; clear hst; intro A13 c13 W13 hst; simp only [List.set_cons_zero, List.set_cons_succ, List.nil_append, Nat.zero_add] at hst)
    | (refine L_appendO (d := some 13) rfl rfl hst rfl (by rfl) (by rfl) Tryd.underlying49 el_uint8 rfl (by decide) (by decide) 1 rfl (by first | rfl | omega) (by first | exact hst.old (by decide) hx | exact hst.sl 0 rfl | exact hst.sl 1 rfl | exact hst.sl 2 rfl | assumption | exact hst.old (by decide) (by assumption)) (by first | exact oneCell_bytes | (simp [Value.oneCell']; done)) (by omega) ?_; clear hst; intro A13 c13 W13 hst; simp only [List.set_cons_zero, List.set_cons_succ, List.nil_append, Nat.zero_add] at hst)
    | (refine L_appendO (d := some 13) rfl rfl hst rfl (by rfl) (by rfl) Tryd.underlying49 el_uint8 rfl (by decide) (by decide) 2 rfl (by first | rfl | omega) (by first | exact hst.old (by decide) hx | exact hst.sl 0 rfl | exact hst.sl 1 rfl | exact hst.sl 2 rfl | assumption | exact hst.old (by decide) (by assumption)) (by first | exact oneCell_bytes | (simp [Value.oneCell']; done)) (by omega) ?_; clear hst; intro A13 c13 W13 hst; simp only [List.set_cons_zero, List.set_cons_succ, List.nil_append, Nat.zero_add] at hst)
    | (refine L_appendF (d := some 13) rfl rfl rfl (by rfl) (by rfl) Tryd.underlying49 el_uint8 rfl (by decide) (by assumption) (by first | assumption | exact hst.old (by decide) hx | exact hst.sl 0 rfl | exact hst.sl 1 rfl | exact hst.sl 2 rfl | assumption | exact hst.old (by decide) (by assumption)) (by omega) (by omega) (by omega) ?_; (try clear hnew); intro A13 c13 W13 hnew; replace hst := hst.trans hnew; simp only [List.cons_append, List.nil_append] at hst)
    | (refine L_buildS (d := some 14) rfl rfl rfl [_] (bs_1 ev_const) rfl Tryd.underlying49 el_uint8 rfl (by first | (simp [Value.cells]; done) | (simp [Value.cells, Dig.size]; done)) (by decide) (by decide) ?_; (try clear hnew); intro g14 W14 hnew; replace hst := hst.trans hnew; simp only [List.cons_append, List.nil_append] at hst; simp only [List.flatMap_cons, List.flatMap_nil, List.append_nil, Value.cells, List.toList_toArray] at hst)
    | (refine L_appendO (d := some 15) rfl rfl hst rfl (by rfl) (by rfl) Tryd.underlying49 el_uint8 rfl (by decide) (by decide) 0 rfl (by first | rfl | omega) (by first | exact hst.old (by decide) hx | exact hst.sl 0 rfl | exact hst.sl 1 rfl | exact hst.sl 2 rfl | assumption | exact hst.old (by decide) (by assumption)) (by first | exact oneCell_bytes | (simp [Value.oneCell']; done)) (by omega) ?_; clear hst; intro A15 c15 W15 hst; simp only [List.set_cons_zero, List.set_cons_succ, List.nil_append, Nat.zero_add] at hst)
    | (refine L_appendO (d := some 15) rfl rfl hst rfl (by rfl) (by rfl) Tryd.underlying49 el_uint8 rfl (by decide) (by decide) 1 rfl (by first | rfl | omega) (by first | exact hst.old (by decide) hx | exact hst.sl 0 rfl | exact hst.sl 1 rfl | exact hst.sl 2 rfl | assumption | exact hst.old (by decide) (by assumption)) (by first | exact oneCell_bytes | (simp [Value.oneCell']; done)) (by omega) ?_; clear hst; intro A15 c15 W15 hst; simp only [List.set_cons_zero, List.set_cons_succ, List.nil_append, Nat.zero_add] at hst)
    | (refine L_appendO (d := some 15) rfl rfl hst rfl (by rfl) (by rfl) Tryd.underlying49 el_uint8 rfl (by decide) (by decide) 2 rfl (by first | rfl | omega) (by first | exact hst.old (by decide) hx | exact hst.sl 0 rfl | exact hst.sl 1 rfl | exact hst.sl 2 rfl | assumption | exact hst.old (by decide) (by assumption)) (by first | exact oneCell_bytes | (simp [Value.oneCell']; done)) (by omega) ?_; clear hst; intro A15 c15 W15 hst; simp only [List.set_cons_zero, List.set_cons_succ, List.nil_append, Nat.zero_add] at hst)
    | (refine L_appendF (d := some 15) rfl rfl rfl (by rfl) (by rfl) Tryd.underlying49 el_uint8 rfl (by decide) (by assumption) (by first | assumption | exact hst.old (by decide) hx | exact hst.sl 0 rfl | exact hst.sl 1 rfl | exact hst.sl 2 rfl | assumption | exact hst.old (by decide) (by assumption)) (by omega) (by omega) (by omega) ?_; (try clear hnew); intro A15 c15 W15 hnew; replace hst := hst.trans hnew; simp only [List.cons_append, List.nil_append] at hst)
    | fail)
  have hst : St w W15 [.row A15 (n + 1 + 0) c15 5 1 (bytesL (padAt b 0)), .blk g2 23 zeroD.arr] := by
    rw [← H0.out]
    exact hst.pick [1, 2] (by decide)
  clear hnew
  go_loopg [3] z (fun gk s3 wr => ∃ (j : Nat) (A' : Option Addr) (c' : Nat), Hid (j + gk = z) ∧ s3 = .slice A' (n + 1 + j) c' ∧ St w wr [.row A' (n + 1 + j) c' 5 1 (bytesL (padAt b j)), .blk g2 23 zeroD.arr])
  case atStart => exact ⟨0, A15, c15, Lib.hid (by omega), rfl, hst⟩
  case round =>
    clear hst
    obtain ⟨j, A', c', HJ, rfl, hst⟩ := hrel
    have hz := Hz.out
    have hj := HJ.out
    have hj64 : j < 64 := by omega
    by_cases h0 : 0 < gk
    · have hr : (((n : Int) + 1 + (j : Int)) % 64 != 56) = true := by rw [bne_iff_ne]; omega
      clear hz hj
      go_wp2_with (first
        | (refine L_buildS (d := some 21) rfl rfl rfl [_] (bs_1 ev_const) rfl Tryd.underlying49 el_uint8 rfl (by first | (simp [Value.cells]; done) | (simp [Value.cells, Dig.size]; done)) (by decide) (by decide) ?_; (try clear hnew); intro g21 W21 hnew; replace hst := hst.trans hnew; simp only [List.cons_append, List.nil_append] at hst; simp only [List.flatMap_cons, List.flatMap_nil, List.append_nil, Value.cells, List.toList_toArray] at hst)
        | (refine L_appendO (d := some 22) rfl rfl hst rfl (by rfl) (by rfl) Tryd.underlying49 el_uint8 rfl (by decide) (by decide) 0 rfl (by first | rfl | omega) (by first | exact hst.sl 0 rfl | exact hst.sl 1 rfl | assumption | exact hst.old (by decide) (by assumption)) (by first | exact oneCell_bytes | (simp [Value.oneCell']; done)) (by omega) ?_; clear hst; intro A22 c22 W22 hst; simp only [List.set_cons_zero, List.set_cons_succ, List.nil_append, Nat.zero_add] at hst)
        | (refine L_appendO (d := some 22) rfl rfl hst rfl (by rfl) (by rfl) Tryd.underlying49 el_uint8 rfl (by decide) (by decide) 1 rfl (by first | rfl | omega) (by first | exact hst.sl 0 rfl | exact hst.sl 1 rfl | assumption | exact hst.old (by decide) (by assumption)) (by first | exact oneCell_bytes | (simp [Value.oneCell']; done)) (by omega) ?_; clear hst; intro A22 c22 W22 hst; simp only [List.set_cons_zero, List.set_cons_succ, List.nil_append, Nat.zero_add] at hst)
        | (refine L_appendF (d := some 22) rfl rfl rfl (by rfl) (by rfl) Tryd.underlying49 el_uint8 rfl (by decide) (by assumption) (by first | assumption | exact hst.sl 0 rfl | exact hst.sl 1 rfl | assumption | exact hst.old (by decide) (by assumption)) (by omega) (by omega) (by omega) ?_; (try clear hnew); intro A22 c22 W22 hnew; replace hst := hst.trans hnew; simp only [List.cons_append, List.nil_append] at hst)
        | fail)
      go_roundg (gk - 1)
      case measure => omega
      case rel =>
        have hj := HJ.out
        refine ⟨j + 1, A22, c22, Lib.hid (by omega), rfl, ?_⟩
        rw [← HS.out]
        exact hst.pick [1, 2] (by decide)
    · have hr : (((n : Int) + 1 + (j : Int)) % 64 != 56) = false := by rw [bne_eq_false_iff_eq]; omega
      obtain rfl : j = z := by omega
      clear hz hj HJ h0 HS
      go_wp2_with (first
        | (go_at_call 62; refine (HPut.out _).mono ?_; rintro e W27 ⟨A27, rfl, hnew⟩; replace hst := hst.trans hnew; clear hnew; simp only [List.cons_append, List.nil_append] at hst)
        | (go_at_call 63; (try clear hnew); refine (rrounds_any _).mono ?_; rintro e W34 ⟨A34, rfl, hnew⟩; replace hst := hst.trans hnew; clear hnew; simp only [List.cons_append, List.nil_append] at hst)
        | (refine L_appendO (d := some 32) rfl rfl hst rfl (by rfl) (by rfl) Tryd.underlying49 el_uint8 rfl (by decide) (by decide) 0 rfl (by first | rfl | omega) (by first | exact hst.sl 0 rfl | exact hst.sl 1 rfl | exact hst.sl 2 rfl | exact hst.sl 3 rfl | assumption | exact hst.old (by decide) (by assumption)) (by first | exact oneCell_bytes | (simp [Value.oneCell']; done)) (by omega) ?_; clear hst; intro A32 c32 W32 hst; simp only [List.set_cons_zero, List.set_cons_succ, List.nil_append, Nat.zero_add] at hst)
        | (refine L_appendO (d := some 32) rfl rfl hst rfl (by rfl) (by rfl) Tryd.underlying49 el_uint8 rfl (by decide) (by decide) 1 rfl (by first | rfl | omega) (by first | exact hst.sl 0 rfl | exact hst.sl 1 rfl | exact hst.sl 2 rfl | exact hst.sl 3 rfl | assumption | exact hst.old (by decide) (by assumption)) (by first | exact oneCell_bytes | (simp [Value.oneCell']; done)) (by omega) ?_; clear hst; intro A32 c32 W32 hst; simp only [List.set_cons_zero, List.set_cons_succ, List.nil_append, Nat.zero_add] at hst)
        | (refine L_appendO (d := some 32) rfl rfl hst rfl (by rfl) (by rfl) Tryd.underlying49 el_uint8 rfl (by decide) (by decide) 2 rfl (by first | rfl | omega) (by first | exact hst.sl 0 rfl | exact hst.sl 1 rfl | exact hst.sl 2 rfl | exact hst.sl 3 rfl | assumption | exact hst.old (by decide) (by assumption)) (by first | exact oneCell_bytes | (simp [Value.oneCell']; done)) (by omega) ?_; clear hst; intro A32 c32 W32 hst; simp only [List.set_cons_zero, List.set_cons_succ, List.nil_append, Nat.zero_add] at hst)
        | (refine L_appendO (d := some 32) rfl rfl hst rfl (by rfl) (by rfl) Tryd.underlying49 el_uint8 rfl (by decide) (by decide) 3 rfl (by first | rfl | omega) (by first | exact hst.sl 0 rfl | exact hst.sl 1 rfl | exact hst.sl 2 rfl | exact hst.sl 3 rfl | assumption | exact hst.old (by decide) (by assumption)) (by first | exact oneCell_bytes | (simp [Value.oneCell']; done)) (by omega) ?_; clear hst; intro A32 c32 W32 hst; simp only [List.set_cons_zero, List.set_cons_succ, List.nil_append, Nat.zero_add] at hst)
        | (refine L_appendF (d := some 32) rfl rfl rfl (by rfl) (by rfl) Tryd.underlying49 el_uint8 rfl (by decide) (by assumption) (by first | assumption | exact hst.sl 0 rfl | exact hst.sl 1 rfl | exact hst.sl 2 rfl | exact hst.sl 3 rfl | assumption | exact hst.old (by decide) (by assumption)) (by omega) (by omega) (by omega) ?_; (try clear hnew); intro A32 c32 W32 hnew; replace hst := hst.trans hnew; simp only [List.cons_append, List.nil_append] at hst)
        | (refine L_buildS (d := some 33) rfl rfl rfl [_, _, _, _, _, _, _, _] (bs_8 ev_const ev_const ev_const ev_const ev_const ev_const ev_const ev_const) rfl Tryd.underlying44 el_int rfl (by first | (simp [Value.cells]; done) | (simp [Value.cells, Dig.size]; done)) (by decide) (by decide) ?_; (try clear hnew); intro g33 W33 hnew; replace hst := hst.trans hnew; simp only [List.cons_append, List.nil_append] at hst; simp only [List.flatMap_cons, List.flatMap_nil, List.append_nil, Value.cells, List.toList_toArray] at hst)
        | fail)
      rw [HK.out]
      obtain ⟨tb, htb, hst2⟩ : ∃ tb, Hid (∀ t, t < 64 → tb[t]? = some (iW (tbl t))) ∧ St w W34 [.row g33 8 8 3 1 (blocksS begS P 0).ints, .row A32 (64 * K) c32 5 1 (bytesL P), .row A34 64 64 3 1 tb, .blk g2 23 zeroD.arr] :=
        ⟨tableI, Lib.hid tableI_at, by
          have h := hst.pick [1, 3, 0, 4] (by decide)
          simp only [List.filterMap_cons, List.filterMap_nil, List.getElem?_cons_succ, List.getElem?_cons_zero] at h
          rw [← bytesL_append, HE.out, HK.out] at h
          exact h⟩
      clear hst hr HPut H0
      have hst := hst2
      clear hst2
      have hcap := (hst.sl 1 rfl).2.1
      go_loopg [6, 8] K (fun gk s6 s8 wr => ∃ (k : Nat) (H : Option Addr) (hc : Nat), Hid (k + gk = K) ∧ s6 = .slice H 8 hc ∧ s8 = .int .i64 ((64 * k : Nat) : Int) ∧ St w wr [.row H 8 hc 3 1 (blocksS begS P k).ints, .row A32 (64 * K) c32 5 1 (bytesL P), .row A34 64 64 3 1 tb, .blk g2 23 zeroD.arr])
      case atStart => exact ⟨0, _, _, Lib.hid (by omega), rfl, rfl, hst⟩
      case round =>
        clear hst
        obtain ⟨k, H, hc, HKK, rfl, rfl, hst⟩ := hrel
        have hk := HKK.out
        by_cases hkK : k < K
        · clear hk
          have HX := Lib.hid (show ((bytesL P).drop (64 * k * 1)).take ((64 * k + 64 - 64 * k) * 1) = bytesL ((P.drop (64 * k)).take 64) by rw [bytesL_cut, show 64 * k + 64 - 64 * k = 64 by omega])
          have HN := Lib.hid (show blocksS begS P (k + 1) = blockS (blocksS begS P k) ((P.drop (64 * k)).take 64) by rw [← blockS_take]; rfl)
          have e1 : ((64 * k : Nat) : Int) = 64 * (k : Int) := by omega
          have hKb : K ≤ 2199023255600 := by have := HK.out; omega
          rw [e1]
          clear e1
          generalize blocksS begS P k = S at *
          go_wp2_with (first
            | (go_at_call 64; (try clear hnew); refine (rblock_any S ((P.drop (64 * k)).take 64) tb htb _ _ _ _ _ _ _ (hst.sl 0 rfl) (hst.sl 2 rfl) (by rw [← HX.out]; simpa using hs47)).mono ?_; rintro e W48 ⟨A48, c48, rfl, hnew⟩; replace hst := hst.trans hnew; clear hnew; simp only [List.cons_append, List.nil_append] at hst)
            | (first | (refine L_cutS (d := some 47) rfl rfl rfl (by rfl) Tryd.underlying49 el_uint8 (by decide) (by first | assumption | exact hst.old (by decide) (by assumption) | exact hst.sl 0 rfl | exact hst.sl 1 rfl | exact hst.sl 2 rfl | exact hst.sl 3 rfl) (64*k) (64*k+64) _ (Or.inr ⟨_, _, rfl, by first | exact ev_tmp rfl | exact ev_int rfl (by omega) | (rw [ev_tmp rfl]; congr 1; omega)⟩) (Or.inr ⟨_, _, rfl, by first | exact ev_tmp rfl | exact ev_int rfl (by omega) | (rw [ev_tmp rfl]; congr 1; omega)⟩) (Or.inl ⟨rfl, rfl⟩) (by omega) (by omega) (by omega) (by omega) ?_; intro A47 c47 hs47))
            | fail)
          go_roundg (gk - 1)
          case measure => have hk := HKK.out; omega
          case rel =>
            have hk := HKK.out
            refine ⟨k + 1, A48, c48, Lib.hid (by omega), rfl, by first | rfl | (congr 1; omega), ?_⟩
            rw [HN.out]
            exact hst.pick [0, 2, 3, 4] (by decide)
        · obtain rfl : k = K := by omega
          clear hk HKK
          generalize blocksS begS P k = S at *
          have e1 : ((64 * k : Nat) : Int) = 64 * (k : Int) := by omega
          rw [e1]
          clear e1
          have hKb : k ≤ 2199023255600 := by have := HK.out; omega
          go_wp2_with (first
            | (refine L_allocA (d := some 9) rfl rfl rfl el_api_Digest ?_; (try clear hnew); intro g9 W9 hnew; replace hst := hst.trans hnew; simp only [List.cons_append, List.nil_append] at hst)
            | fail)
          have hst : St w W9 [.blk g9 23 (dCells S 0), .row H 8 hc 3 1 S.ints, .blk g2 23 zeroD.arr] := hst.pick [0, 1, 4] (by decide)
          clear hnew
          go_loopg [10] 32 (fun gk s10 wr => ∃ i : Nat, Hid (i + gk = 32) ∧ s10 = .int .i64 (i : Int) ∧ St w wr [.blk g9 23 (dCells S i), .row H 8 hc 3 1 S.ints, .blk g2 23 zeroD.arr])
          case atStart => exact ⟨0, Lib.hid rfl, rfl, hst⟩
          case round =>
            clear hst
            obtain ⟨i, HI, rfl, hst⟩ := hrel
            have hi := HI.out
            by_cases hi32 : i < 32
            · clear hi
              have HA := Lib.hid (S.ints_at (i / 4) (by omega))
              have hset := dCells_next S i hi32
              rw [byteV_shr, Nat.mul_comm 8 (i % 4)] at hset
              have HSet := Lib.hid hset
              have hsz := Lib.hid (size_dCells S i (by omega))
              clear hset
              generalize S.get (i / 4) = x at *
              have b1 := x.h
              go_wp2_with (first
                | (refine L_load1 (d := some 58) rfl rfl rfl (by rfl) Tryd.underlying3 rfl (cell_of_range1 hr57 (k := i / 4) (by omega) HA.out) ?_)
                | (refine L_store1 rfl rfl hst rfl (by rfl) (ev_tmp rfl) rfl el_uint8 0 rfl (by rw [hsz.out]; omega) ?_; clear hst; intro WS11 hst; simp only [List.set_cons_zero, List.set_cons_succ] at hst)
                | (refine L_idxS (d := some 57) rfl rfl rfl (by rfl) (by rfl) Tryd.underlying44 el_int (by first | assumption | exact hst.sl 0 rfl | exact hst.sl 1 rfl | exact hst.sl 2 rfl | exact hst.old (by decide) (by assumption)) (by omega) (by omega) ?_; intro o57 p57 ha57 hr57; (first | subst ha57 | (obtain ⟨h1, h2⟩ := some_addr ha57; subst h1; subst h2; clear ha57) | skip))
                | (refine L_load1 (d := some 58) rfl rfl rfl (by rfl) Tryd.underlying3 rfl (by first | assumption | exact cell_of (hst.get 0 rfl) rfl | exact cell_of (hst.get 1 rfl) rfl | exact cell_of (hst.get 2 rfl) rfl) ?_)
                | (refine wpl_at (.store 5 (.tmp 65) (.tmp 64)) rfl ?_; first | (refine L_store1 rfl rfl hst rfl (by rfl) (ev_tmp rfl) rfl el_uint8 0 rfl (by first | exact of_decide_eq_true rfl | omega | (simp; done) | (simp; omega)) ?_; clear hst; intro WS13 hst; simp only [List.set_cons_zero, List.set_cons_succ] at hst) | (refine L_store1 rfl rfl hst rfl (by rfl) (ev_tmp rfl) rfl el_uint8 1 rfl (by first | exact of_decide_eq_true rfl | omega | (simp; done) | (simp; omega)) ?_; clear hst; intro WS13 hst; simp only [List.set_cons_zero, List.set_cons_succ] at hst) | (refine L_store1 rfl rfl hst rfl (by rfl) (ev_tmp rfl) rfl el_uint8 2 rfl (by first | exact of_decide_eq_true rfl | omega | (simp; done) | (simp; omega)) ?_; clear hst; intro WS13 hst; simp only [List.set_cons_zero, List.set_cons_succ] at hst))
                | fail)
              rw [HSet.out] at hst
              go_roundg (gk - 1)
              case measure => have hi := HI.out; omega
              case rel =>
                have hi := HI.out
                exact ⟨i + 1, Lib.hid (by omega), by go_num, hst⟩
            · obtain rfl : i = 32 := by omega
              clear hi HI
              rw [dCells_32, HF.out] at hst
              go_wp2_with (first
                | (first | (refine L_loadA (d := some 66) rfl rfl rfl (by rfl) Tryd.underlying23 rfl el_api_Digest (by first | exact hst.get 0 rfl | exact hst.get 1 rfl | exact hst.get 2 rfl) (by first | rfl | exact Dig.size _ | (simp; done)) ?_) | (refine L_loadM (d := some 66) rfl rfl rfl (by rfl) Tryd.underlying23 rfl el_api_Digest (by first | assumption) (by first | rfl | exact Dig.size _ | (simp; done)) ?_))
                | (refine wpl_at (.store 23 (.tmp 2) (.tmp 66)) rfl ?_; first | (refine L_storeA rfl rfl hst rfl (by rfl) (ev_tmp rfl) (by first | rfl | exact Dig.one _ | (simp; done)) el_api_Digest (by first | rfl | exact Dig.size _ | (simp; done)) 0 rfl (by first | rfl | exact Dig.size _ | (simp; done)) ?_; clear hst; intro WS1 hst; simp only [List.set_cons_zero, List.set_cons_succ] at hst) | (refine L_storeA rfl rfl hst rfl (by rfl) (ev_tmp rfl) (by first | rfl | exact Dig.one _ | (simp; done)) el_api_Digest (by first | rfl | exact Dig.size _ | (simp; done)) 1 rfl (by first | rfl | exact Dig.size _ | (simp; done)) ?_; clear hst; intro WS1 hst; simp only [List.set_cons_zero, List.set_cons_succ] at hst) | (refine L_storeA rfl rfl hst rfl (by rfl) (ev_tmp rfl) (by first | rfl | exact Dig.one _ | (simp; done)) el_api_Digest (by first | rfl | exact Dig.size _ | (simp; done)) 2 rfl (by first | rfl | exact Dig.size _ | (simp; done)) ?_; clear hst; intro WS1 hst; simp only [List.set_cons_zero, List.set_cons_succ] at hst) | (refine L_storeM rfl rfl hst rfl (by rfl) (ev_tmp rfl) (by first | rfl | exact Dig.one _ | (simp; done)) el_api_Digest (by first | rfl | exact Dig.size _ | (simp; done)) 0 rfl (by first | exact of_decide_eq_true rfl | (simp; done)) ?_; clear hst; intro WS1 hst; simp only [List.set_cons_zero, List.set_cons_succ] at hst)  | (refine L_storeM rfl rfl hst rfl (by rfl) (ev_tmp rfl) (by first | rfl | exact Dig.one _ | (simp; done)) el_api_Digest (by first | rfl | exact Dig.size _ | (simp; done)) 1 rfl (by first | exact of_decide_eq_true rfl | (simp; done)) ?_; clear hst; intro WS1 hst; simp only [List.set_cons_zero, List.set_cons_succ] at hst)  | (refine L_storeM rfl rfl hst rfl (by rfl) (ev_tmp rfl) (by first | rfl | exact Dig.one _ | (simp; done)) el_api_Digest (by first | rfl | exact Dig.size _ | (simp; done)) 2 rfl (by first | exact of_decide_eq_true rfl | (simp; done)) ?_; clear hst; intro WS1 hst; simp only [List.set_cons_zero, List.set_cons_succ] at hst))
                | fail)
              refine bp_cell rfl rfl rfl (hst.get 2 rfl) Tryd.underlying23 rfl el_api_Digest (by first | rfl | exact Dig.size _ | (simp; done)) ?_
              exact ⟨rfl, hst.forget⟩
end Go.Proofs.YtkbleigmfcleaaaDoor
