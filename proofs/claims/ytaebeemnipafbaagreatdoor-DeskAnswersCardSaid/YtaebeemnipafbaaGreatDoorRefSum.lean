/-
  Proved here: the contract of the reference's digest of bytes: it is the plain one. Condition: bytes of a length that a slice may have.
-/
import Derived.Test.YtaebeemnipafbaaGreatDoorRefBlock
import Derived.Test.YtaebeemnipafbaaGreatDoorSq
set_option linter.unusedSimpArgs false
set_option linter.unusedVariables false
set_option maxRecDepth 100000
set_option maxHeartbeats 200000000
namespace Go.Proofs.YtaebeemnipafbaaGreatDoor
open Go.RowKit
theorem bigE_eight (n : Nat) : Mp 8 n = eight n := rfl
def PB (b : List UInt8) (z : Nat) : List UInt8 := b ++ [128] ++ List.replicate z 0
theorem padAt_succ (b : List UInt8) (z : Nat) : PB b z ++ [0] = PB b (z + 1) := by simp [PB, List.replicate_succ']
theorem padAt_0 (b : List UInt8) : PB b 0 = b ++ [128] := by simp [PB]
theorem padAt_end (b : List UInt8) (h : b.length * 8 < 18446744073709551616) : PB b (K9 b.length) ++ Mp 8 (b.length * 8) = Ms b := by
 rw [bigE_eight, PB, Ms, Nat.mod_eq_of_lt h]
theorem length_padAt (b : List UInt8) (z : Nat) : (PB b z).length = b.length + 1 + z := by simp [PB]; omega
theorem dCells_next (s : S8) (i : Nat) (hi : i < 32) : (MY s i).setIfInBounds i (JC (UInt8.ofNat ((s.get (i / 4)).n >>> (24 - 8 * (i % 4))))) = MY s (i + 1) := by
 have := dCells_set s (i / 4) (i % 4) (by omega) (by omega)
 rw [show 4 * (i / 4) + i % 4 = i by omega] at this
 exact this
theorem Ng (b : List UInt8) (A : Option Addr) (n c : Nat) (w : World) (hx : SlR w A n c 1 (GK b)) (hn : n ≤ 140737488355000) :
  Calls Tryz.prog 76 #[.slice A n c] w fun e w' => e = .returned (sha b).v ∧ St w w' [] := by
 have Ga := St.refl w
 have hl := hx.1
 rw [G7, Nat.mul_one] at hl
 obtain ⟨z, K, P, hz, hK, HE, HP, HF⟩ : ∃ (z K : Nat) (P : List UInt8), z = (119 - n % 64) % 64 ∧ n + 1 + z + 8 = 64 * K ∧ Hid (PB b z ++ Mp 8 (n * 8) = P) ∧ Hid (P.length = 64 * K) ∧ Hid ((KW begS P K).bytes = (sha b).l) := by
  have he := padAt_end b (by omega)
  have hpl := length_padded b
  have hpn : (Ms b).length = n + 1 + K9 b.length + 8 := by rw [← he, List.length_append, length_padAt, length_bigE, hl]
  rw [hl] at he hpn
  exact ⟨K9 n, (Ms b).length / 64, Ms b, rfl, by omega, Gg he, Gg (by omega), Lib.hid rfl⟩
 have Hl := Gg hl
 have Hz := Gg hz
 have H0 := Gg (show GK b ++ [Value.int .u8 128] = GK (PB b 0) by rw [padAt_0, Hj]; rfl)
 have HS := Gg (fun z => show GK (PB b z) ++ [Value.int .u8 0] = GK (PB b (z + 1)) by rw [← padAt_succ, Hj]; rfl)
 have hz64 : z < 64 := by omega
 have HK := Gg hK
 have HPut : ∀ w, Calls Tryz.prog 93 #[.int .i64 ((n : Int) * 8), .int .i64 8] w fun e w' => ∃ A, e = .returned (.tuple #[.slice A 8 8, .bool ((((n * 8) >>> 64 : Nat) : Int) == 0)]) ∧ St w w' [.row A 8 8 5 1 (GK (Mp 8 (n * 8)))] := fun w => by
  have := rput_any (n * 8) 8 w (by decide) (by decide) (by omega)
  rw [show ((n * 8 : Nat) : Int) = (n : Int) * 8 by omega] at this
  exact this
 have HPut := Lib.hid HPut
 rename_i HPut'
 clear hz hl hK HPut'
 go_enter Tryz.func76, Tryz.ntmps76
 go_wp2_with (first | (refine Gk 2 rfl Gv ?_; (try clear Gb); intro g2 W2 Gb; replace Ga := Ga.tr1 Gb) | (refine Gq 11 rfl [] (bs_0 ) rfl uz22 GF rfl (by (simp [Value.cells]; done)) (by decide) (by decide) ?_; (try clear Gb); intro g11 W11 Gb; replace Ga := Ga.tr1 Gb; simp only [List.flatMap_cons, List.flatMap_nil, List.append_nil, Value.cells, List.toList_toArray] at Ga) | (refine GY (d := some 13) rfl rfl Ga rfl (by rfl) (by rfl) uz22 GF rfl (by decide) (by decide) 0 rfl (by rfl) (Ga.old (by decide) hx) (GX) (by omega) ?_; clear Ga; intro A13 c13 W13 Ga; simp only [Ge, Gf, List.nil_append, Nat.zero_add] at Ga) | (refine Gq 14 rfl [_] (Kj GT) rfl uz22 GF rfl (by (simp [Value.cells]; done)) (by decide) (by decide) ?_; (try clear Gb); intro g14 W14 Gb; replace Ga := Ga.tr1 Gb; simp only [List.flatMap_cons, List.flatMap_nil, List.append_nil, Value.cells, List.toList_toArray] at Ga) | (refine GY (d := some 15) rfl rfl Ga rfl (by rfl) (by rfl) uz22 GF rfl (by decide) (by decide) 1 rfl (by (omega)) (Ga.sl 0 rfl) (by (simp [Value.oneCell']; done)) (by omega) ?_; clear Ga; intro A15 c15 W15 Ga; simp only [Ge, Gf, List.nil_append, Nat.zero_add] at Ga))
 have Ga : St w W15 [.row A15 (n + 1 + 0) c15 5 1 (GK (PB b 0)), .blk g2 32 GM.arr] := by
  rw [← H0.out]
  exact Ga.pick [1, 2] (by decide)
 clear Gb
 go_loopg [3] z (fun gk s3 wr => ∃ (j : Nat) (A' : Option Addr) (c' : Nat), Hid (j + gk = z) ∧ s3 = .slice A' (n + 1 + j) c' ∧ St w wr [.row A' (n + 1 + j) c' 5 1 (GK (PB b j)), .blk g2 32 GM.arr])
 case atStart => exact ⟨0, A15, c15, Gg (by omega), rfl, Ga⟩
 case round =>
  clear Ga
  obtain ⟨j, A', c', HJ, rfl, Ga⟩ := hrel
  have hz := Hz.out
  have hj := HJ.out
  have hj64 : j < 64 := by omega
  by_cases h0 : 0 < gk
  ·have hr : (((n : Int) + 1 + (j : Int)) % 64 != 56) = true := by rw [bne_iff_ne]; omega
   clear hz hj
   go_wp2_with (first | (refine Gq 21 rfl [_] (Kj GT) rfl uz22 GF rfl (by (simp [Value.cells]; done)) (by decide) (by decide) ?_; (try clear Gb); intro g21 W21 Gb; replace Ga := Ga.tr1 Gb; simp only [List.flatMap_cons, List.flatMap_nil, List.append_nil, Value.cells, List.toList_toArray] at Ga) | (refine GY (d := some 22) rfl rfl Ga rfl (by rfl) (by rfl) uz22 GF rfl (by decide) (by decide) 1 rfl (by rfl) (Ga.sl 0 rfl) (by (simp [Value.oneCell']; done)) (by omega) ?_; clear Ga; intro A22 c22 W22 Ga; simp only [Ge, Gf, List.nil_append, Nat.zero_add] at Ga))
   go_roundg (gk - 1)
   case measure => omega
   case rel =>
    have hj := HJ.out
    refine ⟨j + 1, A22, c22, Gg (by omega), rfl, ?_⟩
    rw [← HS.out]
    exact Ga.pick [1, 2] (by decide)
  ·have hr : (((n : Int) + 1 + (j : Int)) % 64 != 56) = false := by rw [bne_eq_false_iff_eq]; omega
   obtain rfl : j = z := by omega
   clear hz hj HJ h0 HS
   go_wp2_with (first | (go_at_call 93; refine (HPut.out _).mono ?_; rintro e W27 ⟨A27, rfl, Gb⟩; replace Ga := Ga.trans Gb; clear Gb; simp only [Gc, Gd] at Ga) | (go_at_call 116; (try clear Gb); refine (rrounds_any _).mono ?_; rintro e W34 ⟨A34, rfl, Gb⟩; replace Ga := Ga.trans Gb; clear Gb; simp only [Gc, Gd] at Ga) | (refine GY (d := some 32) rfl rfl Ga rfl (by rfl) (by rfl) uz22 GF rfl (by decide) (by decide) 1 rfl (by rfl) (Ga.sl 0 rfl) (GX) (by omega) ?_; clear Ga; intro A32 c32 W32 Ga; simp only [Ge, Gf, List.nil_append, Nat.zero_add] at Ga) | (refine Gq 33 rfl [_, _, _, _, _, _, _, _] (bs_8 GT GT GT GT GT GT GT GT) rfl uz183 Jo rfl (by (simp [Value.cells]; done)) (by decide) (by decide) ?_; (try clear Gb); intro g33 W33 Gb; replace Ga := Ga.tr1 Gb; simp only [List.flatMap_cons, List.flatMap_nil, List.append_nil, Value.cells, List.toList_toArray] at Ga))
   rw [HK.out]
   obtain ⟨tb, htb, hst2⟩ : ∃ tb, Hid (∀ t, t < 64 → tb[t]? = some (iW (tbl t))) ∧ St w W34 [.row g33 8 8 3 1 (KW begS P 0).ints, .row A32 (64 * K) c32 5 1 (GK P), .row A34 64 64 3 1 tb, .blk g2 32 GM.arr] :=
    ⟨tableI, Lib.hid tableI_at, by
     have h := Ga.pick [1, 3, 0, 4] (by decide)
     simp only [List.filterMap_cons, List.filterMap_nil, List.getElem?_cons_succ, List.getElem?_cons_zero] at h
     rw [← Hj, HE.out, HK.out] at h
     exact h⟩
   clear Ga hr HPut H0
   have Ga := hst2
   clear hst2
   have hcap := (Ga.sl 1 rfl).2.1
   go_loopg [6, 8] K (fun gk s6 s8 wr => ∃ (k : Nat) (H : Option Addr) (hc : Nat), Hid (k + gk = K) ∧ s6 = .slice H 8 hc ∧ s8 = .int .i64 ((64 * k : Nat) : Int) ∧ St w wr [.row H 8 hc 3 1 (KW begS P k).ints, .row A32 (64 * K) c32 5 1 (GK P), .row A34 64 64 3 1 tb, .blk g2 32 GM.arr])
   case atStart => exact ⟨0, _, _, Gg (by omega), rfl, rfl, Ga⟩
   case round =>
    clear Ga
    obtain ⟨k, H, hc, HKK, rfl, rfl, Ga⟩ := hrel
    have hk := HKK.out
    by_cases hkK : k < K
    ·clear hk
     have HX := Gg (show ((GK P).drop (64 * k * 1)).take ((64 * k + 64 - 64 * k) * 1) = GK ((P.drop (64 * k)).take 64) by rw [Nu, show 64 * k + 64 - 64 * k = 64 by omega])
     have HN := Gg (show KW begS P (k + 1) = Nc (KW begS P k) ((P.drop (64 * k)).take 64) by rw [← blockS_take]; rfl)
     have e1 : ((64 * k : Nat) : Int) = 64 * (k : Int) := by omega
     have hKb : K ≤ 2199023255600 := by have := HK.out; omega
     rw [e1]
     clear e1
     generalize KW begS P k = S at *
     go_wp2_with (first | (go_at_call 117; (try clear Gb); refine (rblock_any S ((P.drop (64 * k)).take 64) tb htb _ _ _ _ _ _ _ (Ga.sl 0 rfl) (Ga.sl 2 rfl) (by rw [← HX.out]; simpa using hs47)).mono ?_; rintro e W48 ⟨A48, c48, rfl, Gb⟩; replace Ga := Ga.trans Gb; clear Gb; simp only [Gc, Gd] at Ga) | (refine L_cutS (d := some 47) rfl rfl rfl (by rfl) uz22 GF (by decide) (Ga.sl 1 rfl) (64*k) (64*k+64) _ (Or.inr ⟨_, _, rfl, by (exact Gw rfl)⟩) (Or.inr ⟨_, _, rfl, by (exact Gw rfl)⟩) (Or.inl ⟨rfl, rfl⟩) (by omega) (by omega) (by omega) (by omega) ?_; intro A47 c47 hs47))
     go_roundg (gk - 1)
     case measure => have hk := HKK.out; omega
     case rel =>
      have hk := HKK.out
      refine ⟨k + 1, A48, c48, Gg (by omega), rfl, by (rfl), ?_⟩
      rw [HN.out]
      exact Ga.pick [0, 2, 3, 4] (by decide)
    ·obtain rfl : k = K := by omega
     clear hk HKK
     generalize KW begS P k = S at *
     have e1 : ((64 * k : Nat) : Int) = 64 * (k : Int) := by omega
     rw [e1]
     clear e1
     have hKb : k ≤ 2199023255600 := by have := HK.out; omega
     go_wp2_with (refine Gk 9 rfl Gv ?_; (try clear Gb); intro g9 W9 Gb; replace Ga := Ga.tr1 Gb)
     have Ga : St w W9 [.blk g9 32 (MY S 0), .row H 8 hc 3 1 S.ints, .blk g2 32 GM.arr] := Ga.pick [0, 1, 4] (by decide)
     clear Gb
     go_loopg [10] 32 (fun gk s10 wr => ∃ i : Nat, Hid (i + gk = 32) ∧ s10 = .int .i64 (i : Int) ∧ St w wr [.blk g9 32 (MY S i), .row H 8 hc 3 1 S.ints, .blk g2 32 GM.arr])
     case atStart => exact ⟨0, Lib.hid rfl, rfl, Ga⟩
     case round =>
      clear Ga
      obtain ⟨i, HI, rfl, Ga⟩ := hrel
      have hi := HI.out
      by_cases hi32 : i < 32
      ·clear hi
       have HA := Gg (S.ints_at (i / 4) (by omega))
       have hset := dCells_next S i hi32
       rw [byteV_shr, Nat.mul_comm 8 (i % 4)] at hset
       have HSet := Gg hset
       have hsz := Gg (size_dCells S i (by omega))
       clear hset
       generalize S.get (i / 4) = x at *
       have b1 := x.h
       go_wp2_with (first | (refine Gj 58 rfl (by rfl) uz3 rfl (Hx hr57 (k := i / 4) (by omega) HA.out) ?_) | (refine Jh rfl rfl Ga rfl (by rfl) (Gw rfl) rfl GF 0 rfl (by rw [hsz.out]; omega) ?_; clear Ga; intro WS11 Ga; simp only [Ge, Gf] at Ga) | (refine Gp 57 rfl (by rfl) (by rfl) uz183 Jo (Ga.sl 1 rfl) (by omega) (by omega) ?_; intro o57 p57 ha57 hr57; ((subst ha57))))
       rw [HSet.out] at Ga
       go_roundg (gk - 1)
       case measure => have hi := HI.out; omega
       case rel =>
        have hi := HI.out
        exact ⟨i + 1, Gg (by omega), by go_num, Ga⟩
      ·obtain rfl : i = 32 := by omega
       clear hi HI
       rw [dCells_32, HF.out] at Ga
       go_wp2_with (first | (refine Gl 66 rfl (by rfl) uz32 rfl Gv (Ga.get 0 rfl) (by rfl) ?_) | ((refine Gr 2 66 Ga rfl (by rfl) (Gw rfl) (Dig.one _) Gv (by rfl) 2 rfl (by rfl) ?_; clear Ga; intro WS1 Ga; simp only [Ge, Gf] at Ga)))
       refine Hw rfl rfl rfl (Ga.get 2 rfl) uz32 rfl Gv (by rfl) ?_
       exact ⟨rfl, Ga.forget⟩
end Go.Proofs.YtaebeemnipafbaaGreatDoor
