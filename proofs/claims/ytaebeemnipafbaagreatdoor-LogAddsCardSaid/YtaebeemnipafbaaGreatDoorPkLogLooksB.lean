/-
  Proved here, ahead of the law: LogLooks: the law returns true for every input, and leaves its arguments as they were.
-/
import Derived.Test.YtaebeemnipafbaaGreatDoorPkLogLooksA
import Derived.Test.YtaebeemnipafbaaGreatDoorRefNum
import Derived.Test.YtaebeemnipafbaaGreatDoorStrX
import Derived.Test.YtaebeemnipafbaaGreatDoorDigsL
import Derived.Test.YtaebeemnipafbaaGreatDoorLawE
import Derived.Test.YtaebeemnipafbaaGreatDoorLawF
import Derived.Test.YtaebeemnipafbaaGreatDoorFork
import Derived.Test.YtaebeemnipafbaaGreatDoorDrawT
import Derived.Test.YtaebeemnipafbaaGreatDoorForkM
import Derived.Test.YtaebeemnipafbaaGreatDoorFast
import Derived.Test.YtaebeemnipafbaaGreatDoorLawC
import Derived.Test.YtaebeemnipafbaaGreatDoorPick
import Derived.Test.YtaebeemnipafbaaGreatDoorIdxK
import Derived.Defers
import Derived.Recover
import Derived.Test.YtaebeemnipafbaaGreatDoorRefNumB
import Derived.Test.YtaebeemnipafbaaGreatDoorSkip
import Derived.Test.YtaebeemnipafbaaGreatDoorForkP
set_option maxRecDepth 20000
set_option linter.unusedSimpArgs false
set_option linter.unusedVariables false
namespace Go.Proofs.YtaebeemnipafbaaGreatDoor
open Go.RowKit
theorem bs_at (l : List UInt8) (j : Nat) (h : j < l.length) : (bsOf l)[j]? = some (l.getD j 0) := by
 have h' : j < (bsOf l).size := by rw [bsOf_size]; exact h
 rw [List.getD_eq_getElem?_getD, List.getElem?_eq_getElem h]
 simp [h']
 rfl
theorem dig_slr {W : World} {g t : Nat} {fr : Nat × Nat} {d : Dig} {k : Nat} (hk : k ≤ 32) (h : W.heap[g]? = some (.cells d.arr t fr)) : SlR W (some ⟨g, 0, none⟩) k 32 1 (bytesL (d.l.take k)) :=
 ⟨by rw [length_bytesL, List.length_take, d.h]; omega, hk, by decide, fun _ => ⟨g, 0, rfl, rangeAt_of_cells h (fun j v hv => by
  rw [← Array.getElem?_toList, Dig.toList, Nat.zero_add]
  have hj : j < k := by have := (List.getElem?_eq_some_iff.1 hv).1; rw [length_bytesL, List.length_take, d.h] at this; omega
  rw [getElem?_bytesL] at hv ⊢
  rwa [List.getElem?_take, if_pos hj] at hv)⟩⟩
theorem dig_sl {W : World} {g t : Nat} {fr : Nat × Nat} {d : Dig} (h : W.heap[g]? = some (.cells d.arr t fr)) : SlR W (some ⟨g, 0, none⟩) 32 32 1 d.arr.toList :=
 ⟨by simp [Dig.size], Nat.le_refl _, by decide, fun _ => ⟨g, 0, rfl, rangeAt_of_cells h (fun j v hv => by
  rw [← Array.getElem?_toList, Nat.zero_add]
  exact hv)⟩⟩
theorem isNm_bad {l : List UInt8} {i : Nat} (h : i < l.length) (hb : okB (l.getD i 0) = false) : isNm l = false := by
 have : l.all okB = false := by
  rw [List.all_eq_false]
  refine ⟨l[i], List.getElem_mem h, ?_⟩
  rw [List.getD_eq_getElem?_getD, List.getElem?_eq_getElem h, Option.getD_some] at hb
  simp [hb]
 unfold isNm
 rw [this, Bool.and_false]
theorem all_step {l : List UInt8} {i : Nat} (h : i < l.length) (ha : (l.take i).all okB = true) (hb : okB (l.getD i 0) = true) : (l.take (i + 1)).all okB = true := by
 rw [List.getD_eq_getElem?_getD, List.getElem?_eq_getElem h, Option.getD_some] at hb
 rw [List.take_succ_eq_append_getElem h, List.all_append, ha]
 simp [hb]
set_option maxHeartbeats 2000000 in
theorem risname_any (l : List UInt8) (w : World) (hn : l.length ≤ 9223372036854775807) : Calls Tryz.prog 31 #[.string (bsOf l)] w fun e w' => e = .returned (.bool (isNm l)) ∧ St w w' [] := by
 have hst := St.refl w
 obtain ⟨n, hn'⟩ : ∃ n, n = l.length := ⟨_, rfl⟩
 have HL := Lib.hid hn'
 have hz : (bsOf l).size = n := by rw [bsOf_size, hn']
 rw [← hn'] at hn
 clear hn'
 go_enter Tryz.func31, Tryz.ntmps31
 go_wp2_with fail
 go_loopg [3, 4] n (fun gk s3 s4 wr => ∃ i : Nat, Hid (i + gk = n) ∧ Hid ((l.take i).all okB = true) ∧ s3 = .int .i64 (i : Int) ∧ St w wr [])
 case atStart => exact ⟨0, Lib.hid (by omega), Lib.hid (by simp), rfl, hst⟩
 case round =>
  clear hst
  obtain ⟨i, HI, HA, rfl, hst⟩ := hrel
  have hi := HI.out
  by_cases hin : i < n
  ·have hil : i < l.length := by rw [← HL.out]; exact hin
   have HC := Lib.hid (bs_at l i hil)
   have HB := Lib.hid (fun h => isNm_bad (l := l) (i := i) hil h)
   have HS := Lib.hid (fun h => all_step (l := l) (i := i) hil HA.out h)
   have HO := Lib.hid (show okB (l.getD i 0) = decide (97 ≤ (l.getD i 0).toNat ∧ (l.getD i 0).toNat ≤ 122 ∨ 48 ≤ (l.getD i 0).toNat ∧ (l.getD i 0).toNat ≤ 57 ∨ (l.getD i 0).toNat = 45) from rfl)
   generalize l.getD i 0 = b at *
   generalize okB b = ob at *
   obtain ⟨x, hx⟩ : ∃ x, x = b.toNat := ⟨_, rfl⟩
   rw [← hx] at HO
   have HX := Lib.hid hx
   clear hil hi hx
   by_cases hok : 97 ≤ x ∧ x ≤ 122 ∨ 48 ≤ x ∧ x ≤ 57 ∨ x = 45
   ·have HS := Lib.hid (HS.out (by rw [HO.out]; exact decide_eq_true hok))
    clear HO HB
    have hok' : (97 ≤ x ∧ x ≤ 122) ∨ (48 ≤ x ∧ x ≤ 57) ∨ x = 45 := by omega
    clear hok
    rcases hok' with ⟨h1, h2⟩ | ⟨h1, h2⟩ | h1
    ·have z1 : ¬ (x : Int) < 97 := by omega
     have z2 : (x : Int) ≤ 122 := by omega
     clear h1 h2
     go_wp2_with ((refine L_strIx (d := some 13) rfl rfl rfl Tryz.underlying9 rfl (by rfl) i rfl HC.out ?_; rw [← HX.out]))
     go_roundg (gk - 1)
     case measure => have hi := HI.out; omega
     case rel => exact ⟨i + 1, Lib.hid (by have := HI.out; omega), HS, by go_num, hst⟩
    ·have z1 : (x : Int) < 97 := by omega
     have z2 : ¬ (x : Int) < 48 := by omega
     have z3 : (x : Int) ≤ 57 := by omega
     clear h1 h2
     go_wp2_with ((refine L_strIx (d := some 13) rfl rfl rfl Tryz.underlying9 rfl (by rfl) i rfl HC.out ?_; rw [← HX.out]))
     go_roundg (gk - 1)
     case measure => have hi := HI.out; omega
     case rel => exact ⟨i + 1, Lib.hid (by have := HI.out; omega), HS, by go_num, hst⟩
    ·subst h1
     go_wp2_with ((refine L_strIx (d := some 13) rfl rfl rfl Tryz.underlying9 rfl (by rfl) i rfl HC.out ?_; rw [← HX.out]))
     go_roundg (gk - 1)
     case measure => have hi := HI.out; omega
     case rel => exact ⟨i + 1, Lib.hid (by have := HI.out; omega), HS, by go_num, hst⟩
   ·have HB := Lib.hid (HB.out (by rw [HO.out]; exact decide_eq_false hok))
    clear HO HS
    have hok' : (122 < x) ∨ (57 < x ∧ x < 97) ∨ (x < 48 ∧ x ≠ 45) := by omega
    clear hok
    rcases hok' with h1 | ⟨h1, h2⟩ | ⟨h1, h2⟩
    ·have z1 : ¬ (x : Int) < 97 := by omega
     have z2 : ¬ (x : Int) ≤ 122 := by omega
     have z3 : ¬ (x : Int) < 48 := by omega
     have z4 : ¬ (x : Int) ≤ 57 := by omega
     have z5 : ((x : Int) == 45) = false := by simp; omega
     clear h1
     go_wp2_with ((refine L_strIx (d := some 13) rfl rfl rfl Tryz.underlying9 rfl (by rfl) i rfl HC.out ?_; rw [← HX.out]))
     go_ret
     exact ⟨by rw [HB.out]; rfl, hst⟩
    ·have z1 : (x : Int) < 97 := by omega
     have z3 : ¬ (x : Int) < 48 := by omega
     have z4 : ¬ (x : Int) ≤ 57 := by omega
     have z5 : ((x : Int) == 45) = false := by simp; omega
     clear h1 h2
     go_wp2_with ((refine L_strIx (d := some 13) rfl rfl rfl Tryz.underlying9 rfl (by rfl) i rfl HC.out ?_; rw [← HX.out]))
     go_ret
     exact ⟨by rw [HB.out]; rfl, hst⟩
    ·have z1 : (x : Int) < 97 := by omega
     have z3 : (x : Int) < 48 := by omega
     have z5 : ((x : Int) == 45) = false := by simp; omega
     clear h1 h2
     go_wp2_with ((refine L_strIx (d := some 13) rfl rfl rfl Tryz.underlying9 rfl (by rfl) i rfl HC.out ?_; rw [← HX.out]))
     go_ret
     exact ⟨by rw [HB.out]; rfl, hst⟩
  ·obtain rfl : i = n := by omega
   have HE := Lib.hid (show isNm l = decide (0 < i ∧ i ≤ 30) by
    have := HA.out
    rw [HL.out, List.take_length] at this
    unfold isNm
    rw [this, Bool.and_true, ← HL.out])
   clear hi HI HA hin
   by_cases h0 : i = 0
   ·subst h0
    go_wp2_with (fail)
    go_ret
    exact ⟨by rw [HE.out]; rfl, hst⟩
   ·have z1 : (0 : Int) < (i : Int) := by omega
    by_cases h30 : i ≤ 30
    ·have z2 : (i : Int) ≤ 30 := by omega
     have HD := Lib.hid (show decide (0 < i ∧ i ≤ 30) = true from decide_eq_true ⟨by omega, h30⟩)
     clear h30 h0
     go_wp2_with (fail)
     go_ret
     exact ⟨by rw [HE.out, HD.out]; rfl, hst⟩
    ·have z2 : ¬ (i : Int) ≤ 30 := by omega
     have HD := Lib.hid (show decide (0 < i ∧ i ≤ 30) = false from decide_eq_false (fun h => h30 h.2))
     clear h30 h0
     go_wp2_with (fail)
     go_ret
     exact ⟨by rw [HE.out, HD.out]; rfl, hst⟩
set_option maxHeartbeats 2000000 in
theorem rindex_any (l : List UInt8) (w : World) (hn : l.length ≤ 140737488354000) : Calls Tryz.prog 33 #[.string (bsOf l)] w fun e w' => e = .returned (.int .i64 ((idxN l : Nat) : Int)) ∧ St w w' [] := by
 have hst := St.refl w
 have hz := bsOf_size l
 have HB := Lib.hid (show [Value.int .u8 12] ++ bytesL l = bytesL (List.cons 12 l) from rfl)
 have HR := Lib.hid (fun (A : Option Addr) (c : Nat) (w' : World) (h : SlR w' A (1 + l.length) c 1 (bytesL (List.cons 12 l))) => rsum_any (List.cons 12 l) A _ c w' h (by omega))
 have HN := Lib.hid (fun (A : Option Addr) (c : Nat) (w' : World) (h : SlR w' A 4 c 1 (bytesL ((sha (List.cons 12 l)).l.take 4))) => rnum_any _ A 4 c w' h (by decide) (by decide))
 have HE := Lib.hid (show natE ((sha (List.cons 12 l)).l.take 4) = idxN l from rfl)
 rw [HE.out] at HN
 generalize idxN l = ix at *
 generalize sha (List.cons 12 l) = dd at *
 generalize List.cons 12 l = all at *
 clear HE
 go_enter Tryz.func33, Tryz.ntmps33
 go_upto_region 1 with (go_big_may; fail)
 go_upto_region 2 with (go_big_may; first | (go_at_call 76; (try clear hnew); refine (HR.out _ _ _ (by rw [← HB.out]; exact hst.sl 1 rfl)).mono ?_; rintro e Wk1 ⟨rfl, hnew⟩; replace hst := hst.keep hnew) | (refine L_buildS (d := some 6) rfl rfl rfl [_] (bs_1 ev_const) rfl Tryz.underlying22 el_uint8 rfl (by (simp [Value.cells]; done)) (by decide) (by decide) ?_; (try clear hnew); intro g6 W6 hnew; replace hst := hst.trans hnew; simp only [List.cons_append, List.nil_append] at hst; simp only [List.flatMap_cons, List.flatMap_nil, List.append_nil, Value.cells, List.toList_toArray] at hst) | (refine L_convSB (d := some 8) rfl rfl rfl (ev_tmp rfl) Tryz.underlying22 Tryz.underlying9 Tryz.underlying5 (by (omega)) ?_; (try clear hnew); intro g8 cap8 ob8 W8 hnew hsb8; replace hst := hst.trans hnew; simp only [List.cons_append, List.nil_append] at hst) | (refine L_appendO (d := some 9) rfl rfl hst rfl (by rfl) (by rfl) Tryz.underlying22 el_uint8 rfl (by decide) (by decide) 1 rfl (by (rfl)) (by (exact hsb8 _ (hst.at_ 0 rfl))) (by (exact oneCell_bytes)) (by omega) ?_; clear hst; intro A9 c9 W9 hst; simp only [List.set_cons_zero, List.set_cons_succ, List.nil_append, Nat.zero_add] at hst) | (refine L_allocA (d := some 3) rfl rfl rfl el_api_Digest ?_; (try clear hnew); intro g3 W3 hnew; replace hst := hst.trans hnew; simp only [List.cons_append, List.nil_append] at hst) | (refine wpl_at (.store 32 (.tmp 3) (.tmp 10)) rfl ?_; (refine L_storeA rfl rfl hst rfl (by rfl) (ev_tmp rfl) (by (exact Dig.one _)) el_api_Digest (by (exact Dig.size _)) 0 rfl (by (rfl)) ?_; clear hst; intro WS6 hst; simp only [List.set_cons_zero, List.set_cons_succ] at hst)))
 clear hnew
 go_upto_region 3 with (go_big_may; (go_at_call 77; (try clear hnew); refine (HN.out _ _ _ (dig_slr (by decide) (hst.get 0 rfl))).mono ?_; rintro e Wk2 ⟨rfl, hnew⟩; replace hst := hst.keep hnew))
 go_wp2_with (fail)
 go_ret
 exact ⟨rfl, hst.forget⟩
set_option maxHeartbeats 1000000 in
theorem rnothing_any (w : World) : Calls Tryz.prog 52 #[] w fun e w' => e = .returned zeroD.v ∧ St w w' [] := by
 have hst := St.refl w
 go_enter Tryz.func52, Tryz.ntmps52
 go_wp2_with (first | (refine L_allocA (d := some 0) rfl rfl rfl el_api_Digest ?_; (try clear hnew); intro g0 W0 hnew; replace hst := hst.trans hnew; simp only [List.cons_append, List.nil_append] at hst) | (refine L_build0 (d := some 1) rfl rfl rfl Tryz.underlying32 el_uint8 el_api_Digest ?_) | (refine wpl_at (.store 32 (.tmp 0) (.tmp 1)) rfl ?_; (refine L_storeA rfl rfl hst rfl (by rfl) (ev_tmp rfl) (by (exact Dig.one _)) el_api_Digest (by (rfl)) 0 rfl (by (rfl)) ?_; clear hst; intro WS1 hst; simp only [List.set_cons_zero, List.set_cons_succ] at hst)))
 refine bp_cell rfl rfl rfl (hst.get 0 rfl) Tryz.underlying32 rfl el_api_Digest (by (rfl)) ?_
 exact ⟨rfl, hst.forget⟩
set_option maxHeartbeats 2000000 in
theorem rmapnode_any (l r : Dig) (w : World) : Calls Tryz.prog 88 #[l.v, r.v] w fun e w' => e = .returned (mNode l r).v ∧ St w w' [] := by
 have hst := St.refl w
 have HO := Lib.hid (fun (A : Option Addr) (c : Nat) (w' : World) (h : SlR w' A 2 c 32 (digsL [l, r])) => rof_any 10 [l, r] A 2 c w' h (by decide))
 have HD := Lib.hid (show digsL [l, r] = l.arr.toList ++ r.arr.toList by simp [digsL, Dig.toList])
 have HZ := Lib.hid (fun w => rnothing_any w)
 have HM := Lib.hid (show mNode l r = if l = zeroD ∧ r = zeroD then zeroD else ofN 10 [l, r] from rfl)
 obtain ⟨q, hq⟩ : ∃ q, q = mNode l r := ⟨_, rfl⟩
 rw [← hq]
 have HQ := Lib.hid hq
 generalize ofN 10 [l, r] = on at *
 generalize digsL [l, r] = dl at *
 clear hq
 by_cases hl : l = zeroD
 ·have HL := Lib.hid (show decide (l = zeroD) = true from decide_eq_true hl)
  by_cases hr : r = zeroD
  ·have HR := Lib.hid (show decide (r = zeroD) = true from decide_eq_true hr)
   have hq2 : q = zeroD := by rw [HQ.out, HM.out, if_pos ⟨hl, hr⟩]
   clear hl hr HO
   generalize zeroD = z0 at *
   go_enter Tryz.func88, Tryz.ntmps88
   go_upto_region 1 with (go_big_may; first | (refine L_boxA (d := some 2) rfl rfl rfl (ev_tmp rfl) ?_; (try clear hnew); intro g2 W2 hnew; replace hst := hst.trans hnew; simp only [List.cons_append, List.nil_append] at hst) | (refine L_boxA (d := some 3) rfl rfl rfl (ev_tmp rfl) ?_; (try clear hnew); intro g3 W3 hnew; replace hst := hst.trans hnew; simp only [List.cons_append, List.nil_append] at hst) | (refine L_allocA (d := some 4) rfl rfl rfl el_api_Digest ?_; (try clear hnew); intro g4 W4 hnew; replace hst := hst.trans hnew; simp only [List.cons_append, List.nil_append] at hst))
   refine wp_region_idx [(0, 0), (1, 2), (2, 2), (3, 2), (4, 0), (5, 2), (6, 2), (7, 2)] (by kernel_rfl) (by kernel_rfl) ?_
   replace hst := hst.drew
   refine idx_q rfl rfl ?_; go_wp2_with (((refine L_loadA (d := some 5) rfl rfl rfl (by rfl) Tryz.underlying32 rfl el_api_Digest (by (exact hst.get 2 rfl)) (by (exact Dig.size _)) ?_)))
   refine idx_g rfl ?_; go_wp2_with ((go_at_call 52; (try clear hnew); refine (HZ.out _).mono ?_; rintro e Wk3 ⟨rfl, hnew⟩; replace hst := hst.keep hnew)); refine ⟨by (exact hnew.below), ?_⟩
   refine idx_g rfl ?_; go_wp2_with ((refine L_eqD (d := some 7) rfl rfl rfl Tryz.underlying32 Tryz.underlying5 el_uint8 eqG_D (ev_tmp rfl) (ev_tmp rfl) ?_; (try rw [HL.out]))); refine ⟨by (exact Below.refl _ _), ?_⟩
   refine idx_g rfl ?_; go_wp2_with fail; refine ⟨by (exact Below.refl _ _), ?_⟩
   refine idx_q rfl rfl ?_; go_wp2_with (((refine L_loadA (d := some 9) rfl rfl rfl (by rfl) Tryz.underlying32 rfl el_api_Digest (by (exact hst.get 1 rfl)) (by (exact Dig.size _)) ?_)))
   refine idx_g rfl ?_; go_wp2_with ((go_at_call 52; (try clear hnew); refine (HZ.out _).mono ?_; rintro e Wk3 ⟨rfl, hnew⟩; replace hst := hst.keep hnew)); refine ⟨by (exact hnew.below), ?_⟩
   refine idx_g rfl ?_; go_wp2_with ((refine L_eqD (d := some 11) rfl rfl rfl Tryz.underlying32 Tryz.underlying5 el_uint8 eqG_D (ev_tmp rfl) (ev_tmp rfl) ?_; (try rw [HR.out]))); refine ⟨by (exact Below.refl _ _), ?_⟩
   refine idx_g rfl ?_; go_wp2_with fail; refine ⟨by (exact Below.refl _ _), ?_⟩
   refine idx_nil ?_
   go_wp2_with (first | (go_at_call 52; (try clear hnew); refine (HZ.out _).mono ?_; rintro e Wk4 ⟨rfl, hnew⟩; replace hst := hst.keep hnew) | (refine wpl_at (.store 32 (.tmp 4) (.tmp 13)) rfl ?_; (refine L_storeA rfl rfl hst rfl (by rfl) (ev_tmp rfl) (by (exact Dig.one _)) el_api_Digest (by (exact Dig.size _)) 0 rfl (by (rfl)) ?_; clear hst; intro WS1 hst; simp only [List.set_cons_zero, List.set_cons_succ] at hst)))
   refine bp_cell rfl rfl rfl (hst.get 0 rfl) Tryz.underlying32 rfl el_api_Digest (by (exact Dig.size _)) ?_
   exact ⟨by rw [hq2], hst.forget⟩
  ·have HR := Lib.hid (show decide (r = zeroD) = false from decide_eq_false hr)
   have hq2 : q = on := by rw [HQ.out, HM.out, if_neg (fun h => hr h.2)]
   clear hl hr
   generalize zeroD = z0 at *
   go_enter Tryz.func88, Tryz.ntmps88
   go_upto_region 1 with (go_big_may; first | (refine L_boxA (d := some 2) rfl rfl rfl (ev_tmp rfl) ?_; (try clear hnew); intro g2 W2 hnew; replace hst := hst.trans hnew; simp only [List.cons_append, List.nil_append] at hst) | (refine L_boxA (d := some 3) rfl rfl rfl (ev_tmp rfl) ?_; (try clear hnew); intro g3 W3 hnew; replace hst := hst.trans hnew; simp only [List.cons_append, List.nil_append] at hst) | (refine L_allocA (d := some 4) rfl rfl rfl el_api_Digest ?_; (try clear hnew); intro g4 W4 hnew; replace hst := hst.trans hnew; simp only [List.cons_append, List.nil_append] at hst))
   refine wp_region_idx [(0, 0), (1, 2), (2, 2), (3, 2), (4, 0), (5, 2), (6, 2), (7, 2)] (by kernel_rfl) (by kernel_rfl) ?_
   replace hst := hst.drew
   refine idx_q rfl rfl ?_; go_wp2_with (((refine L_loadA (d := some 5) rfl rfl rfl (by rfl) Tryz.underlying32 rfl el_api_Digest (by (exact hst.get 2 rfl)) (by (exact Dig.size _)) ?_)))
   refine idx_g rfl ?_; go_wp2_with ((go_at_call 52; (try clear hnew); refine (HZ.out _).mono ?_; rintro e Wk5 ⟨rfl, hnew⟩; replace hst := hst.keep hnew)); refine ⟨by (exact hnew.below), ?_⟩
   refine idx_g rfl ?_; go_wp2_with ((refine L_eqD (d := some 7) rfl rfl rfl Tryz.underlying32 Tryz.underlying5 el_uint8 eqG_D (ev_tmp rfl) (ev_tmp rfl) ?_; (try rw [HL.out]))); refine ⟨by (exact Below.refl _ _), ?_⟩
   refine idx_g rfl ?_; go_wp2_with fail; refine ⟨by (exact Below.refl _ _), ?_⟩
   refine idx_q rfl rfl ?_; go_wp2_with (((refine L_loadA (d := some 9) rfl rfl rfl (by rfl) Tryz.underlying32 rfl el_api_Digest (by (exact hst.get 1 rfl)) (by (exact Dig.size _)) ?_)))
   refine idx_g rfl ?_; go_wp2_with ((go_at_call 52; (try clear hnew); refine (HZ.out _).mono ?_; rintro e Wk5 ⟨rfl, hnew⟩; replace hst := hst.keep hnew)); refine ⟨by (exact hnew.below), ?_⟩
   refine idx_g rfl ?_; go_wp2_with ((refine L_eqD (d := some 11) rfl rfl rfl Tryz.underlying32 Tryz.underlying5 el_uint8 eqG_D (ev_tmp rfl) (ev_tmp rfl) ?_; (try rw [HR.out]))); refine ⟨by (exact Below.refl _ _), ?_⟩
   refine idx_g rfl ?_; go_wp2_with fail; refine ⟨by (exact Below.refl _ _), ?_⟩
   refine idx_nil ?_
   go_wp2_with (first | (go_at_call 122; (try clear hnew); refine (HO.out _ _ _ (by rw [HD.out]; exact hst.sl 0 rfl)).mono ?_; rintro e Wk6 ⟨rfl, hnew⟩; replace hst := hst.keep hnew) | ((refine L_loadA (d := some 14) rfl rfl rfl (by rfl) Tryz.underlying32 rfl el_api_Digest (by (exact hst.get 2 rfl)) (by (exact Dig.size _)) ?_)) | ((refine L_loadA (d := some 15) rfl rfl rfl (by rfl) Tryz.underlying32 rfl el_api_Digest (by (exact hst.get 1 rfl)) (by (exact Dig.size _)) ?_)) | (refine L_buildS (d := some 16) rfl rfl rfl [_, _] (bs_2 (ev_tmp rfl) (ev_tmp rfl)) rfl Tryz.underlying44 el_api_Digest rfl (by (simp [Value.cells, Dig.size]; done)) (by decide) (by decide) ?_; (try clear hnew); intro g16 W16 hnew; replace hst := hst.trans hnew; simp only [List.cons_append, List.nil_append] at hst; simp only [List.flatMap_cons, List.flatMap_nil, List.append_nil, Value.cells, List.toList_toArray] at hst) | (refine wpl_at (.store 32 (.tmp 4) (.tmp 17)) rfl ?_; (refine L_storeA rfl rfl hst rfl (by rfl) (ev_tmp rfl) (by (exact Dig.one _)) el_api_Digest (by (exact Dig.size _)) 1 rfl (by (rfl)) ?_; clear hst; intro WS4 hst; simp only [List.set_cons_zero, List.set_cons_succ] at hst)))
   refine bp_cell rfl rfl rfl (hst.get 1 rfl) Tryz.underlying32 rfl el_api_Digest (by (exact Dig.size _)) ?_
   exact ⟨by rw [hq2], hst.forget⟩
 ·have HL := Lib.hid (show decide (l = zeroD) = false from decide_eq_false hl)
  have hq2 : q = on := by rw [HQ.out, HM.out, if_neg (fun h => hl h.1)]
  clear hl
  generalize zeroD = z0 at *
  go_enter Tryz.func88, Tryz.ntmps88
  go_upto_region 1 with (go_big_may; first | (refine L_boxA (d := some 2) rfl rfl rfl (ev_tmp rfl) ?_; (try clear hnew); intro g2 W2 hnew; replace hst := hst.trans hnew; simp only [List.cons_append, List.nil_append] at hst) | (refine L_boxA (d := some 3) rfl rfl rfl (ev_tmp rfl) ?_; (try clear hnew); intro g3 W3 hnew; replace hst := hst.trans hnew; simp only [List.cons_append, List.nil_append] at hst) | (refine L_allocA (d := some 4) rfl rfl rfl el_api_Digest ?_; (try clear hnew); intro g4 W4 hnew; replace hst := hst.trans hnew; simp only [List.cons_append, List.nil_append] at hst))
  refine wp_region_idx [(0, 0), (1, 2), (2, 2), (3, 2), (4, 0), (5, 2), (6, 2), (7, 2)] (by kernel_rfl) (by kernel_rfl) ?_
  replace hst := hst.drew
  refine idx_q rfl rfl ?_; go_wp2_with (((refine L_loadA (d := some 5) rfl rfl rfl (by rfl) Tryz.underlying32 rfl el_api_Digest (by (exact hst.get 2 rfl)) (by (exact Dig.size _)) ?_)))
  refine idx_g rfl ?_; go_wp2_with ((go_at_call 52; (try clear hnew); refine (HZ.out _).mono ?_; rintro e Wk7 ⟨rfl, hnew⟩; replace hst := hst.keep hnew)); refine ⟨by (exact hnew.below), ?_⟩
  refine idx_g rfl ?_; go_wp2_with ((refine L_eqD (d := some 7) rfl rfl rfl Tryz.underlying32 Tryz.underlying5 el_uint8 eqG_D (ev_tmp rfl) (ev_tmp rfl) ?_; (try rw [HL.out]))); refine ⟨by (exact Below.refl _ _), ?_⟩
  refine idx_g rfl ?_; go_wp2_with fail; refine ⟨by (exact Below.refl _ _), ?_⟩
  refine idx_q rfl rfl ?_; go_wp2_with ((refine L_un (t := 9) rfl (by rfl) rfl ?_))
  refine idx_g rfl ?_; go_wp2_with ((refine L_un (t := 10) rfl (by rfl) rfl ?_)); refine ⟨by (exact Below.refl _ _), ?_⟩
  refine idx_g rfl ?_; go_wp2_with ((refine L_un (t := 11) rfl (by rfl) rfl ?_)); refine ⟨by (exact Below.refl _ _), ?_⟩
  refine idx_g rfl ?_; go_wp2_with fail; refine ⟨by (exact Below.refl _ _), ?_⟩
  refine idx_nil ?_
  go_wp2_with (first | (go_at_call 122; (try clear hnew); refine (HO.out _ _ _ (by rw [HD.out]; exact hst.sl 0 rfl)).mono ?_; rintro e Wk8 ⟨rfl, hnew⟩; replace hst := hst.keep hnew) | ((refine L_loadA (d := some 14) rfl rfl rfl (by rfl) Tryz.underlying32 rfl el_api_Digest (by (exact hst.get 2 rfl)) (by (exact Dig.size _)) ?_)) | ((refine L_loadA (d := some 15) rfl rfl rfl (by rfl) Tryz.underlying32 rfl el_api_Digest (by (exact hst.get 1 rfl)) (by (exact Dig.size _)) ?_)) | (refine L_buildS (d := some 16) rfl rfl rfl [_, _] (bs_2 (ev_tmp rfl) (ev_tmp rfl)) rfl Tryz.underlying44 el_api_Digest rfl (by (simp [Value.cells, Dig.size]; done)) (by decide) (by decide) ?_; (try clear hnew); intro g16 W16 hnew; replace hst := hst.trans hnew; simp only [List.cons_append, List.nil_append] at hst; simp only [List.flatMap_cons, List.flatMap_nil, List.append_nil, Value.cells, List.toList_toArray] at hst) | (refine wpl_at (.store 32 (.tmp 4) (.tmp 17)) rfl ?_; (refine L_storeA rfl rfl hst rfl (by rfl) (ev_tmp rfl) (by (exact Dig.one _)) el_api_Digest (by (exact Dig.size _)) 1 rfl (by (rfl)) ?_; clear hst; intro WS4 hst; simp only [List.set_cons_zero, List.set_cons_succ] at hst)))
  refine bp_cell rfl rfl rfl (hst.get 1 rfl) Tryz.underlying32 rfl el_api_Digest (by (exact Dig.size _)) ?_
  exact ⟨by rw [hq2], hst.forget⟩
set_option maxHeartbeats 2000000 in
theorem rentryleaf_any (k : Nat) (v : Dig) (w : World) (hk : k < 4294967296) : Calls Tryz.prog 54 #[.agg (prArr (k : Int) v)] w fun e w' => e = .returned (eLeaf k v).v ∧ St w w' [] := by
 have hst := St.refl w
 have HP := Lib.hid (fun w => rput_any k 4 w (by decide) (by decide) (by omega))
 have HB := Lib.hid (show [Value.int .u8 9] ++ bytesL (bigE 4 k) ++ v.arr.toList = bytesL (List.cons 9 (bigE 4 k ++ v.l)) by rw [show [Value.int .u8 9] = bytesL [9] from rfl, Dig.toList, ← bytesL_append, ← bytesL_append]; rfl)
 have HE := Lib.hid (show eLeaf k v = sha (List.cons 9 (bigE 4 k ++ v.l)) from rfl)
 have HS := Lib.hid (fun (A : Option Addr) (n c : Nat) (w' : World) (h : SlR w' A n c 1 (bytesL (List.cons 9 (bigE 4 k ++ v.l)))) (hn : n ≤ 100) => rsum_any _ A n c w' h (by omega))
 rw [← HE.out] at HS
 generalize eLeaf k v = el at *
 generalize List.cons 9 (bigE 4 k ++ v.l) = all at *
 generalize bigE 4 k = bk at *
 clear HE
 go_enter Tryz.func54, Tryz.ntmps54
 go_upto_region 1 with (go_big_may; first | (refine L_boxA (d := some 1) rfl rfl rfl (ev_tmp rfl) ?_; (try clear hnew); intro g1 W1 hnew; replace hst := hst.trans hnew; simp only [List.cons_append, List.nil_append] at hst) | (refine L_allocA (d := some 2) rfl rfl rfl el_api_Digest ?_; (try clear hnew); intro g2 W2 hnew; replace hst := hst.trans hnew; simp only [List.cons_append, List.nil_append] at hst))
 go_upto_region 2 with (go_big_may; first | (go_at_call 93; (try clear hnew); refine (HP.out _).mono ?_; rintro e Wp ⟨Op, rfl, hnew⟩; replace hst := hst.trans hnew; simp only [List.cons_append, List.nil_append] at hst) | (refine L_load1 (d := some 8) rfl rfl rfl (by rfl) Tryz.underlying3 rfl (by (exact cell_of (hst.get 1 rfl) prArr_0)) ?_))
 go_upto_region 3 with (go_big_may; first | ((refine L_loadM (d := some 13) rfl rfl rfl (by rfl) Tryz.underlying32 rfl el_api_Digest (by (exact prArr_range (hst.get 2 rfl))) (by (exact Dig.size _)) ?_)) | (refine L_allocA (d := some 5) rfl rfl rfl el_api_Digest ?_; (try clear hnew); intro g5 W5 hnew; replace hst := hst.trans hnew; simp only [List.cons_append, List.nil_append] at hst) | (refine wpl_at (.store 32 (.tmp 5) (.tmp 13)) rfl ?_; (refine L_storeA rfl rfl hst rfl (by rfl) (ev_tmp rfl) (by (exact Dig.one _)) el_api_Digest (by (exact Dig.size _)) 0 rfl (by (rfl)) ?_; clear hst; intro WS3 hst; simp only [List.set_cons_zero, List.set_cons_succ] at hst)))
 clear hnew
 refine wp_region_pm (.one 1 3 (.two 0 2 (.two 2 1 (.one 3 2 (.one 4 1 (.one 5 2 (.one 6 1 .nil)))) 3 2 (.one 2 1 (.one 4 1 (.one 5 2 (.one 6 1 .nil))))) 3 2 (.one 0 2 (.one 2 1 (.one 4 1 (.one 5 2 (.one 6 1 .nil))))))) (by kernel_rfl) (by kernel_rfl) ?_
 replace hst := hst.drew
 refine pm_p rfl rfl ?_; go_wp2_with fail
 refine pm_two (ki := 2) (kj := 2) rfl rfl ?_ ?_
 ·go_wp2_with ((refine L_buildS (d := some 14) rfl rfl rfl [_] (bs_1 ev_const) rfl Tryz.underlying22 el_uint8 rfl (by (simp [Value.cells]; done)) (by decide) (by decide) ?_; (try clear hnew); intro g14 W14 hnew; replace hst := hst.trans hnew; simp only [List.cons_append, List.nil_append] at hst; simp only [List.flatMap_cons, List.flatMap_nil, List.append_nil, Value.cells, List.toList_toArray] at hst)); refine ⟨fun _ => (by (exact hnew.below)), ?_⟩
  refine pm_two (ki := 1) (kj := 2) rfl rfl ?_ ?_
  ·go_wp2_with ((refine L_appendO (d := some 16) rfl rfl hst rfl (by rfl) (by rfl) Tryz.underlying22 el_uint8 rfl (by decide) (by decide) 0 rfl (by (rfl)) (by (exact hst.sl 2 rfl)) (by (exact oneCell_bytes)) (by omega) ?_; clear hst; intro A16 c16 W16 hst; simp only [List.set_cons_zero, List.set_cons_succ, List.nil_append, Nat.zero_add] at hst)); refine ⟨fun h => absurd h (by decide), ?_⟩
   refine pm_g rfl ?_; go_wp2_with ((refine L_sliceAll (d := some 17) rfl rfl rfl (by rfl) Tryz.underlying32 el_uint8 (by (exact hst.get 1 rfl)) (by (exact Dig.size _)) (by decide) ?_; intro hs17)); refine ⟨by (exact Below.refl _ _), ?_⟩
   refine pm_e rfl ?_; go_wp2_with ((refine L_appendO (d := some 18) rfl rfl hst rfl (by rfl) (by rfl) Tryz.underlying22 el_uint8 rfl (by decide) (by decide) 0 rfl (by (rfl)) (by (exact dig_sl (hst.get 1 rfl))) (by (exact oneCell_bytes)) (by omega) ?_; clear hst; intro A18 c18 W18 hst; simp only [List.set_cons_zero, List.set_cons_succ, List.nil_append, Nat.zero_add] at hst))
   refine pm_g rfl ?_; go_wp2_with ((go_at_call 76; (try clear hnew); refine (HS.out _ _ _ _ (by rw [← HB.out]; exact hst.sl 0 rfl) (by decide)).mono ?_; rintro e Wk9 ⟨rfl, hnew⟩; replace hst := hst.keep hnew)); refine ⟨by (exact hnew.below), ?_⟩
   refine pm_e rfl ?_; go_wp2_with ((refine wpl_at (.store 32 (.tmp 2) (.tmp 19)) rfl ?_; (refine L_storeA rfl rfl hst rfl (by rfl) (ev_tmp rfl) (by (exact Dig.one _)) el_api_Digest (by (exact Dig.size _)) 3 rfl (by (rfl)) ?_; clear hst; intro WS6 hst; simp only [List.set_cons_zero, List.set_cons_succ] at hst)))
   refine pm_nil ?_
   go_wp2_with fail
   refine bp_cell rfl rfl rfl (hst.get 3 rfl) Tryz.underlying32 rfl el_api_Digest (by (exact Dig.size _)) ?_
   exact ⟨rfl, hst.forget⟩
  ·go_wp2_with ((refine L_sliceAll (d := some 17) rfl rfl rfl (by rfl) Tryz.underlying32 el_uint8 (by (exact hst.get 1 rfl)) (by (exact Dig.size _)) (by decide) ?_; intro hs17)); refine ⟨fun _ => (by (exact Below.refl _ _)), ?_⟩
   refine pm_e rfl ?_; go_wp2_with ((refine L_appendO (d := some 16) rfl rfl hst rfl (by rfl) (by rfl) Tryz.underlying22 el_uint8 rfl (by decide) (by decide) 0 rfl (by (rfl)) (by (exact hst.sl 2 rfl)) (by (exact oneCell_bytes)) (by omega) ?_; clear hst; intro A16 c16 W16 hst; simp only [List.set_cons_zero, List.set_cons_succ, List.nil_append, Nat.zero_add] at hst))
   refine pm_e rfl ?_; go_wp2_with ((refine L_appendO (d := some 18) rfl rfl hst rfl (by rfl) (by rfl) Tryz.underlying22 el_uint8 rfl (by decide) (by decide) 0 rfl (by (rfl)) (by (exact dig_sl (hst.get 1 rfl))) (by (exact oneCell_bytes)) (by omega) ?_; clear hst; intro A18 c18 W18 hst; simp only [List.set_cons_zero, List.set_cons_succ, List.nil_append, Nat.zero_add] at hst))
   refine pm_g rfl ?_; go_wp2_with ((go_at_call 76; (try clear hnew); refine (HS.out _ _ _ _ (by rw [← HB.out]; exact hst.sl 0 rfl) (by decide)).mono ?_; rintro e Wk9 ⟨rfl, hnew⟩; replace hst := hst.keep hnew)); refine ⟨by (exact hnew.below), ?_⟩
   refine pm_e rfl ?_; go_wp2_with ((refine wpl_at (.store 32 (.tmp 2) (.tmp 19)) rfl ?_; (refine L_storeA rfl rfl hst rfl (by rfl) (ev_tmp rfl) (by (exact Dig.one _)) el_api_Digest (by (exact Dig.size _)) 3 rfl (by (rfl)) ?_; clear hst; intro WS6 hst; simp only [List.set_cons_zero, List.set_cons_succ] at hst)))
   refine pm_nil ?_
   go_wp2_with fail
   refine bp_cell rfl rfl rfl (hst.get 3 rfl) Tryz.underlying32 rfl el_api_Digest (by (exact Dig.size _)) ?_
   exact ⟨rfl, hst.forget⟩
 ·go_wp2_with ((refine L_sliceAll (d := some 17) rfl rfl rfl (by rfl) Tryz.underlying32 el_uint8 (by (exact hst.get 0 rfl)) (by (exact Dig.size _)) (by decide) ?_; intro hs17)); refine ⟨fun _ => (by (exact Below.refl _ _)), ?_⟩
  refine pm_g rfl ?_; go_wp2_with ((refine L_buildS (d := some 14) rfl rfl rfl [_] (bs_1 ev_const) rfl Tryz.underlying22 el_uint8 rfl (by (simp [Value.cells]; done)) (by decide) (by decide) ?_; (try clear hnew); intro g14 W14 hnew; replace hst := hst.trans hnew; simp only [List.cons_append, List.nil_append] at hst; simp only [List.flatMap_cons, List.flatMap_nil, List.append_nil, Value.cells, List.toList_toArray] at hst)); refine ⟨by (exact hnew.below), ?_⟩
  refine pm_e rfl ?_; go_wp2_with ((refine L_appendO (d := some 16) rfl rfl hst rfl (by rfl) (by rfl) Tryz.underlying22 el_uint8 rfl (by decide) (by decide) 0 rfl (by (rfl)) (by (exact hst.sl 2 rfl)) (by (exact oneCell_bytes)) (by omega) ?_; clear hst; intro A16 c16 W16 hst; simp only [List.set_cons_zero, List.set_cons_succ, List.nil_append, Nat.zero_add] at hst))
  refine pm_e rfl ?_; go_wp2_with ((refine L_appendO (d := some 18) rfl rfl hst rfl (by rfl) (by rfl) Tryz.underlying22 el_uint8 rfl (by decide) (by decide) 0 rfl (by (rfl)) (by (exact dig_sl (hst.get 1 rfl))) (by (exact oneCell_bytes)) (by omega) ?_; clear hst; intro A18 c18 W18 hst; simp only [List.set_cons_zero, List.set_cons_succ, List.nil_append, Nat.zero_add] at hst))
  refine pm_g rfl ?_; go_wp2_with ((go_at_call 76; (try clear hnew); refine (HS.out _ _ _ _ (by rw [← HB.out]; exact hst.sl 0 rfl) (by decide)).mono ?_; rintro e Wk9 ⟨rfl, hnew⟩; replace hst := hst.keep hnew)); refine ⟨by (exact hnew.below), ?_⟩
  refine pm_e rfl ?_; go_wp2_with ((refine wpl_at (.store 32 (.tmp 2) (.tmp 19)) rfl ?_; (refine L_storeA rfl rfl hst rfl (by rfl) (ev_tmp rfl) (by (exact Dig.one _)) el_api_Digest (by (exact Dig.size _)) 3 rfl (by (rfl)) ?_; clear hst; intro WS6 hst; simp only [List.set_cons_zero, List.set_cons_succ] at hst)))
  refine pm_nil ?_
  go_wp2_with fail
  refine bp_cell rfl rfl rfl (hst.get 3 rfl) Tryz.underlying32 rfl el_api_Digest (by (exact Dig.size _)) ?_
  exact ⟨rfl, hst.forget⟩
set_option maxHeartbeats 4000000 in
set_option maxRecDepth 100000 in
theorem rnoteB_any (n : NoteN) (w : World) (h : noteOk n = true) :
  Calls Tryz.prog 49 #[.agg (ntArr n.name n.key n.turn)] w fun e w' => ∃ A c, e = .returned (.tuple #[.slice A (noteB n).length c, .int .i64 0]) ∧ St w w' [.row A (noteB n).length c 5 1 (bytesL (noteB n))] := by
 have hst := St.refl w
 have h' := h
 unfold noteOk at h'
 rw [Bool.and_eq_true] at h'
 obtain ⟨h1, h3⟩ := h'
 have h2 := of_decide_eq_true h3
 clear h3
 have hl := isNm_len h1
 have HN := Lib.hid (fun w => by have := risname_any n.name w (by omega); rw [h1] at this; exact this)
 obtain ⟨t, ht⟩ := Int.eq_ofNat_of_zero_le h2.1
 have hB := length_noteB n
 have HBB := Lib.hid (show bytesL (noteB n) = bytesL (UInt8.ofNat n.name.length :: n.name) ++ n.key.arr.toList ++ bytesL (bigE 4 t) by rw [noteB, ht, Dig.toList, ← bytesL_append, ← bytesL_append]; simp)
 have HP := Lib.hid (fun w : World => by
  have := rput_any t 4 w (by decide) (by decide) (by omega)
  rw [show (((t >>> (8 * 4) : Nat) : Int) == 0) = true by rw [Nat.shiftRight_eq_div_pow, Nat.div_eq_of_lt (by omega)]; rfl] at this
  exact this)
 generalize noteB n = bs at *
 obtain ⟨s, k, m⟩ := n
 simp only at *
 obtain ⟨z, hz'⟩ : ∃ z, z = s.length := ⟨_, rfl⟩
 have HZ := Lib.hid hz'
 have HL := Lib.hid (len_byte s.length (by omega))
 have hz : (bsOf s).size = z := by rw [bsOf_size, hz']
 rw [← hz'] at hl hB
 have HBl := Lib.hid hB
 clear hB hz'
 subst ht
 clear h h1 h2
 go_enter Tryz.func49, Tryz.ntmps49
 go_upto_region 1 with (go_big_may; (refine L_boxA (d := some 1) rfl rfl rfl (ev_tmp rfl) ?_; (try clear hnew); intro g1 W1 hnew; replace hst := hst.trans hnew; simp only [List.cons_append, List.nil_append] at hst))
 go_upto_region 3 with (go_big_may; first | (go_at_call 31; (try clear hnew); refine (HN.out _).mono ?_; rintro e Wk10 ⟨rfl, hnew⟩; replace hst := hst.keep hnew) | (refine L_load1 (d := some 10) rfl rfl rfl (by rfl) Tryz.underlying9 rfl (by (exact cell_of (hst.get 0 rfl) ntArr_0)) ?_))
 go_upto_region 4 with (go_big_may; first | (go_at_call 93; (try clear hnew); refine (HP.out _).mono ?_; rintro e Wp ⟨Op, rfl, hnew⟩; replace hst := hst.trans hnew; simp only [List.cons_append, List.nil_append] at hst; clear hnew) | (refine L_load1 (d := some 15) rfl rfl rfl (by rfl) Tryz.underlying3 rfl (by (exact cell_of (hst.get 0 rfl) ntArr_33)) ?_))
 go_upto_region 6 with (go_big_may; fail)
 go_upto_region 7 with (go_big_may; first | (refine L_load1 (d := some 22) rfl rfl rfl (by rfl) Tryz.underlying9 rfl (by (exact cell_of (hst.get 1 rfl) ntArr_0)) ?_) | (refine L_buildS (d := some 25) rfl rfl rfl [_] (bs_1 (ev_tmp rfl)) rfl Tryz.underlying22 el_uint8 rfl (by (simp [Value.cells]; done)) (by decide) (by decide) ?_; (try clear hnew); intro g25 W25 hnew; replace hst := hst.trans hnew; simp only [List.cons_append, List.nil_append] at hst; simp only [List.flatMap_cons, List.flatMap_nil, List.append_nil, Value.cells, List.toList_toArray] at hst))
 have HU := Lib.hid (show [Value.int .u8 (z : Int)] = bytesL (UInt8.ofNat s.length :: s.take 0) from by
  have h1 : (UInt8.ofNat s.length).toNat = z := by rw [UInt8.toNat_ofNat', ← HZ.out]; omega
  simp [bytesL, byteV, h1])
 rw [HU.out] at hst
 clear hnew HU HP HN
 go_wp2_with fail
 go_loopg [6, 7] z (fun gk s6 s7 wr => ∃ (i : Nat) (O : Option Addr) (oc : Nat), Hid (i + gk = z) ∧ s6 = .slice O (1 + i) oc ∧ s7 = .int .i64 (i : Int) ∧ St w wr [.row O (1 + i) oc 5 1 (bytesL (UInt8.ofNat s.length :: s.take i)), .row Op 4 4 5 1 (bytesL (bigE 4 t)), .blk g1 34 (ntArr s k (t : Int))])
 case atStart => exact ⟨0, g25, 1, Lib.hid (by omega), rfl, rfl, hst⟩
 case round =>
  clear hst
  obtain ⟨i, O, oc, HI, rfl, rfl, hst⟩ := hrel
  have hi := HI.out
  by_cases hin : i < z
  ·have hil : i < s.length := by rw [← HZ.out]; exact hin
   have HC := Lib.hid (bs_at s i hil)
   have HE := Lib.hid (show bytesL (UInt8.ofNat s.length :: s.take i) ++ [Value.int .u8 ((s.getD i 0).toNat : Int)] = bytesL (UInt8.ofNat s.length :: s.take (i + 1)) by
    rw [List.take_succ_eq_append_getElem hil, List.getD_eq_getElem?_getD, List.getElem?_eq_getElem hil, Option.getD_some, ← List.cons_append, bytesL_append]
    rfl)
   generalize s.getD i 0 = b at *
   have hi30 : i ≤ 30 := by omega
   clear hil hi
   go_upto_region 10 with (go_big_may; (refine L_load1 (d := some 28) rfl rfl rfl (by rfl) Tryz.underlying9 rfl (by (exact cell_of (hst.get 2 rfl) ntArr_0)) ?_))
   go_upto_region 9 with (go_big_may; first | (refine L_strIx (d := some 37) rfl rfl rfl Tryz.underlying9 rfl (by rfl) i rfl HC.out ?_) | (refine L_load1 (d := some 35) rfl rfl rfl (by rfl) Tryz.underlying9 rfl (by (exact cell_of (hst.get 2 rfl) ntArr_0)) ?_) | (refine L_buildS (d := some 38) rfl rfl rfl [_] (bs_1 (ev_tmp rfl)) rfl Tryz.underlying22 el_uint8 rfl (by (simp [Value.cells]; done)) (by decide) (by decide) ?_; (try clear hnew); intro g38 W38 hnew; replace hst := hst.trans hnew; simp only [List.cons_append, List.nil_append] at hst; simp only [List.flatMap_cons, List.flatMap_nil, List.append_nil, Value.cells, List.toList_toArray] at hst) | (refine L_appendO (d := some 39) rfl rfl hst rfl (by rfl) (by rfl) Tryz.underlying22 el_uint8 rfl (by decide) (by decide) 1 rfl (by (rfl)) (by (exact hst.sl 0 rfl)) (by (simp [Value.oneCell']; done)) (by omega) ?_; clear hst; intro A39 c39 W39 hst; simp only [List.set_cons_zero, List.set_cons_succ, List.nil_append, Nat.zero_add] at hst))
   go_wp2_with (fail)
   rw [HE.out] at hst
   go_roundg (gk - 1)
   case measure => have := HI.out; omega
   case rel => exact ⟨i + 1, _, _, Lib.hid (by have := HI.out; omega), rfl, by go_num, hst.pick [1, 2, 3] (by decide)⟩
  ·obtain rfl : i = z := by omega
   have HE := Lib.hid (show s.take i = s by rw [HZ.out, List.take_length])
   rw [HE.out] at hst
   clear hi HI hin HE
   go_upto_region 11 with (go_big_may; (refine L_load1 (d := some 28) rfl rfl rfl (by rfl) Tryz.underlying9 rfl (by (exact cell_of (hst.get 2 rfl) ntArr_0)) ?_))
   go_upto_region 12 with (go_big_may; first | ((refine L_loadM (d := some 41) rfl rfl rfl (by rfl) Tryz.underlying32 rfl el_api_Digest (by (exact ntArr_key (hst.get 2 rfl))) (by (exact Dig.size _)) ?_)) | (refine L_allocA (d := some 8) rfl rfl rfl el_api_Digest ?_; (try clear hnew); intro g8 W8 hnew; replace hst := hst.trans hnew; simp only [List.cons_append, List.nil_append] at hst) | (refine wpl_at (.store 32 (.tmp 8) (.tmp 41)) rfl ?_; (refine L_storeA rfl rfl hst rfl (by rfl) (ev_tmp rfl) (by (exact Dig.one _)) el_api_Digest (by (exact Dig.size _)) 0 rfl (by (rfl)) ?_; clear hst; intro WS3 hst; simp only [List.set_cons_zero, List.set_cons_succ] at hst)))
   go_upto_region 13 with (go_big_may; first | (refine L_sliceAll (d := some 43) rfl rfl rfl (by rfl) Tryz.underlying32 el_uint8 (by (exact hst.get 0 rfl)) (by (exact Dig.size _)) (by decide) ?_; intro hs43) | (refine L_appendO (d := some 44) rfl rfl hst rfl (by rfl) (by rfl) Tryz.underlying22 el_uint8 rfl (by decide) (by decide) 1 rfl (by (rfl)) (by (assumption)) (by (exact oneCell_bytes)) (by omega) ?_; clear hst; intro A44 c44 W44 hst; simp only [List.set_cons_zero, List.set_cons_succ, List.nil_append, Nat.zero_add] at hst))
   go_wp2_with ((refine L_appendO (d := some 47) rfl rfl hst rfl (by rfl) (by rfl) Tryz.underlying22 el_uint8 rfl (by decide) (by decide) 1 rfl (by (rfl)) (by (exact hst.sl 2 rfl)) (by (exact oneCell_bytes)) (by omega) ?_; clear hst; intro A47 c47 W47 hst; simp only [List.set_cons_zero, List.set_cons_succ, List.nil_append, Nat.zero_add] at hst))
   go_ret2
   rw [HBl.out, show i + 37 = 1 + i + 32 + 4 by omega, HBB.out]
   exact ⟨_, _, rfl, hst.pick [1] (by decide)⟩
end Go.Proofs.YtaebeemnipafbaaGreatDoor

set_option linter.unusedSimpArgs false
set_option linter.unusedVariables false
namespace Go.Proofs.YtaebeemnipafbaaGreatDoor
def longN (i n : Nat) : Nat :=
 if _h : n < 2 then 0
 else if i < halfN n then longN i (halfN n) + 1
 else longN (i - halfN n) (n - halfN n) + 1
termination_by n
decreasing_by
 ·exact halfN_lt n (by omega)
 ·have := halfN_pos n
  omega
theorem longN_one (i : Nat) {n : Nat} (h : n < 2) : longN i n = 0 := by rw [longN, dif_pos h]
theorem longN_left {i n : Nat} (h : 2 ≤ n) (hi : i < halfN n) : longN i n = longN i (halfN n) + 1 := by rw [longN, dif_neg (by omega), if_pos hi]
theorem longN_right {i n : Nat} (h : 2 ≤ n) (hi : ¬ i < halfN n) : longN i n = longN (i - halfN n) (n - halfN n) + 1 := by rw [longN, dif_neg (by omega), if_neg hi]
def sidesN (i n : Nat) : List Bool :=
 if _h : n < 2 then []
 else if i < halfN n then true :: sidesN i (halfN n)
 else false :: sidesN (i - halfN n) (n - halfN n)
termination_by n
decreasing_by
 ·exact halfN_lt n (by omega)
 ·have := halfN_pos n
  omega
theorem sidesN_one (i : Nat) {n : Nat} (h : n < 2) : sidesN i n = [] := by rw [sidesN, dif_pos h]
theorem sidesN_left {i n : Nat} (h : 2 ≤ n) (hi : i < halfN n) : sidesN i n = true :: sidesN i (halfN n) := by rw [sidesN, dif_neg (by omega), if_pos hi]
theorem sidesN_right {i n : Nat} (h : 2 ≤ n) (hi : ¬ i < halfN n) : sidesN i n = false :: sidesN (i - halfN n) (n - halfN n) := by rw [sidesN, dif_neg (by omega), if_neg hi]
theorem length_sidesN : ∀ (n i : Nat), (sidesN i n).length = longN i n := by
 intro n
 induction n using Nat.strongRecOn with
 | ind n ih =>
 intro i
 by_cases h : n < 2
 ·rw [sidesN_one i h, longN_one i h]
  rfl
 ·have h1 := halfN_lt n (by omega)
  have h2 := halfN_pos n
  by_cases hi : i < halfN n
  ·rw [sidesN_left (by omega) hi, longN_left (by omega) hi, List.length_cons, ih _ h1]
  ·rw [sidesN_right (by omega) hi, longN_right (by omega) hi, List.length_cons, ih _ (by omega)]
def pathN (ls : List Dig) (i : Nat) : List Dig :=
 if _h : ls.length < 2 then []
 else if i < halfN ls.length then pathN (ls.take (halfN ls.length)) i ++ [rootN (ls.drop (halfN ls.length))]
 else pathN (ls.drop (halfN ls.length)) (i - halfN ls.length) ++ [rootN (ls.take (halfN ls.length))]
termination_by ls.length
decreasing_by
 ·have := halfN_lt ls.length (by omega)
  rw [List.length_take]
  omega
 ·have := halfN_pos ls.length
  rw [List.length_drop]
  omega
theorem pathN_one {ls : List Dig} (i : Nat) (h : ls.length < 2) : pathN ls i = [] := by rw [pathN, dif_pos h]
theorem pathN_left {ls : List Dig} {i : Nat} (h : 2 ≤ ls.length) (hi : i < halfN ls.length) : pathN ls i = pathN (ls.take (halfN ls.length)) i ++ [rootN (ls.drop (halfN ls.length))] := by
 rw [pathN, dif_neg (by omega), if_pos hi]
theorem pathN_right {ls : List Dig} {i : Nat} (h : 2 ≤ ls.length) (hi : ¬ i < halfN ls.length) : pathN ls i = pathN (ls.drop (halfN ls.length)) (i - halfN ls.length) ++ [rootN (ls.take (halfN ls.length))] := by
 rw [pathN, dif_neg (by omega), if_neg hi]
theorem length_pathN : ∀ (n : Nat) (ls : List Dig) (i : Nat), ls.length = n → (pathN ls i).length = longN i n := by
 intro n
 induction n using Nat.strongRecOn with
 | ind n ih =>
 intro ls i hl
 by_cases h : n < 2
 ·rw [pathN_one i (by omega), longN_one i h]
  rfl
 ·have h1 := halfN_lt n (by omega)
  have h2 := halfN_pos n
  by_cases hi : i < halfN n
  ·rw [pathN_left (by omega) (by rw [hl]; exact hi), longN_left (by omega) hi, List.length_append, hl, ih _ h1 (ls.take (halfN n)) i (by rw [List.length_take]; omega), List.length_singleton]
  ·rw [pathN_right (by omega) (by rw [hl]; exact hi), longN_right (by omega) hi, List.length_append, hl, ih (n - halfN n) (by omega) (ls.drop (halfN n)) (i - halfN n) (by rw [List.length_drop]; omega), List.length_singleton]
def foldN (l : Dig) : List (Dig × Bool) → Dig
 | [] => l
 | (p, s) :: r => foldN (if s then nodeN l p else nodeN p l) r
theorem foldN_append (l : Dig) (a b : List (Dig × Bool)) : foldN l (a ++ b) = foldN (foldN l a) b := by
 induction a generalizing l with
 | nil => rfl
 | cons x a ih =>
  obtain ⟨p, s⟩ := x
  exact ih _
def foldedN (l : Dig) (i n : Nat) (path : List Dig) : Dig := foldN l (path.zip (sidesN i n).reverse)
theorem foldedN_one (l : Dig) (i : Nat) {n : Nat} (h : n < 2) (path : List Dig) : foldedN l i n path = l := by
 unfold foldedN
 rw [sidesN_one i h, List.reverse_nil, List.zip_nil_right]
 rfl
theorem foldedN_left (l : Dig) {i n : Nat} (h : 2 ≤ n) (hi : i < halfN n) (path : List Dig) (p : Dig) (hp : path.length = longN i (halfN n)) :
  foldedN l i n (path ++ [p]) = nodeN (foldedN l i (halfN n) path) p := by
 unfold foldedN
 rw [sidesN_left h hi, List.reverse_cons, List.zip_append (by rw [List.length_reverse, length_sidesN, hp]), foldN_append]
 rfl
theorem foldedN_right (l : Dig) {i n : Nat} (h : 2 ≤ n) (hi : ¬ i < halfN n) (path : List Dig) (p : Dig) (hp : path.length = longN (i - halfN n) (n - halfN n)) :
  foldedN l i n (path ++ [p]) = nodeN p (foldedN l (i - halfN n) (n - halfN n) path) := by
 unfold foldedN
 rw [sidesN_right h hi, List.reverse_cons, List.zip_append (by rw [List.length_reverse, length_sidesN, hp]), foldN_append]
 rfl
theorem folded_path : ∀ (n : Nat) (ls : List Dig) (i : Nat) (hl : ls.length = n) (hi : i < n), foldedN (ls[i]'(by omega)) i n (pathN ls i) = rootN ls := by
 intro n
 induction n using Nat.strongRecOn with
 | ind n ih =>
 intro ls i hl hi
 by_cases h : n < 2
 ·obtain rfl : n = 1 := by omega
  obtain rfl : i = 0 := by omega
  obtain ⟨d, rfl⟩ : ∃ d, ls = [d] := by
   match ls, hl with
   | [d], _ => exact ⟨d, rfl⟩
  rw [foldedN_one _ _ (by omega), rootN_one]
  rfl
 ·have h1 := halfN_lt n (by omega)
  have h2 := halfN_pos n
  obtain ⟨x, hx⟩ : ∃ x, x = ls[i]'(by omega) := ⟨_, rfl⟩
  rw [← hx]
  rw [rootN_more ls (by omega), hl]
  by_cases hk : i < halfN n
  ·rw [pathN_left (by omega) (by rw [hl]; exact hk), hl, foldedN_left _ (by omega) hk (pathN (ls.take (halfN n)) i) _ (length_pathN _ (ls.take (halfN n)) _ (by rw [List.length_take]; omega))]
   have := ih _ h1 (ls.take (halfN n)) i (by rw [List.length_take]; omega) hk
   rw [List.getElem_take, ← hx] at this
   rw [this]
  ·rw [pathN_right (by omega) (by rw [hl]; exact hk), hl, foldedN_right _ (by omega) hk (pathN (ls.drop (halfN n)) (i - halfN n)) _ (length_pathN _ (ls.drop (halfN n)) _ (by rw [List.length_drop]; omega))]
   have := ih (n - halfN n) (by omega) (ls.drop (halfN n)) (i - halfN n) (by rw [List.length_drop]; omega) (by omega)
   rw [List.getElem_drop] at this
   simp only [show halfN n + (i - halfN n) = i by omega] at this
   rw [← hx] at this
   rw [this]
def hvN (n : Nat) : Nat := if _h : n = 0 then 0 else hvN (n / 2) + 1
termination_by n
theorem hvN_zero : hvN 0 = 0 := by rw [hvN]; rfl
theorem hvN_pos {n : Nat} (h : n ≠ 0) : hvN n = hvN (n / 2) + 1 := by rw [hvN, dif_neg h]
theorem hvN_mono : ∀ (n m : Nat), m ≤ n → hvN m ≤ hvN n := by
 intro n
 induction n using Nat.strongRecOn with
 | ind n ih =>
 intro m hm
 by_cases h0 : m = 0
 ·subst h0
  rw [hvN_zero]
  exact Nat.zero_le _
 ·rw [hvN_pos h0, hvN_pos (n := n) (by omega)]
  have := ih (n / 2) (by omega) (m / 2) (by omega)
  omega
theorem hvN_pow : ∀ k, hvN (2 ^ k - 1) = k
 | 0 => hvN_zero
 | k + 1 => by
  have hp := Nat.two_pow_pos k
  rw [hvN_pos (by rw [Nat.pow_succ]; omega), show (2 ^ (k + 1) - 1) / 2 = 2 ^ k - 1 by rw [Nat.pow_succ]; omega, hvN_pow k]
theorem hvN_full (k : Nat) : hvN (2 ^ k) = k + 1 := by
 rw [hvN_pos (by have := Nat.two_pow_pos k; omega)]
 cases k with
 | zero => rw [show 2 ^ 0 / 2 = 0 by decide, hvN_zero]
 | succ k => rw [show 2 ^ (k + 1) / 2 = 2 ^ k by rw [Nat.pow_succ]; omega, hvN_full k]
theorem long_le : ∀ (n i : Nat), longN i n ≤ hvN (n - 1) := by
 intro n
 induction n using Nat.strongRecOn with
 | ind n ih =>
 intro i
 by_cases h : n < 2
 ·rw [longN_one i h]
  exact Nat.zero_le _
 ·have h1 := halfN_lt n (by omega)
  have h2 := halfN_pos n
  have hk : halfN n ≤ n - 1 := by omega
  have hb := hvN_mono (n - 1) (halfN n) hk
  have hp : halfN n = 2 ^ Nat.log2 (n - 1) := rfl
  rw [hp, hvN_full] at hb
  have hu : n - 1 < 2 ^ (Nat.log2 (n - 1) + 1) := Nat.lt_log2_self
  by_cases hi : i < halfN n
  ·have := ih _ h1 i
   rw [longN_left (by omega) hi]
   rw [hp, hvN_pow] at this
   rw [hp]
   omega
  ·have := ih (n - halfN n) (by omega) (i - halfN n)
   rw [longN_right (by omega) hi]
   have hm := hvN_mono (2 ^ Nat.log2 (n - 1) - 1) (n - halfN n - 1) (by rw [Nat.pow_succ] at hu; omega)
   rw [hvN_pow] at hm
   omega
end Go.Proofs.YtaebeemnipafbaaGreatDoor

set_option maxRecDepth 20000
set_option linter.unusedSimpArgs false
set_option linter.unusedVariables false
namespace Go.Proofs.YtaebeemnipafbaaGreatDoor
def plN (n m : Nat) (own : Bool) : Nat :=
 if m = n then (if own then 0 else 1)
 else if _h : n < 2 then 0
 else if m ≤ halfN n then plN (halfN n) m own + 1
 else plN (n - halfN n) (m - halfN n) false + 1
termination_by n
decreasing_by
 ·exact halfN_lt n (by omega)
 ·have := halfN_pos n
  omega
theorem plN_all (n : Nat) (own : Bool) : plN n n own = if own then 0 else 1 := by rw [plN, if_pos rfl]
theorem plN_left {n m : Nat} {own : Bool} (h : m ≠ n) (h2 : 2 ≤ n) (hk : m ≤ halfN n) : plN n m own = plN (halfN n) m own + 1 := by rw [plN, if_neg h, dif_neg (by omega), if_pos hk]
theorem plN_right {n m : Nat} {own : Bool} (h : m ≠ n) (h2 : 2 ≤ n) (hk : ¬ m ≤ halfN n) : plN n m own = plN (n - halfN n) (m - halfN n) false + 1 := by rw [plN, if_neg h, dif_neg (by omega), if_neg hk]
theorem plN_le : ∀ (n m : Nat) (own : Bool), plN n m own ≤ n + 1 := by
 intro n
 induction n using Nat.strongRecOn with
 | ind n ih =>
 intro m own
 by_cases h : m = n
 ·subst h
  rw [plN_all]
  split <;> omega
 ·by_cases h2 : n < 2
  ·rw [plN, if_neg h, dif_pos h2]
   omega
  ·have h1 := halfN_lt n (by omega)
   have h3 := halfN_pos n
   by_cases hk : m ≤ halfN n
   ·have := ih _ h1 m own
    rw [plN_left h (by omega) hk]
    omega
   ·have := ih (n - halfN n) (by omega) (m - halfN n) false
    rw [plN_right h (by omega) hk]
    omega
def gpN (ls : List Dig) (m : Nat) (own : Bool) : List Dig :=
 if m = ls.length then (if own then [] else [rootN ls])
 else if _h : ls.length < 2 then []
 else if m ≤ halfN ls.length then gpN (ls.take (halfN ls.length)) m own ++ [rootN (ls.drop (halfN ls.length))]
 else gpN (ls.drop (halfN ls.length)) (m - halfN ls.length) false ++ [rootN (ls.take (halfN ls.length))]
termination_by ls.length
decreasing_by
 ·have := halfN_lt ls.length (by omega)
  rw [List.length_take]
  omega
 ·have := halfN_pos ls.length
  rw [List.length_drop]
  omega
theorem gpN_all (ls : List Dig) {m : Nat} (own : Bool) (h : m = ls.length) : gpN ls m own = if own then [] else [rootN ls] := by rw [gpN, if_pos h]
theorem gpN_left {ls : List Dig} {m : Nat} {own : Bool} (h : m ≠ ls.length) (h2 : 2 ≤ ls.length) (hk : m ≤ halfN ls.length) : gpN ls m own = gpN (ls.take (halfN ls.length)) m own ++ [rootN (ls.drop (halfN ls.length))] := by
 rw [gpN, if_neg h, dif_neg (by omega), if_pos hk]
theorem gpN_right {ls : List Dig} {m : Nat} {own : Bool} (h : m ≠ ls.length) (h2 : 2 ≤ ls.length) (hk : ¬ m ≤ halfN ls.length) : gpN ls m own = gpN (ls.drop (halfN ls.length)) (m - halfN ls.length) false ++ [rootN (ls.take (halfN ls.length))] := by
 rw [gpN, if_neg h, dif_neg (by omega), if_neg hk]
theorem length_gpN : ∀ (n : Nat) (ls : List Dig) (m : Nat) (own : Bool), ls.length = n → (gpN ls m own).length = plN n m own := by
 intro n
 induction n using Nat.strongRecOn with
 | ind n ih =>
 intro ls m own hl
 by_cases h : m = n
 ·subst h
  rw [gpN_all ls own hl.symm, plN_all]
  split <;> rfl
 ·by_cases h2 : n < 2
  ·rw [gpN, if_neg (by omega), dif_pos (by omega), plN, if_neg h, dif_pos h2]
   rfl
  ·have h1 := halfN_lt n (by omega)
   have h3 := halfN_pos n
   by_cases hk : m ≤ halfN n
   ·rw [gpN_left (by omega) (by omega) (by rw [hl]; exact hk), plN_left h (by omega) hk, List.length_append, hl, ih _ h1 (ls.take (halfN n)) m own (by rw [List.length_take]; omega), List.length_singleton]
   ·rw [gpN_right (by omega) (by omega) (by rw [hl]; exact hk), plN_right h (by omega) hk, List.length_append, hl, ih (n - halfN n) (by omega) (ls.drop (halfN n)) (m - halfN n) false (by rw [List.length_drop]; omega), List.length_singleton]
def grN (n m : Nat) (own : Bool) (old : Dig) (p : List Dig) : Dig × Dig :=
 if m = n then (if own then (old, old) else (p.getLastD zeroD, p.getLastD zeroD))
 else if _h : n < 2 then (old, old)
 else if m ≤ halfN n then
  ((grN (halfN n) m own old p.dropLast).1, nodeN (grN (halfN n) m own old p.dropLast).2 (p.getLastD zeroD))
 else
  (nodeN (p.getLastD zeroD) (grN (n - halfN n) (m - halfN n) false old p.dropLast).1, nodeN (p.getLastD zeroD) (grN (n - halfN n) (m - halfN n) false old p.dropLast).2)
termination_by n
decreasing_by
 all_goals first | exact halfN_lt n (by omega) | (have := halfN_pos n; omega)
theorem grN_all (n : Nat) (own : Bool) (old : Dig) (p : List Dig) : grN n n own old p = if own then (old, old) else (p.getLastD zeroD, p.getLastD zeroD) := by rw [grN, if_pos rfl]
theorem grN_left {n m : Nat} {own : Bool} {old : Dig} (h : m ≠ n) (h2 : 2 ≤ n) (hk : m ≤ halfN n) (q : List Dig) (d : Dig) : grN n m own old (q ++ [d]) = ((grN (halfN n) m own old q).1, nodeN (grN (halfN n) m own old q).2 d) := by
 rw [grN, if_neg h, dif_neg (by omega), if_pos hk]
 simp
theorem grN_right {n m : Nat} {own : Bool} {old : Dig} (h : m ≠ n) (h2 : 2 ≤ n) (hk : ¬ m ≤ halfN n) (q : List Dig) (d : Dig) : grN n m own old (q ++ [d]) = (nodeN d (grN (n - halfN n) (m - halfN n) false old q).1, nodeN d (grN (n - halfN n) (m - halfN n) false old q).2) := by
 rw [grN, if_neg h, dif_neg (by omega), if_neg hk]
 simp
theorem root_take {ls : List Dig} {m : Nat} (h2 : 2 ≤ ls.length) (hk : ¬ m ≤ halfN ls.length) (hm : m ≤ ls.length) :
  rootN (ls.take m) = nodeN (rootN (ls.take (halfN ls.length))) (rootN ((ls.drop (halfN ls.length)).take (m - halfN ls.length))) := by
 have h3 := halfN_pos ls.length
 have hl : (ls.take m).length = m := by rw [List.length_take]; omega
 have hh : halfN m = halfN ls.length := by
  have hu : ls.length - 1 < 2 ^ (Nat.log2 (ls.length - 1) + 1) := Nat.lt_log2_self
  refine halfN_of (Nat.log2 (ls.length - 1)) rfl (by omega) ?_
  unfold halfN
  rw [Nat.pow_succ] at hu
  omega
 rw [rootN_more (ls.take m) (by omega), hl, hh, List.take_take, Nat.min_eq_left (by omega), List.drop_take]
theorem grow_proves : ∀ (n : Nat) (ls : List Dig) (m : Nat) (own : Bool) (old : Dig), ls.length = n → 1 ≤ m → m ≤ n → (own = true → old = rootN (ls.take m)) → grN n m own old (gpN ls m own) = (rootN (ls.take m), rootN ls) := by
 intro n
 induction n using Nat.strongRecOn with
 | ind n ih =>
 intro ls m own old hl h1 hm ho
 by_cases h : m = n
 ·subst h
  rw [gpN_all ls own hl.symm, grN_all, List.take_of_length_le (by omega)]
  cases own with
  | true =>
   have := ho rfl
   rw [List.take_of_length_le (by omega)] at this
   simp [this]
  | false => simp
 ·have h2 : 2 ≤ n := by omega
  have hlt := halfN_lt n h2
  have hps := halfN_pos n
  by_cases hk : m ≤ halfN n
  ·have hl' : (ls.take (halfN n)).length = halfN n := by rw [List.length_take]; omega
   have ht : (ls.take (halfN n)).take m = ls.take m := by rw [List.take_take, Nat.min_eq_left hk]
   have := ih _ hlt (ls.take (halfN n)) m own old hl' h1 hk (fun e => by rw [ht]; exact ho e)
   rw [gpN_left (by omega) (by omega) (by rw [hl]; exact hk), hl, grN_left h h2 hk, this, ht, rootN_more ls (by omega), hl]
  ·have hl' : (ls.drop (halfN n)).length = n - halfN n := by rw [List.length_drop, hl]
   have := ih (n - halfN n) (by omega) (ls.drop (halfN n)) (m - halfN n) false old hl' (by omega) (by omega) (fun e => by cases e)
   rw [gpN_right (by omega) (by omega) (by rw [hl]; exact hk), hl, grN_right h h2 hk, this, root_take (m := m) (by omega) (by rw [hl]; exact hk) (by omega), rootN_more ls (by omega), hl]
end Go.Proofs.YtaebeemnipafbaaGreatDoor

set_option linter.unusedSimpArgs false
set_option linter.unusedVariables false
namespace Go.Proofs.YtaebeemnipafbaaGreatDoor
structure SwapAt {α : Type} (l l' : List α) (i : Nat) : Prop where
 len : l'.length = l.length
 at_ : ∀ k, k < l.length → l'[k]? = if k < i ∨ l.length ≤ k + i then l[l.length - 1 - k]? else l[k]?
theorem SwapAt.start {α : Type} (l : List α) : SwapAt l l 0 := ⟨rfl, fun k hk => by rw [if_neg (by omega)]⟩
theorem SwapAt.step {α : Type} {l l' : List α} {i : Nat} (h : SwapAt l l' i) (hi : 2 * i + 1 < l.length) {x y : α} (hx : l'[i]? = some x) (hy : l'[l.length - 1 - i]? = some y) : SwapAt l ((l'.set i y).set (l.length - 1 - i) x) (i + 1) := by
 refine ⟨by rw [List.length_set, List.length_set, h.len], fun k hk => ?_⟩
 have h1 := h.at_ i (by omega)
 have h2 := h.at_ (l.length - 1 - i) (by omega)
 rw [if_neg (by omega), hx] at h1
 rw [if_neg (by omega), hy] at h2
 rw [List.getElem?_set, List.getElem?_set, List.length_set, h.len]
 by_cases hkj : l.length - 1 - i = k
 ·rw [if_pos hkj, if_pos (by omega), if_pos (by omega), h1]
  congr 1
  omega
 ·rw [if_neg hkj]
  by_cases hki : i = k
  ·subst hki
   rw [if_pos rfl, if_pos (by omega), if_pos (by omega), h2]
  ·rw [if_neg hki, h.at_ k hk]
   by_cases hc : k < i ∨ l.length ≤ k + i
   ·rw [if_pos hc, if_pos (by omega)]
   ·rw [if_neg hc, if_neg (by omega)]
theorem SwapAt.done {α : Type} {l l' : List α} {i : Nat} (h : SwapAt l l' i) (hi : l.length ≤ 2 * i + 1) : l' = l.reverse := by
 apply List.ext_getElem?
 intro k
 by_cases hk : k < l.length
 ·rw [h.at_ k hk, List.getElem?_reverse hk]
  by_cases hc : k < i ∨ l.length ≤ k + i
  ·rw [if_pos hc]
  ·rw [if_neg hc]
   congr 1
   omega
 ·rw [List.getElem?_eq_none (by rw [h.len]; omega), List.getElem?_eq_none (by rw [List.length_reverse]; omega)]
theorem digsL_cons (d : Dig) (l : List Dig) : digsL (d :: l) = d.arr.toList ++ digsL l := by simp [digsL, Dig.toList]
theorem digsL_set : ∀ (l : List Dig) (i : Nat) (d : Dig), i < l.length → (digsL l).take (i * 32) ++ d.arr.toList ++ (digsL l).drop (i * 32 + 32) = digsL (l.set i d)
 | [], i, d, h => by simp at h
 | x :: l, 0, d, _ => by
  rw [digsL_cons, List.set_cons_zero, digsL_cons, Nat.zero_mul, Nat.zero_add, List.take_zero, List.nil_append, List.drop_append_of_le_length (by rw [Array.length_toList, Dig.size]; exact Nat.le_refl _)]
  rw [List.drop_eq_nil_of_le (by rw [Array.length_toList, Dig.size]; exact Nat.le_refl _), List.nil_append]
 | x :: l, i + 1, d, h => by
  have hs : x.arr.toList.length = 32 := by rw [Array.length_toList, Dig.size]
  have ih := digsL_set l i d (by simpa using h)
  rw [digsL_cons, List.set_cons_succ, digsL_cons, ← ih, List.take_append, List.drop_append, hs]
  have e1 : x.arr.toList.take ((i + 1) * 32) = x.arr.toList := List.take_of_length_le (by omega)
  have e2 : x.arr.toList.drop ((i + 1) * 32 + 32) = [] := List.drop_eq_nil_of_le (by omega)
  rw [e1, e2, show (i + 1) * 32 - 32 = i * 32 by omega, show (i + 1) * 32 + 32 - 32 = i * 32 + 32 by omega, List.nil_append]
  simp only [List.append_assoc]
def boolsL (l : List Bool) : List Value := l.map fun b => .bool b
theorem length_boolsL (l : List Bool) : (boolsL l).length = l.length := by simp [boolsL]
theorem boolsL_append (a b : List Bool) : boolsL (a ++ b) = boolsL a ++ boolsL b := by simp [boolsL]
theorem boolsL_set (l : List Bool) (i : Nat) (b : Bool) : (boolsL l).set i (.bool b) = boolsL (l.set i b) := by simp [boolsL, List.map_set]
theorem boolsL_at (l : List Bool) (i : Nat) (h : i < l.length) : (boolsL l)[i]? = some (.bool l[i]) := by simp [boolsL, h]
theorem oneCell_bools {l : List Bool} : ∀ v ∈ boolsL l, v.oneCell' = true := fun v hv => by
 obtain ⟨b, _, rfl⟩ := List.mem_map.1 hv
 rfl
end Go.Proofs.YtaebeemnipafbaaGreatDoor

set_option maxRecDepth 20000
set_option linter.unusedSimpArgs false
set_option linter.unusedVariables false
namespace Go.Proofs.YtaebeemnipafbaaGreatDoor
open Go.RowKit
theorem el_bool : ElemIs Tryz.prog 4 (.bool false) 1 1 := by unfold ElemIs; kernel_rfl
set_option maxHeartbeats 2000000 in
theorem revB_any (l : List Bool) (n c : Nat) (A : Option Addr) (w0 w : World) (L : List Res) (hst : St w0 w (.row A n c 4 1 (boolsL l) :: L)) :
  Calls Tryz.prog 98 #[.slice A n c] w fun e w' => e = .returned (.tuple #[]) ∧ St w0 w' (.row A n c 4 1 (boolsL l.reverse) :: L) := by
 have hl : l.length = n := by have := (hst.sl 0 rfl).1; rw [length_boolsL] at this; omega
 have hcap := (hst.sl 0 rfl).2.1
 have hmax := (hst.sl 0 rfl).2.2.1
 simp only [maxLen] at hmax
 have Hl := Lib.hid hl
 clear hl
 go_enter Tryz.func98, Tryz.ntmps98
 go_wp2_with (fail)
 go_loopg [2, 3] n (fun gk s2 s3 wr => ∃ (i : Nat) (l' : List Bool), Hid (i + gk = n) ∧ Hid (SwapAt l l' i) ∧ s2 = .int .i64 (i : Int) ∧ s3 = .int .i64 ((n : Int) - 1 - (i : Int)) ∧ 2 * i ≤ n ∧ St w0 wr (.row A n c 4 1 (boolsL l') :: L))
 case atStart => exact ⟨0, l, Lib.hid (by omega), Lib.hid (SwapAt.start l), rfl, by congr 1; omega, by omega, hst⟩
 case round =>
  clear hst
  obtain ⟨i, l', HI, HS, rfl, rfl, h2i, hst⟩ := hrel
  have hi := HI.out
  by_cases hin : (i : Int) < (n : Int) - 1 - (i : Int)
  ·clear hi
   obtain ⟨x, hx⟩ : ∃ x, l'[i]? = some x := ⟨l'[i]'(by rw [HS.out.len, Hl.out]; omega), List.getElem?_eq_getElem _⟩
   obtain ⟨y, hy⟩ : ∃ y, l'[l.length - 1 - i]? = some y := ⟨l'[l.length - 1 - i]'(by rw [HS.out.len, Hl.out]; omega), List.getElem?_eq_getElem _⟩
   have HN := Lib.hid (HS.out.step (by rw [Hl.out]; omega) hx hy)
   have hat : ∀ (k : Nat) (z : Bool), l'[k]? = some z → ((boolsL l').drop (k * 1)).take 1 = [.bool z] := fun k z hz => by
    obtain ⟨hk, rfl⟩ := List.getElem?_eq_some_iff.1 hz
    rw [Nat.mul_one, List.drop_eq_getElem_cons (by rw [length_boolsL]; exact hk)]
    simp [boolsL]
   have HX := Lib.hid (show ((boolsL l').drop ((i : Int).toNat * 1)).take 1 = [.bool x] from hat i x hx)
   have HY := Lib.hid (show ((boolsL l').drop (((n : Int) - 1 - (i : Int)).toNat * 1)).take 1 = [.bool y] by
    rw [show ((n : Int) - 1 - (i : Int)).toNat = l.length - 1 - i by rw [Hl.out]; omega]
    exact hat _ y hy)
   have HP := Lib.hid (show (boolsL l').set ((i : Int).toNat * 1) (.bool y) = boolsL (l'.set i y) by rw [Nat.mul_one]; exact boolsL_set l' i y)
   have HQ := Lib.hid (show (boolsL (l'.set i y)).set (((n : Int) - 1 - (i : Int)).toNat * 1) (.bool x) = boolsL ((l'.set i y).set (l.length - 1 - i) x) by
    rw [Hl.out, Nat.mul_one, show ((n : Int) - 1 - (i : Int)).toNat = n - 1 - i by omega]
    exact boolsL_set _ _ x)
   clear hx hy hat
   go_wp2_with (fail)
   refine wp_region_pn (.one 0 3 (.one 1 3 (.one 2 3 (.one 3 3 (.one 4 3 (.one 5 3 (.one 8 3 (.one 9 3 (.one 6 0 (.one 7 0 (.one 10 2 (.one 11 2 (.one 12 2 (.one 13 1 (.one 14 2 (.one 15 1 .nil)))))))))))))))) (by kernel_rfl) (by kernel_rfl) ?_
   replace hst := hst.drew
   refine pn_p rfl rfl ?_; go_wp2_with fail
   refine pn_p rfl rfl ?_; go_wp2_with fail
   refine pn_p rfl rfl ?_; go_wp2_with fail
   refine pn_p rfl rfl ?_; go_wp2_with fail
   refine pn_p rfl rfl ?_; go_wp2_with fail
   refine pn_p rfl rfl ?_; go_wp2_with fail
   refine pn_p rfl rfl ?_; go_wp2_with fail
   refine pn_p rfl rfl ?_; go_wp2_with fail
   refine pn_q rfl rfl ?_; go_wp2_with ((refine L_idxS (d := some 20) rfl rfl rfl (by rfl) (by rfl) Tryz.underlying155 el_bool (by (exact hst.sl 0 rfl)) (by omega) (by omega) ?_; intro o20 p20 ha20 hr20; ((subst ha20))))
   refine pn_q rfl rfl ?_; go_wp2_with ((refine L_load1 (d := some 21) rfl rfl rfl (by rfl) Tryz.underlying4 rfl (v := .bool y) (hr20 0 (.bool y) (by rw [HY.out]; rfl)) ?_))
   refine pn_g rfl ?_; go_wp2_with ((refine L_idxS (d := some 24) rfl rfl rfl (by rfl) (by rfl) Tryz.underlying155 el_bool (by (exact hst.sl 0 rfl)) (by omega) (by omega) ?_; intro o24 p24 ha24 hr24; ((obtain ⟨h1, h2⟩ := some_addr ha24; subst h1; subst h2; clear ha24)))); refine ⟨by (exact Below.refl _ _), ?_⟩
   refine pn_g rfl ?_; go_wp2_with ((refine L_load1 (d := some 25) rfl rfl rfl (by rfl) Tryz.underlying4 rfl (v := .bool x) (hr24 0 (.bool x) (by rw [HX.out]; rfl)) ?_)); refine ⟨by (exact Below.refl _ _), ?_⟩
   refine pn_g rfl ?_; go_wp2_with (((refine L_idxO (d := some 26) rfl rfl hst rfl (by rfl) (by rfl) Tryz.underlying155 el_bool 0 rfl (by (rfl)) (by omega) (by omega) ?_; intro o26 p26 ha26; ((obtain ⟨h1, h2⟩ := some_addr ha26; subst h1; subst h2; clear ha26))))); refine ⟨by (exact Below.refl _ _), ?_⟩
   refine pn_e rfl ?_; go_wp2_with ((refine wpl_at (.store 4 (.tmp 26) (.tmp 21)) rfl ?_; (refine L_storeR rfl rfl hst rfl (by rfl) (ev_tmp rfl) rfl el_bool 0 rfl (by (omega)) ?_; clear hst; intro WS13 hst; simp only [List.set_cons_zero, List.set_cons_succ, HP.out, HQ.out] at hst)))
   refine pn_g rfl ?_; go_wp2_with (((refine L_idxO (d := some 27) rfl rfl hst rfl (by rfl) (by rfl) Tryz.underlying155 el_bool 0 rfl (by (rfl)) (by omega) (by omega) ?_; intro o27 p27 ha27; ((obtain ⟨h1, h2⟩ := some_addr ha27; subst h1; subst h2; clear ha27))))); refine ⟨by (exact Below.refl _ _), ?_⟩
   refine pn_e rfl ?_; go_wp2_with ((refine wpl_at (.store 4 (.tmp 27) (.tmp 25)) rfl ?_; (refine L_storeR rfl rfl hst rfl (by rfl) (ev_tmp rfl) rfl el_bool 0 rfl (by (omega)) ?_; clear hst; intro WS15 hst; simp only [List.set_cons_zero, List.set_cons_succ, HP.out, HQ.out] at hst)))
   refine pn_nil ?_
   go_wp2_with fail
   go_roundg (gk - 1)
   case measure => have hi := HI.out; omega
   case rel =>
    have hi := HI.out
    exact ⟨i + 1, _, Lib.hid (by omega), HN, by go_num, by congr 1; omega, by omega, hst⟩
  ·have hd := HS.out.done (by rw [Hl.out]; omega)
   rw [hd] at hst
   clear hd hi HI
   go_wp2_with (fail)
   go_end0
   exact ⟨rfl, hst⟩
set_option maxHeartbeats 2000000 in
theorem sides_any (i n : Nat) (hn : n ≤ 256) (hin : i < n) (w : World) : Calls Tryz.prog 97 #[.int .i64 (i : Int), .int .i64 (n : Int)] w fun e w' => ∃ A c, e = .returned (.slice A (longN i n) c) ∧ St w w' [.row A (longN i n) c 4 1 (boolsL (sidesN i n))] := by
 have hst := St.refl w
 go_enter Tryz.func97, Tryz.ntmps97
 go_wp2_with (fail)
 have hst : St w w [.row none 0 0 4 1 (boolsL [])] := hst.nilRow 4 1
 go_loopg [0, 1, 4] n (fun gk s0 s1 s4 wr => ∃ (i' p : Nat) (lt : List Bool) (O : Option Addr) (oc : Nat), Hid (lt ++ sidesN i' gk = sidesN i n) ∧ Hid (lt.length = p) ∧ i' < gk ∧ p + gk ≤ n ∧ s0 = .int .i64 (i' : Int) ∧ s1 = .int .i64 (gk : Int) ∧ s4 = .slice O p oc ∧ St w wr [.row O p oc 4 1 (boolsL lt)])
 case atStart => exact ⟨i, 0, [], none, 0, Lib.hid rfl, Lib.hid rfl, hin, by omega, rfl, rfl, rfl, hst⟩
 case round =>
  clear hst
  obtain ⟨i', p, lt, O, oc, HS, HL, hi', hp, rfl, rfl, rfl, hst⟩ := hrel
  by_cases h1 : 1 < gk
  ·have hlt := halfN_lt gk (by omega)
   have hps := halfN_pos gk
   have HF := Lib.hid (fun w => half_any gk (by omega) (by omega) w)
   by_cases hk : i' < halfN gk
   ·have HN := Lib.hid (show (lt ++ [true]) ++ sidesN i' (halfN gk) = sidesN i n by
     rw [← HS.out, sidesN_left (by omega) hk, List.append_assoc]
     rfl)
    have HB := Lib.hid (show boolsL lt ++ [.bool true] = boolsL (lt ++ [true]) by rw [boolsL_append]; rfl)
    generalize halfN gk = k at *
    go_wp2_with (first | (go_at_call 91; (try clear hnew); refine (HF.out _).mono ?_; rintro e Wk1 ⟨rfl, hnew⟩; replace hst := hst.keep hnew) | (refine L_buildS (d := some 14) rfl rfl rfl [_] (bs_1 (ev_tmp rfl)) rfl Tryz.underlying155 el_bool rfl (by (simp [Value.cells]; done)) (by decide) (by decide) ?_; (try clear hnew); intro g14 W14 hnew; replace hst := hst.trans hnew; simp only [List.cons_append, List.nil_append] at hst; simp only [List.flatMap_cons, List.flatMap_nil, List.append_nil, Value.cells, List.toList_toArray] at hst) | (refine L_appendO (d := some 15) rfl rfl hst rfl (by rfl) (by rfl) Tryz.underlying155 el_bool rfl (by decide) (by decide) 1 rfl (by (rfl)) (by (exact hst.sl 0 rfl)) (by (simp [Value.oneCell']; done)) (by omega) ?_; clear hst; intro A15 c15 W15 hst; simp only [List.set_cons_zero, List.set_cons_succ, List.nil_append, Nat.zero_add] at hst))
    go_roundg k
    case measure => exact hlt
    case rel =>
     refine ⟨i', p + 1, lt ++ [true], A15, c15, HN, Lib.hid (by rw [List.length_append, HL.out]; rfl), hk, by omega, rfl, rfl, rfl, ?_⟩
     rw [← HB.out]
     exact hst.pick [1] (by decide)
   ·have HN := Lib.hid (show (lt ++ [false]) ++ sidesN (i' - halfN gk) (gk - halfN gk) = sidesN i n by
     rw [← HS.out, sidesN_right (by omega) hk, List.append_assoc]
     rfl)
    have HB := Lib.hid (show boolsL lt ++ [.bool false] = boolsL (lt ++ [false]) by rw [boolsL_append]; rfl)
    generalize halfN gk = k at *
    go_wp2_with (first | (go_at_call 91; (try clear hnew); refine (HF.out _).mono ?_; rintro e Wk2 ⟨rfl, hnew⟩; replace hst := hst.keep hnew) | (refine L_buildS (d := some 14) rfl rfl rfl [_] (bs_1 (ev_tmp rfl)) rfl Tryz.underlying155 el_bool rfl (by (simp [Value.cells]; done)) (by decide) (by decide) ?_; (try clear hnew); intro g14 W14 hnew; replace hst := hst.trans hnew; simp only [List.cons_append, List.nil_append] at hst; simp only [List.flatMap_cons, List.flatMap_nil, List.append_nil, Value.cells, List.toList_toArray] at hst) | (refine L_appendO (d := some 15) rfl rfl hst rfl (by rfl) (by rfl) Tryz.underlying155 el_bool rfl (by decide) (by decide) 1 rfl (by (rfl)) (by (exact hst.sl 0 rfl)) (by (simp [Value.oneCell']; done)) (by omega) ?_; clear hst; intro A15 c15 W15 hst; simp only [List.set_cons_zero, List.set_cons_succ, List.nil_append, Nat.zero_add] at hst))
    go_roundg (gk - k)
    case measure => omega
    case rel =>
     refine ⟨i' - k, p + 1, lt ++ [false], A15, c15, HN, Lib.hid (by rw [List.length_append, HL.out]; rfl), by omega, by omega, by congr 1; omega, by congr 1; omega, rfl, ?_⟩
     rw [← HB.out]
     exact hst.pick [1] (by decide)
  ·have HN := Lib.hid (show lt = sidesN i n by rw [← HS.out, sidesN_one i' (by omega), List.append_nil])
   have hp' : p = longN i n := by rw [← length_sidesN, ← HN.out, HL.out]
   rw [hp', HN.out] at hst
   rw [hp']
   clear hp HS HL hp'
   go_wp2_with (fail)
   go_ret
   exact ⟨_, _, rfl, hst⟩
end Go.Proofs.YtaebeemnipafbaaGreatDoor

set_option maxRecDepth 20000
set_option linter.unusedSimpArgs false
set_option linter.unusedVariables false
namespace Go.Proofs.YtaebeemnipafbaaGreatDoor
open Go.RowKit
set_option maxHeartbeats 2000000 in
theorem revD_any (l : List Dig) (n c : Nat) (A : Option Addr) (w0 w : World) (L : List Res) (hst : St w0 w (.row A n c 32 32 (digsL l) :: L)) :
  Calls Tryz.prog 92 #[.slice A n c] w fun e w' => e = .returned (.tuple #[]) ∧ St w0 w' (.row A n c 32 32 (digsL l.reverse) :: L) := by
 have hl : l.length = n := by have := (hst.sl 0 rfl).1; rw [length_digsL] at this; omega
 have hcap := (hst.sl 0 rfl).2.1
 have hmax := (hst.sl 0 rfl).2.2.1
 simp only [maxLen] at hmax
 have Hl := Lib.hid hl
 clear hl
 go_enter Tryz.func92, Tryz.ntmps92
 go_wp2_with (fail)
 go_loopg [2, 3] n (fun gk s2 s3 wr => ∃ (i : Nat) (l' : List Dig), Hid (i + gk = n) ∧ Hid (SwapAt l l' i) ∧ s2 = .int .i64 (i : Int) ∧ s3 = .int .i64 ((n : Int) - 1 - (i : Int)) ∧ 2 * i ≤ n ∧ St w0 wr (.row A n c 32 32 (digsL l') :: L))
 case atStart => exact ⟨0, l, Lib.hid (by omega), Lib.hid (SwapAt.start l), rfl, by congr 1; omega, by omega, hst⟩
 case round =>
  clear hst
  obtain ⟨i, l', HI, HS, rfl, rfl, h2i, hst⟩ := hrel
  have hi := HI.out
  by_cases hin : (i : Int) < (n : Int) - 1 - (i : Int)
  ·clear hi
   obtain ⟨x, hx⟩ : ∃ x, l'[i]? = some x := ⟨l'[i]'(by rw [HS.out.len, Hl.out]; omega), List.getElem?_eq_getElem _⟩
   obtain ⟨y, hy⟩ : ∃ y, l'[l.length - 1 - i]? = some y := ⟨l'[l.length - 1 - i]'(by rw [HS.out.len, Hl.out]; omega), List.getElem?_eq_getElem _⟩
   have HN := Lib.hid (HS.out.step (by rw [Hl.out]; omega) hx hy)
   have hat : ∀ (k : Nat) (z : Dig), l'[k]? = some z → ((digsL l').drop (k * 32)).take 32 = z.arr.toList := fun k z hz => by
    obtain ⟨hk, rfl⟩ := List.getElem?_eq_some_iff.1 hz
    rw [digsL_at l' k hk, Dig.toList]
   have HX := Lib.hid (hat i x hx)
   have HY := Lib.hid (show ((digsL l').drop (((n : Int) - 1 - (i : Int)).toNat * 32)).take 32 = y.arr.toList by
    rw [show ((n : Int) - 1 - (i : Int)).toNat = l.length - 1 - i by rw [Hl.out]; omega]
    exact hat _ y hy)
   have HP := Lib.hid (show ((digsL l').take ((i : Int).toNat * 32) ++ y.arr.toList ++ (digsL l').drop ((i : Int).toNat * 32 + 32)) = digsL (l'.set i y) from digsL_set l' i y (by rw [HS.out.len, Hl.out]; omega))
   have HQ := Lib.hid (show ((digsL (l'.set i y)).take (((n : Int) - 1 - (i : Int)).toNat * 32) ++ x.arr.toList ++ (digsL (l'.set i y)).drop (((n : Int) - 1 - (i : Int)).toNat * 32 + 32)) = digsL ((l'.set i y).set (l.length - 1 - i) x) by
    rw [Hl.out, show ((n : Int) - 1 - (i : Int)).toNat = n - 1 - i by omega]
    exact digsL_set _ _ x (by rw [List.length_set, HS.out.len, Hl.out]; omega))
   clear hx hy hat
   go_wp2_with (fail)
   refine wp_region_pn (.one 0 3 (.one 1 3 (.one 2 3 (.one 3 3 (.one 4 3 (.one 5 3 (.one 8 3 (.one 9 3 (.one 6 0 (.one 7 0 (.one 10 2 (.one 11 2 (.one 12 2 (.one 13 1 (.one 14 2 (.one 15 1 .nil)))))))))))))))) (by kernel_rfl) (by kernel_rfl) ?_
   replace hst := hst.drew
   refine pn_p rfl rfl ?_; go_wp2_with fail
   refine pn_p rfl rfl ?_; go_wp2_with fail
   refine pn_p rfl rfl ?_; go_wp2_with fail
   refine pn_p rfl rfl ?_; go_wp2_with fail
   refine pn_p rfl rfl ?_; go_wp2_with fail
   refine pn_p rfl rfl ?_; go_wp2_with fail
   refine pn_p rfl rfl ?_; go_wp2_with fail
   refine pn_p rfl rfl ?_; go_wp2_with fail
   refine pn_q rfl rfl ?_; go_wp2_with ((refine L_idxS (d := some 20) rfl rfl rfl (by rfl) (by rfl) Tryz.underlying44 el_api_Digest (by (exact hst.sl 0 rfl)) (by omega) (by omega) ?_; intro o20 p20 ha20 hr20; ((subst ha20))))
   refine pn_q rfl rfl ?_; go_wp2_with ((refine L_loadM (d := some 21) rfl rfl rfl (by rfl) Tryz.underlying32 rfl el_api_Digest (cs := y.arr) (by rw [← HY.out]; exact hr20) (Dig.size _) ?_))
   refine pn_g rfl ?_; go_wp2_with ((refine L_idxS (d := some 24) rfl rfl rfl (by rfl) (by rfl) Tryz.underlying44 el_api_Digest (by (exact hst.sl 0 rfl)) (by omega) (by omega) ?_; intro o24 p24 ha24 hr24; ((obtain ⟨h1, h2⟩ := some_addr ha24; subst h1; subst h2; clear ha24)))); refine ⟨by (exact Below.refl _ _), ?_⟩
   refine pn_g rfl ?_; go_wp2_with ((refine L_loadM (d := some 25) rfl rfl rfl (by rfl) Tryz.underlying32 rfl el_api_Digest (cs := x.arr) (by rw [← HX.out]; exact hr24) (Dig.size _) ?_)); refine ⟨by (exact Below.refl _ _), ?_⟩
   refine pn_g rfl ?_; go_wp2_with (((refine L_idxO (d := some 26) rfl rfl hst rfl (by rfl) (by rfl) Tryz.underlying44 el_api_Digest 0 rfl (by (rfl)) (by omega) (by omega) ?_; intro o26 p26 ha26; ((obtain ⟨h1, h2⟩ := some_addr ha26; subst h1; subst h2; clear ha26))))); refine ⟨by (exact Below.refl _ _), ?_⟩
   refine pn_e rfl ?_; go_wp2_with ((refine wpl_at (.store 32 (.tmp 26) (.tmp 21)) rfl ?_; (refine L_storeRM rfl rfl hst rfl (by rfl) (ev_tmp rfl) (by (exact Dig.one _)) el_api_Digest (by (exact Dig.size _)) 0 rfl (by (omega)) ?_; clear hst; intro WS13 hst; simp only [List.set_cons_zero, List.set_cons_succ, HP.out, HQ.out] at hst)))
   refine pn_g rfl ?_; go_wp2_with (((refine L_idxO (d := some 27) rfl rfl hst rfl (by rfl) (by rfl) Tryz.underlying44 el_api_Digest 0 rfl (by (rfl)) (by omega) (by omega) ?_; intro o27 p27 ha27; ((obtain ⟨h1, h2⟩ := some_addr ha27; subst h1; subst h2; clear ha27))))); refine ⟨by (exact Below.refl _ _), ?_⟩
   refine pn_e rfl ?_; go_wp2_with ((refine wpl_at (.store 32 (.tmp 27) (.tmp 25)) rfl ?_; (refine L_storeRM rfl rfl hst rfl (by rfl) (ev_tmp rfl) (by (exact Dig.one _)) el_api_Digest (by (exact Dig.size _)) 0 rfl (by (omega)) ?_; clear hst; intro WS15 hst; simp only [List.set_cons_zero, List.set_cons_succ, HP.out, HQ.out] at hst)))
   refine pn_nil ?_
   go_wp2_with fail
   go_roundg (gk - 1)
   case measure => have hi := HI.out; omega
   case rel =>
    have hi := HI.out
    exact ⟨i + 1, _, Lib.hid (by omega), HN, by go_num, by congr 1; omega, by omega, hst⟩
  ·have hd := HS.out.done (by rw [Hl.out]; omega)
   rw [hd] at hst
   clear hd hi HI
   go_wp2_with (fail)
   go_end0
   exact ⟨rfl, hst⟩
end Go.Proofs.YtaebeemnipafbaaGreatDoor

set_option maxRecDepth 20000
set_option linter.unusedSimpArgs false
set_option linter.unusedVariables false
namespace Go.Proofs.YtaebeemnipafbaaGreatDoor
open Go.RowKit
theorem dig_oneL (d : Dig) : ∀ u ∈ d.arr.toList, u.oneCell' = true := by
 rw [Dig.toList]
 exact oneCell_bytes
set_option maxHeartbeats 4000000 in
theorem tPath_any (ls : List Dig) (A : Option Addr) (n c i : Nat) (w : World) (hT : Tb w) (hx : SlR w A n c 32 (digsL ls)) (hn : n ≤ 256) (hin : i < n) :
  Calls Tryz.prog 47 #[.slice A n c, .int .i64 (i : Int)] w fun e w' => ∃ O oc, e = .returned (.tuple #[.slice O (longN i n) oc, .nilIface]) ∧ St w w' [.row O (longN i n) oc 32 32 (digsL (pathN ls i))] := by
 have hst := St.refl w
 have HT := Lib.hid hT
 have hl : ls.length = n := by have := hx.1; rw [length_digsL] at this; omega
 have Hl := Lib.hid hl
 have h1 : ¬ (256 : Int) < (n : Int) := by omega
 have h2 : ¬ (i : Int) < 0 := by omega
 have h3 : ¬ (n : Int) ≤ (i : Int) := by omega
 clear hT hl
 go_enter Tryz.func47, Tryz.ntmps47
 go_wp2_with (fail)
 have hst : St w w [.row none 0 0 32 32 (digsL [])] := hst.nilRow 32 32
 clear h1 h2 h3
 go_loopg [0, 1, 6] n (fun gk s0 s1 s6 wr => ∃ (i' p : Nat) (cur out : List Dig) (B O : Option Addr) (d oc : Nat), Hid (out ++ (pathN cur i').reverse = (pathN ls i).reverse) ∧ Hid (out.length = p) ∧ Hid (cur.length = gk) ∧ i' < gk ∧ p + gk ≤ n ∧ s0 = .slice B gk d ∧ s1 = .int .i64 (i' : Int) ∧ s6 = .slice O p oc ∧ SlR w B gk d 32 (digsL cur) ∧ St w wr [.row O p oc 32 32 (digsL out)])
 case atStart => exact ⟨i, 0, ls, [], A, none, c, 0, Lib.hid rfl, Lib.hid rfl, Hl, hin, by omega, rfl, rfl, rfl, hx, hst⟩
 case round =>
  clear hst
  obtain ⟨i', p, cur, out, B, O, d, oc, HS, HO, HC, hi', hp, rfl, rfl, rfl, hcur, hst⟩ := hrel
  have hcap := hcur.2.1
  by_cases h1 : 1 < gk
  ·have hlt := halfN_lt gk (by omega)
   have hps := halfN_pos gk
   have HF := Lib.hid (fun w => half_any gk (by omega) (by omega) w)
   have H1 := Lib.hid (show ((digsL cur).drop (0 * 32)).take ((halfN gk - 0) * 32) = digsL (cur.take (halfN gk)) by rw [digsL_cut]; rfl)
   have H2 := Lib.hid (show ((digsL cur).drop (halfN gk * 32)).take ((gk - halfN gk) * 32) = digsL (cur.drop (halfN gk)) by rw [digsL_cut, List.take_of_length_le (by rw [List.length_drop, HC.out]; omega)])
   by_cases hk : i' < halfN gk
   ·have HN := Lib.hid (show (out ++ [rootN (cur.drop (halfN gk))]) ++ (pathN (cur.take (halfN gk)) i').reverse = (pathN ls i).reverse by
     rw [← HS.out, pathN_left (ls := cur) (by rw [HC.out]; omega) (by rw [HC.out]; exact hk), List.reverse_append, HC.out, List.append_assoc]
     rfl)
    have HB := Lib.hid (show digsL out ++ (rootN (cur.drop (halfN gk))).arr.toList = digsL (out ++ [rootN (cur.drop (halfN gk))]) by rw [digsL_append, digsL_single, Dig.toList])
    have HL := Lib.hid (show (cur.take (halfN gk)).length = halfN gk by rw [List.length_take, HC.out]; omega)
    generalize halfN gk = k at *
    go_wp2_with (first | (go_at_call 91; (try clear hnew); refine (HF.out _).mono ?_; rintro e Wk1 ⟨rfl, hnew⟩; replace hst := hst.keep hnew) | (go_at_call 83; (try clear hnew); refine (root_any (gk - k) (cur.drop k) A33 c33 _ (HT.out.of hst) (by rw [← H2.out]; exact hst.old (by decide) hs33) (by omega)).mono ?_; rintro e Wk2 ⟨rfl, hnew⟩; replace hst := hst.keep hnew) | ((refine L_cutV (d := some 33) rfl rfl rfl (by rfl) Tryz.underlying44 el_api_Digest (by decide) hcur k gk _ (Or.inr ⟨_, _, rfl, by (exact ev_tmp rfl)⟩) (Or.inl ⟨rfl, rfl, rfl⟩) (Or.inl ⟨rfl, rfl⟩) (by omega) (by omega) (by omega) (by omega) ?_; intro A33 c33 hs33)) | (refine L_buildS (d := some 35) rfl rfl rfl [_] (bs_1 (ev_tmp rfl)) rfl Tryz.underlying44 el_api_Digest rfl (by (simp [Value.cells, Dig.size]; done)) (by decide) (by decide) ?_; (try clear hnew); intro g35 W35 hnew; replace hst := hst.trans hnew; simp only [List.cons_append, List.nil_append] at hst; simp only [List.flatMap_cons, List.flatMap_nil, List.append_nil, Value.cells, List.toList_toArray] at hst) | (refine L_appendO (d := some 36) rfl rfl hst rfl (by rfl) (by rfl) Tryz.underlying44 el_api_Digest rfl (by decide) (by decide) 1 rfl (by (rfl)) (by (exact hst.sl 0 rfl)) (by (exact oneCell_bytes)) (by omega) ?_; clear hst; intro A36 c36 W36 hst; simp only [List.set_cons_zero, List.set_cons_succ, List.nil_append, Nat.zero_add] at hst) | ((refine L_cutV (d := some 39) rfl rfl rfl (by rfl) Tryz.underlying44 el_api_Digest (by decide) hcur 0 k _ (Or.inl ⟨rfl, rfl⟩) (Or.inr ⟨_, _, rfl, by (exact ev_tmp rfl)⟩) (Or.inl ⟨rfl, rfl⟩) (by omega) (by omega) (by omega) (by omega) ?_; intro A39 c39 hs39)))
    go_roundg k
    case measure => exact hlt
    case rel =>
     refine ⟨i', p + 1, cur.take k, out ++ [rootN (cur.drop k)], A39, A36, c39, c36, HN, Lib.hid (by rw [List.length_append, HO.out]; rfl), HL, hk, by omega, rfl, rfl, rfl, by rw [← H1.out]; exact hs39, ?_⟩
     rw [← HB.out]
     exact hst.pick [1] (by decide)
   ·have HN := Lib.hid (show (out ++ [rootN (cur.take (halfN gk))]) ++ (pathN (cur.drop (halfN gk)) (i' - halfN gk)).reverse = (pathN ls i).reverse by
     rw [← HS.out, pathN_right (ls := cur) (by rw [HC.out]; omega) (by rw [HC.out]; exact hk), List.reverse_append, HC.out, List.append_assoc]
     rfl)
    have HB := Lib.hid (show digsL out ++ (rootN (cur.take (halfN gk))).arr.toList = digsL (out ++ [rootN (cur.take (halfN gk))]) by rw [digsL_append, digsL_single, Dig.toList])
    have HL := Lib.hid (show (cur.drop (halfN gk)).length = gk - halfN gk by rw [List.length_drop, HC.out])
    generalize halfN gk = k at *
    go_wp2_with (first | (go_at_call 91; (try clear hnew); refine (HF.out _).mono ?_; rintro e Wk3 ⟨rfl, hnew⟩; replace hst := hst.keep hnew) | (go_at_call 83; (try clear hnew); refine (root_any k (cur.take k) A43 c43 _ (HT.out.of hst) (by rw [← H1.out]; exact hst.old (by decide) hs43) (by omega)).mono ?_; rintro e Wk4 ⟨rfl, hnew⟩; replace hst := hst.keep hnew) | ((refine L_cutV (d := some 43) rfl rfl rfl (by rfl) Tryz.underlying44 el_api_Digest (by decide) hcur 0 k _ (Or.inl ⟨rfl, rfl⟩) (Or.inr ⟨_, _, rfl, by (exact ev_tmp rfl)⟩) (Or.inl ⟨rfl, rfl⟩) (by omega) (by omega) (by omega) (by omega) ?_; intro A43 c43 hs43)) | (refine L_buildS (d := some 45) rfl rfl rfl [_] (bs_1 (ev_tmp rfl)) rfl Tryz.underlying44 el_api_Digest rfl (by (simp [Value.cells, Dig.size]; done)) (by decide) (by decide) ?_; (try clear hnew); intro g45 W45 hnew; replace hst := hst.trans hnew; simp only [List.cons_append, List.nil_append] at hst; simp only [List.flatMap_cons, List.flatMap_nil, List.append_nil, Value.cells, List.toList_toArray] at hst) | (refine L_appendO (d := some 46) rfl rfl hst rfl (by rfl) (by rfl) Tryz.underlying44 el_api_Digest rfl (by decide) (by decide) 1 rfl (by (rfl)) (by (exact hst.sl 0 rfl)) (by (exact oneCell_bytes)) (by omega) ?_; clear hst; intro A46 c46 W46 hst; simp only [List.set_cons_zero, List.set_cons_succ, List.nil_append, Nat.zero_add] at hst) | ((refine L_cutV (d := some 49) rfl rfl rfl (by rfl) Tryz.underlying44 el_api_Digest (by decide) hcur k gk _ (Or.inr ⟨_, _, rfl, by (exact ev_tmp rfl)⟩) (Or.inl ⟨rfl, rfl, rfl⟩) (Or.inl ⟨rfl, rfl⟩) (by omega) (by omega) (by omega) (by omega) ?_; intro A49 c49 hs49)))
    go_roundg (gk - k)
    case measure => omega
    case rel =>
     refine ⟨i' - k, p + 1, cur.drop k, out ++ [rootN (cur.take k)], A49, A46, c49, c46, HN, Lib.hid (by rw [List.length_append, HO.out]; rfl), HL, by omega, by omega, rfl, by congr 1; omega, rfl, by rw [← H2.out]; exact hs49, ?_⟩
     rw [← HB.out]
     exact hst.pick [1] (by decide)
  ·have HN := Lib.hid (show out.reverse = pathN ls i by
    have := HS.out
    rw [pathN_one i' (by rw [HC.out]; omega), List.reverse_nil, List.append_nil] at this
    rw [this, List.reverse_reverse])
   have hp' : p = longN i n := by rw [← HO.out, ← length_pathN n ls i Hl.out, ← HN.out, List.length_reverse]
   rw [hp'] at hst
   rw [hp']
   clear hp HS HO hp'
   go_wp2_with ((go_at_call 92; refine (revD_any out _ _ _ w _ [] hst).mono ?_; rintro e Wr ⟨rfl, hst'⟩; clear hst; have hst := hst'; clear hst'; rw [HN.out] at hst))
   exact bp_two rfl rfl rfl rfl ⟨_, _, rfl, hst⟩
theorem tPath_full (A : Option Addr) (n c : Nat) (i : Int) (w : World) (hn : 256 < n) :
  Calls Tryz.prog 47 #[.slice A n c, .int .i64 i] w fun e w' => e = .returned (.tuple #[.slice none 0 0, errV 4]) ∧ St w w' [] := by
 have hst := St.refl w
 have h1 : (256 : Int) < (n : Int) := by omega
 go_enter Tryz.func47, Tryz.ntmps47
 go_wp2_with (fail)
 exact bp_two rfl rfl rfl rfl ⟨rfl, hst⟩
theorem tPath_range (A : Option Addr) (n c : Nat) (i : Int) (w : World) (hn : n ≤ 256) (hi : i < 0 ∨ (n : Int) ≤ i) :
  Calls Tryz.prog 47 #[.slice A n c, .int .i64 i] w fun e w' => e = .returned (.tuple #[.slice none 0 0, errV 2]) ∧ St w w' [] := by
 have hst := St.refl w
 have h1 : ¬ (256 : Int) < (n : Int) := by omega
 by_cases h2 : i < 0
 ·go_enter Tryz.func47, Tryz.ntmps47
  go_wp2_with (fail)
  exact bp_two rfl rfl rfl rfl ⟨rfl, hst⟩
 ·have h3 : (n : Int) ≤ i := by omega
  go_enter Tryz.func47, Tryz.ntmps47
  go_wp2_with (fail)
  exact bp_two rfl rfl rfl rfl ⟨rfl, hst⟩
theorem foldN_step (l : Dig) (zs : List (Dig × Bool)) (j : Nat) (hj : j < zs.length) : foldN l (zs.take (j + 1)) = if (zs[j]).2 then nodeN (foldN l (zs.take j)) (zs[j]).1 else nodeN (zs[j]).1 (foldN l (zs.take j)) := by
 rw [List.take_succ_eq_append_getElem hj, foldN_append]
 rfl
set_option maxHeartbeats 4000000 in
theorem tFold_any (l : Dig) (path : List Dig) (A : Option Addr) (m c i n : Nat) (w : World) (hT : Tb w) (hx : SlR w A m c 32 (digsL path)) (hn : n ≤ 256) (hin : i < n) (hm : m = longN i n) :
  Calls Tryz.prog 59 #[l.v, .int .i64 (i : Int), .int .i64 (n : Int), .slice A m c] w fun e w' => e = .returned (.tuple #[(foldedN l i n path).v, .nilIface]) ∧ St w w' [] := by
 have hst := St.refl w
 have HT := Lib.hid hT
 have hl : path.length = m := by have := hx.1; rw [length_digsL] at this; omega
 have hmax := hx.2.2.1
 have hcap := hx.2.1
 simp only [maxLen] at hmax
 have hsl : (sidesN i n).reverse.length = m := by rw [List.length_reverse, length_sidesN, hm]
 have HSd := Lib.hid (sides_any i n hn hin)
 have HM := Lib.hid hm
 have h1 : ¬ (n : Int) < 1 := by omega
 have h2 : ¬ (256 : Int) < (n : Int) := by omega
 have h3 : ¬ (i : Int) < 0 := by omega
 have h4 : ¬ (n : Int) ≤ (i : Int) := by omega
 clear hT
 go_enter Tryz.func59, Tryz.ntmps59
 rw [← HM.out] at HSd
 have HZ := Lib.hid (show foldN l ((path.zip (sidesN i n).reverse).take m) = foldedN l i n path by
  rw [List.take_of_length_le (by rw [List.length_zip]; omega)]
  rfl)
 have HA := Lib.hid (fun j (hj : j < m) => show ∃ (p : Dig) (b : Bool), ((digsL path).drop (j * 32)).take 32 = p.arr.toList ∧ ((boolsL (sidesN i n).reverse).drop (j * 1)).take 1 = [.bool b] ∧
   foldN l ((path.zip (sidesN i n).reverse).take (j + 1)) = if b then nodeN (foldN l ((path.zip (sidesN i n).reverse).take j)) p else nodeN p (foldN l ((path.zip (sidesN i n).reverse).take j)) by
  refine ⟨path[j]'(by omega), (sidesN i n).reverse[j]'(by omega), by rw [digsL_at path j (by omega), Dig.toList], ?_, ?_⟩
  ·rw [Nat.mul_one, List.drop_eq_getElem_cons (by rw [length_boolsL]; omega)]
   simp [boolsL]
  ·rw [foldN_step _ _ j (by rw [List.length_zip]; omega), List.getElem_zip])
 clear hm hl hsl
 go_wp2_with (first | (go_at_call 97; (try clear hnew); refine (HSd.out _).mono ?_; rintro e Wk5 ⟨A32, c32, rfl, hnew⟩; replace hst := hst.trans hnew; simp only [List.cons_append, List.nil_append] at hst) | (go_at_call 98; (try clear hnew); refine (revB_any (sidesN i n) _ _ _ w _ _ hst).mono ?_; rintro e Wr ⟨rfl, hst'⟩; clear hst; have hst := hst'; clear hst') | (refine L_boxA (d := some 4) rfl rfl rfl (ev_tmp rfl) ?_; (try clear hnew); intro g4 W4 hnew; replace hst := hst.trans hnew; simp only [List.cons_append, List.nil_append] at hst) | (refine L_allocA (d := some 8) rfl rfl rfl el_api_Digest ?_; (try clear hnew); intro g8 W8 hnew; replace hst := hst.trans hnew; simp only [List.cons_append, List.nil_append] at hst))
 clear h1 h2 h3 h4
 have h0 : foldN l ((path.zip (sidesN i n).reverse).take 0) = l := rfl
 generalize boolsL (sidesN i n).reverse = lb at *
 generalize path.zip (sidesN i n).reverse = zs at *
 rw [← h0] at hst
 clear h0
 go_loopg [44] m (fun gk s44 wr => ∃ j : Nat, Hid (j + gk = m) ∧ s44 = .int .i64 (j : Int) ∧ St w wr [.row A32 m c32 4 1 lb, .blk g8 32 zeroD.arr, .blk g4 32 (foldN l (zs.take j)).arr])
 case atStart => exact ⟨0, Lib.hid (by omega), rfl, hst⟩
 case round =>
  clear hst
  obtain ⟨j, HI, rfl, hst⟩ := hrel
  have hi := HI.out
  by_cases hjm : j < m
  ·clear hi
   obtain ⟨p, b, hp, hb, hs⟩ := HA.out j hjm
   have HP := Lib.hid hp
   have HB := Lib.hid (show (lb.drop ((j : Int).toNat * 1)).take 1 = [.bool b] from hb)
   have HS := Lib.hid hs
   clear hp hb hs
   generalize foldN l (zs.take j) = u at *
   cases b
   ·
    go_wp2_with (first | (refine L_loadM (d := some 48) rfl rfl rfl (by rfl) Tryz.underlying32 rfl el_api_Digest (cs := p.arr) (by rw [← HP.out]; exact hr47) (Dig.size _) ?_) | (refine L_load1 (d := some 52) rfl rfl rfl (by rfl) Tryz.underlying4 rfl (v := .bool false) (hr51 0 (.bool false) (by rw [HB.out]; rfl)) ?_) | (go_at_call 99; (try clear hnew); with_reducible refine (node_any _ _ _ (HT.out.of hst)).mono ?_; rintro e Wk6 ⟨rfl, hnew⟩; replace hst := hst.keep hnew) | (refine L_idxS (d := some 47) rfl rfl rfl (by rfl) (by rfl) Tryz.underlying44 el_api_Digest (by (exact hst.old (by decide) hx)) (by omega) (by omega) ?_; intro o47 p47 ha47 hr47; ((subst ha47))) | (refine L_allocA (d := some 12) rfl rfl rfl el_api_Digest ?_; (try clear hnew); intro g12 W12 hnew; replace hst := hst.trans hnew; simp only [List.cons_append, List.nil_append] at hst) | (refine wpl_at (.store 32 (.tmp 12) (.tmp 48)) rfl ?_; (refine L_storeA rfl rfl hst rfl (by rfl) (ev_tmp rfl) (by (exact Dig.one _)) el_api_Digest (by (exact Dig.size _)) 0 rfl (by (rfl)) ?_; clear hst; intro WS5 hst; simp only [List.set_cons_zero, List.set_cons_succ] at hst)) | (refine L_idxS (d := some 51) rfl rfl rfl (by rfl) (by rfl) Tryz.underlying155 el_bool (by (exact hst.sl 1 rfl)) (by omega) (by omega) ?_; intro o51 p51 ha51 hr51; ((subst ha51))) | ((refine L_loadA (d := some 56) rfl rfl rfl (by rfl) Tryz.underlying32 rfl el_api_Digest (by (exact hst.get 0 rfl)) (by (exact Dig.size _)) ?_)) | ((refine L_loadA (d := some 57) rfl rfl rfl (by rfl) Tryz.underlying32 rfl el_api_Digest (by (exact hst.get 3 rfl)) (by (exact Dig.size _)) ?_)) | (refine wpl_at (.store 32 (.tmp 4) (.tmp 58)) rfl ?_; (refine L_storeA rfl rfl hst rfl (by rfl) (ev_tmp rfl) (by (exact Dig.one _)) el_api_Digest (by (rfl)) 3 rfl (by (exact Dig.size _)) ?_; clear hst; intro WS3 hst; simp only [List.set_cons_zero, List.set_cons_succ] at hst)))
    go_roundg (gk - 1)
    case measure => have hi := HI.out; omega
    case rel =>
     have hi := HI.out
     refine ⟨j + 1, Lib.hid (by omega), by go_num, ?_⟩
     rw [HS.out]
     exact hst.pick [1, 2, 3] (by decide)
   ·
    go_wp2_with (first | (refine L_loadM (d := some 48) rfl rfl rfl (by rfl) Tryz.underlying32 rfl el_api_Digest (cs := p.arr) (by rw [← HP.out]; exact hr47) (Dig.size _) ?_) | (refine L_load1 (d := some 52) rfl rfl rfl (by rfl) Tryz.underlying4 rfl (v := .bool true) (hr51 0 (.bool true) (by rw [HB.out]; rfl)) ?_) | (go_at_call 99; (try clear hnew); with_reducible refine (node_any _ _ _ (HT.out.of hst)).mono ?_; rintro e Wk7 ⟨rfl, hnew⟩; replace hst := hst.keep hnew) | (refine L_idxS (d := some 47) rfl rfl rfl (by rfl) (by rfl) Tryz.underlying44 el_api_Digest (by (exact hst.old (by decide) hx)) (by omega) (by omega) ?_; intro o47 p47 ha47 hr47; ((subst ha47))) | (refine L_allocA (d := some 12) rfl rfl rfl el_api_Digest ?_; (try clear hnew); intro g12 W12 hnew; replace hst := hst.trans hnew; simp only [List.cons_append, List.nil_append] at hst) | (refine wpl_at (.store 32 (.tmp 12) (.tmp 48)) rfl ?_; (refine L_storeA rfl rfl hst rfl (by rfl) (ev_tmp rfl) (by (exact Dig.one _)) el_api_Digest (by (exact Dig.size _)) 0 rfl (by (rfl)) ?_; clear hst; intro WS5 hst; simp only [List.set_cons_zero, List.set_cons_succ] at hst)) | (refine L_idxS (d := some 51) rfl rfl rfl (by rfl) (by rfl) Tryz.underlying155 el_bool (by (exact hst.sl 1 rfl)) (by omega) (by omega) ?_; intro o51 p51 ha51 hr51; ((subst ha51))) | ((refine L_loadA (d := some 53) rfl rfl rfl (by rfl) Tryz.underlying32 rfl el_api_Digest (by (exact hst.get 3 rfl)) (by (exact Dig.size _)) ?_)) | ((refine L_loadA (d := some 54) rfl rfl rfl (by rfl) Tryz.underlying32 rfl el_api_Digest (by (exact hst.get 0 rfl)) (by (exact Dig.size _)) ?_)) | (refine wpl_at (.store 32 (.tmp 4) (.tmp 55)) rfl ?_; (refine L_storeA rfl rfl hst rfl (by rfl) (ev_tmp rfl) (by (exact Dig.one _)) el_api_Digest (by (rfl)) 3 rfl (by (exact Dig.size _)) ?_; clear hst; intro WS3 hst; simp only [List.set_cons_zero, List.set_cons_succ] at hst)))
    go_roundg (gk - 1)
    case measure => have hi := HI.out; omega
    case rel =>
     have hi := HI.out
     refine ⟨j + 1, Lib.hid (by omega), by go_num, ?_⟩
     rw [HS.out]
     exact hst.pick [1, 2, 3] (by decide)
  ·obtain rfl : j = m := by omega
   rw [HZ.out] at hst
   clear hi HI
   go_wp2_with (first | ((refine L_loadA (d := some 60) rfl rfl rfl (by rfl) Tryz.underlying32 rfl el_api_Digest (by (exact hst.get 2 rfl)) (by (exact Dig.size _)) ?_)) | (refine wpl_at (.store 32 (.tmp 8) (.tmp 60)) rfl ?_; (refine L_storeA rfl rfl hst rfl (by rfl) (ev_tmp rfl) (by (exact Dig.one _)) el_api_Digest (by (exact Dig.size _)) 1 rfl (by (rfl)) ?_; clear hst; intro WS1 hst; simp only [List.set_cons_zero, List.set_cons_succ] at hst)))
   refine bp_cell_tmp rfl rfl rfl rfl (hst.get 1 rfl) Tryz.underlying32 rfl el_api_Digest (by (exact Dig.size _)) ?_
   exact ⟨rfl, hst.forget⟩
theorem tFold_length (l : Dig) (A : Option Addr) (m c i n : Nat) (w : World) (hn : n ≤ 256) (hin : i < n) (hm : m ≠ longN i n) :
  Calls Tryz.prog 59 #[l.v, .int .i64 (i : Int), .int .i64 (n : Int), .slice A m c] w fun e w' => e = .returned (.tuple #[zeroD.v, errV 3]) ∧ St w w' [] := by
 have hst := St.refl w
 have h1 : ¬ (n : Int) < 1 := by omega
 have h2 : ¬ (256 : Int) < (n : Int) := by omega
 have h3 : ¬ (i : Int) < 0 := by omega
 have h4 : ¬ (n : Int) ≤ (i : Int) := by omega
 have h5 : ((m : Int) != (longN i n : Int)) = true := by rw [bne_iff_ne]; omega
 clear hm
 go_enter Tryz.func59, Tryz.ntmps59
 go_wp2_with (first | (go_at_call 97; (try clear hnew); refine (sides_any i n hn hin _).mono ?_; rintro e Wk8 ⟨A32, c32, rfl, hnew⟩; replace hst := hst.trans hnew; simp only [List.cons_append, List.nil_append] at hst) | (refine L_boxA (d := some 4) rfl rfl rfl (ev_tmp rfl) ?_; (try clear hnew); intro g4 W4 hnew; replace hst := hst.trans hnew; simp only [List.cons_append, List.nil_append] at hst) | (refine L_allocA (d := some 8) rfl rfl rfl el_api_Digest ?_; (try clear hnew); intro g8 W8 hnew; replace hst := hst.trans hnew; simp only [List.cons_append, List.nil_append] at hst) | (refine L_build0 (d := some 38) rfl rfl rfl Tryz.underlying32 el_uint8 el_api_Digest ?_) | (refine wpl_at (.store 32 (.tmp 8) (.tmp 38)) rfl ?_; (refine L_storeA rfl rfl hst rfl (by rfl) (ev_tmp rfl) (by (exact Dig.one _)) el_api_Digest (by (rfl)) 1 rfl (by (rfl)) ?_; clear hst; intro WS2 hst; simp only [List.set_cons_zero, List.set_cons_succ] at hst)))
 refine bp_cell_tmp rfl rfl rfl rfl (hst.get 1 rfl) Tryz.underlying32 rfl el_api_Digest (by (rfl)) ?_
 exact ⟨rfl, hst.forget⟩
theorem tFold_range (l : Dig) (A : Option Addr) (m c : Nat) (i n : Int) (w : World) (h : n < 1 ∨ ¬ n < 1 ∧ 256 < n ∨ ¬ n < 1 ∧ ¬ 256 < n ∧ i < 0 ∨ ¬ n < 1 ∧ ¬ 256 < n ∧ ¬ i < 0 ∧ n ≤ i) :
  Calls Tryz.prog 59 #[l.v, .int .i64 i, .int .i64 n, .slice A m c] w fun e w' => e = .returned (.tuple #[zeroD.v, errV 2]) ∧ St w w' [] := by
 have hst := St.refl w
 rcases h with h1 | ⟨h1, h2⟩ | ⟨h1, h2, h3⟩ | ⟨h1, h2, h3, h4⟩
 all_goals
  go_enter Tryz.func59, Tryz.ntmps59
  go_wp2_with (first | (refine L_boxA (d := some 4) rfl rfl rfl (ev_tmp rfl) ?_; (try clear hnew); intro g4 W4 hnew; replace hst := hst.trans hnew; simp only [List.cons_append, List.nil_append] at hst) | (refine L_allocA (d := some 8) rfl rfl rfl el_api_Digest ?_; (try clear hnew); intro g8 W8 hnew; replace hst := hst.trans hnew; simp only [List.cons_append, List.nil_append] at hst) | (refine L_build0 (d := some 28) rfl rfl rfl Tryz.underlying32 el_uint8 el_api_Digest ?_) | (refine wpl_at (.store 32 (.tmp 8) (.tmp 28)) rfl ?_; (refine L_storeA rfl rfl hst rfl (by rfl) (ev_tmp rfl) (by (exact Dig.one _)) el_api_Digest (by (rfl)) 0 rfl (by (rfl)) ?_; clear hst; intro WS2 hst; simp only [List.set_cons_zero, List.set_cons_succ] at hst)))
  refine bp_cell_tmp rfl rfl rfl rfl (hst.get 0 rfl) Tryz.underlying32 rfl el_api_Digest (by (rfl)) ?_
  exact ⟨rfl, hst.forget⟩
end Go.Proofs.YtaebeemnipafbaaGreatDoor

set_option linter.unusedSimpArgs false
set_option linter.unusedVariables false
namespace Go.Proofs.YtaebeemnipafbaaGreatDoor
open Go.RowKit
set_option maxHeartbeats 8000000 in
set_option maxRecDepth 100000 in
theorem gproof_any : ∀ (n : Nat) (ls : List Dig) (A : Option Addr) (c m : Nat) (own : Bool) (w : World), Tb w → SlR w A n c 32 (digsL ls) → 1 ≤ m → m ≤ n → n ≤ 256 →
  Calls Tryz.prog 94 #[.slice A n c, .int .i64 (m : Int), .bool own] w fun e w' => ∃ O oc, e = .returned (.slice O (plN n m own) oc) ∧ St w w' [.row O (plN n m own) oc 32 32 (digsL (gpN ls m own))] := by
 intro n
 induction n using Nat.strongRecOn with
 | ind n ih =>
 intro ls A c m own w hT hx hm1 hmn hn
 have hst := St.refl w
 have HT := Lib.hid hT
 have hl : ls.length = n := by have := hx.1; rw [length_digsL] at this; omega
 have hcap := hx.2.1
 clear hT
 by_cases h : m = n
 ·subst h
  rw [gpN_all ls own hl.symm, plN_all]
  cases own with
  | true =>
   clear ih
   go_enter Tryz.func94, Tryz.ntmps94
   go_wp2_with (fail)
   go_ret
   exact ⟨_, _, rfl, hst.nilRow 32 32⟩
  | false =>
   have HR := Lib.hid (fun w hT hs => tRoot_any ls A m c w hT hs hn)
   have HB := Lib.hid (show (rootN ls).arr.toList = digsL [rootN ls] by rw [digsL_single, Dig.toList])
   clear ih
   generalize rootN ls = r at *
   go_enter Tryz.func94, Tryz.ntmps94
   go_wp2_with (first | (go_at_call 38; (try clear hnew); refine (HR.out _ (HT.out.of hst) (hst.old (by decide) hx)).mono ?_; rintro e Wk1 ⟨rfl, hnew⟩; replace hst := hst.keep hnew) | (refine L_allocA (d := some 7) rfl rfl rfl el_api_Digest ?_; (try clear hnew); intro g7 W7 hnew; replace hst := hst.trans hnew; simp only [List.cons_append, List.nil_append] at hst) | (refine wpl_at (.store 32 (.tmp 7) (.tmp 22)) rfl ?_; (refine L_storeA rfl rfl hst rfl (by rfl) (ev_tmp rfl) (by (exact Dig.one _)) el_api_Digest (by (exact Dig.size _)) 0 rfl (by (rfl)) ?_; clear hst; intro WS6 hst; simp only [List.set_cons_zero, List.set_cons_succ] at hst)) | ((refine L_loadA (d := some 24) rfl rfl rfl (by rfl) Tryz.underlying32 rfl el_api_Digest (by (exact hst.get 0 rfl)) (by (exact Dig.size _)) ?_)) | (refine L_buildS (d := some 25) rfl rfl rfl [_] (bs_1 (ev_tmp rfl)) rfl Tryz.underlying44 el_api_Digest rfl (by (simp [Value.cells, Dig.size]; done)) (by decide) (by decide) ?_; (try clear hnew); intro g25 W25 hnew; replace hst := hst.trans hnew; simp only [List.cons_append, List.nil_append] at hst; simp only [List.flatMap_cons, List.flatMap_nil, List.append_nil, Value.cells, List.toList_toArray] at hst))
   go_ret
   refine ⟨_, _, rfl, ?_⟩
   (try simp only [Bool.false_eq_true, if_false])
   rw [← HB.out]
   exact hst.pick [0] (by decide)
 ·have hlt := halfN_lt n (by omega)
  have hps := halfN_pos n
  have h' : ((m : Int) == (n : Int)) = false := by rw [beq_eq_false_iff_ne]; omega
  have HF := Lib.hid (fun w => half_any n (by omega) (by omega) w)
  have H1 := Lib.hid (show ((digsL ls).drop (0 * 32)).take ((halfN n - 0) * 32) = digsL (ls.take (halfN n)) by rw [digsL_cut]; rfl)
  have H2 := Lib.hid (show ((digsL ls).drop (halfN n * 32)).take ((n - halfN n) * 32) = digsL (ls.drop (halfN n)) by rw [digsL_cut, List.take_of_length_le (by rw [List.length_drop]; omega)])
  by_cases hk : m ≤ halfN n
  ·have hle := plN_le (halfN n) m own
   rw [plN_left h (by omega) hk]
   have HI := Lib.hid (fun A c w hT hs => ih (halfN n) hlt (ls.take (halfN n)) A c m own w hT hs hm1 hk (by omega))
   have HR := Lib.hid (fun A c w hT hs => tRoot_any (ls.drop (halfN n)) A (n - halfN n) c w hT hs (by omega))
   have HB := Lib.hid (show digsL (gpN (ls.take (halfN n)) m own) ++ (rootN (ls.drop (halfN n))).arr.toList = digsL (gpN ls m own) by
    rw [gpN_left (ls := ls) (by omega) (by omega) (by rw [hl]; exact hk), hl, digsL_append, digsL_single, Dig.toList])
   have hk' : (m : Int) ≤ (halfN n : Int) := by omega
   clear ih hl
   generalize plN (halfN n) m own = r at *
   generalize halfN n = k at *
   generalize rootN (ls.drop k) = x at *
   go_enter Tryz.func94, Tryz.ntmps94
   go_upto_region 1 with (fail)
   go_upto_region 6 with (fail)
   go_upto_region 7 with ((go_at_call 91; (try clear hnew); refine (HF.out _).mono ?_; rintro e Wk2 ⟨rfl, hnew⟩; replace hst := hst.keep hnew))
   go_upto_region 8 with (fail)
   go_upto_region 9 with (first | (go_at_call 38; (try clear hnew); refine (HR.out A35 c35 _ (HT.out.of hst) (by rw [← H2.out]; exact hst.old (by decide) hs35)).mono ?_; rintro e Wk3 ⟨rfl, hnew⟩; replace hst := hst.keep hnew) | ((refine L_cutV (d := some 35) rfl rfl rfl (by rfl) Tryz.underlying44 el_api_Digest (by decide) hx k n _ (Or.inr ⟨_, _, rfl, by (exact ev_tmp rfl)⟩) (Or.inl ⟨rfl, rfl, rfl⟩) (Or.inl ⟨rfl, rfl⟩) (by omega) (by omega) (by omega) (by omega) ?_; intro A35 c35 hs35)) | (refine L_allocA (d := some 10) rfl rfl rfl el_api_Digest ?_; (try clear hnew); intro g10 W10 hnew; replace hst := hst.trans hnew; simp only [List.cons_append, List.nil_append] at hst) | (refine wpl_at (.store 32 (.tmp 10) (.tmp 37)) rfl ?_; (refine L_storeA rfl rfl hst rfl (by rfl) (ev_tmp rfl) (by (exact Dig.one _)) el_api_Digest (by (exact Dig.size _)) 0 rfl (by (rfl)) ?_; clear hst; intro WS8 hst; simp only [List.set_cons_zero, List.set_cons_succ] at hst)))
   (try clear hnew)
   refine wp_region_pn (.one 0 3 (.one 1 3 (.one 3 3 (.one 4 3 (.one 2 0 (.one 6 0 (.two 5 (.one 7 2 (.one 8 1 (.one 9 2 .nil))) 7 (.one 5 2 (.one 8 1 (.one 9 2 .nil)))))))))) (by kernel_rfl) (by kernel_rfl) ?_
   replace hst := hst.drew
   refine pn_p rfl rfl ?_; go_wp2_with fail
   refine pn_p rfl rfl ?_; go_wp2_with fail
   refine pn_p rfl rfl ?_; go_wp2_with fail
   refine pn_p rfl rfl ?_; go_wp2_with fail
   refine pn_q rfl rfl ?_; go_wp2_with (((refine L_cutV (d := some 41) rfl rfl rfl (by rfl) Tryz.underlying44 el_api_Digest (by decide) hx 0 k _ (Or.inl ⟨rfl, rfl⟩) (Or.inr ⟨_, _, rfl, by (exact ev_tmp rfl)⟩) (Or.inl ⟨rfl, rfl⟩) (by omega) (by omega) (by omega) (by omega) ?_; intro A41 c41 hs41)))
   refine pn_q rfl rfl ?_; go_wp2_with (((refine L_loadA (d := some 45) rfl rfl rfl (by rfl) Tryz.underlying32 rfl el_api_Digest (by (exact hst.get 0 rfl)) (by (exact Dig.size _)) ?_)))
   refine pn_two rfl rfl ?_ ?_
   ·go_wp2_with ((go_at_call 94; (try clear hnew); refine (HI.out A41 c41 _ (HT.out.of hst) (by rw [← H1.out]; exact hst.old (by decide) hs41)).mono ?_; rintro e Wk4 ⟨O44, c44, rfl, hnew⟩; replace hst := hst.trans hnew; simp only [List.cons_append, List.nil_append] at hst)); refine ⟨by (exact hnew.below), ?_⟩
    refine pn_g rfl ?_; go_wp2_with ((refine L_buildS (d := some 46) rfl rfl rfl [_] (bs_1 (ev_tmp rfl)) rfl Tryz.underlying44 el_api_Digest rfl (by (simp [Value.cells, Dig.size]; done)) (by decide) (by decide) ?_; (try clear hnew); intro g46 W46 hnew; replace hst := hst.trans hnew; simp only [List.cons_append, List.nil_append] at hst; simp only [List.flatMap_cons, List.flatMap_nil, List.append_nil, Value.cells, List.toList_toArray] at hst)); refine ⟨by (exact hnew.below), ?_⟩
    refine pn_e rfl ?_; go_wp2_with ((refine L_appendO (d := some 47) rfl rfl hst rfl (by rfl) (by rfl) Tryz.underlying44 el_api_Digest rfl (by decide) (by decide) 1 rfl (by (rfl)) (by (exact hst.sl 0 rfl)) (by (exact oneCell_bytes)) (by omega) ?_; clear hst; intro A47 c47 W47 hst; simp only [List.set_cons_zero, List.set_cons_succ, List.nil_append, Nat.zero_add] at hst))
    refine pn_g rfl ?_; go_wp2_with fail; refine ⟨by (exact Below.refl _ _), ?_⟩
    refine pn_nil ?_
    go_wp2_with fail
    go_ret
    refine ⟨_, _, rfl, ?_⟩
    rw [HB.out] at hst
    (exact hst.pick [1] (by decide))
   ·go_wp2_with ((refine L_buildS (d := some 46) rfl rfl rfl [_] (bs_1 (ev_tmp rfl)) rfl Tryz.underlying44 el_api_Digest rfl (by (simp [Value.cells, Dig.size]; done)) (by decide) (by decide) ?_; (try clear hnew); intro g46 W46 hnew; replace hst := hst.trans hnew; simp only [List.cons_append, List.nil_append] at hst; simp only [List.flatMap_cons, List.flatMap_nil, List.append_nil, Value.cells, List.toList_toArray] at hst)); refine ⟨by (exact hnew.below), ?_⟩
    refine pn_g rfl ?_; go_wp2_with ((go_at_call 94; (try clear hnew); refine (HI.out A41 c41 _ (HT.out.of hst) (by rw [← H1.out]; exact hst.old (by decide) hs41)).mono ?_; rintro e Wk4 ⟨O44, c44, rfl, hnew⟩; replace hst := hst.trans hnew; simp only [List.cons_append, List.nil_append] at hst)); refine ⟨by (exact hnew.below), ?_⟩
    refine pn_e rfl ?_; go_wp2_with ((refine L_appendO (d := some 47) rfl rfl hst rfl (by rfl) (by rfl) Tryz.underlying44 el_api_Digest rfl (by decide) (by decide) 0 rfl (by (rfl)) (by (exact hst.sl 1 rfl)) (by (exact oneCell_bytes)) (by omega) ?_; clear hst; intro A47 c47 W47 hst; simp only [List.set_cons_zero, List.set_cons_succ, List.nil_append, Nat.zero_add] at hst))
    refine pn_g rfl ?_; go_wp2_with fail; refine ⟨by (exact Below.refl _ _), ?_⟩
    refine pn_nil ?_
    go_wp2_with fail
    go_ret
    refine ⟨_, _, rfl, ?_⟩
    rw [HB.out] at hst
    (exact hst.pick [0] (by decide))
  ·have hle := plN_le (n - halfN n) (m - halfN n) false
   rw [plN_right h (by omega) hk]
   have HI := Lib.hid (fun A c w hT hs => ih (n - halfN n) (by omega) (ls.drop (halfN n)) A c (m - halfN n) false w hT hs (by omega) (by omega) (by omega))
   have HR := Lib.hid (fun A c w hT hs => tRoot_any (ls.take (halfN n)) A (halfN n) c w hT hs (by omega))
   have HB := Lib.hid (show digsL (gpN (ls.drop (halfN n)) (m - halfN n) false) ++ (rootN (ls.take (halfN n))).arr.toList = digsL (gpN ls m own) by
    rw [gpN_right (ls := ls) (by omega) (by omega) (by rw [hl]; exact hk), hl, digsL_append, digsL_single, Dig.toList])
   have e1 : (((m - halfN n : Nat)) : Int) = (m : Int) - (halfN n : Int) := by omega
   rw [e1] at HI
   have hk' : ¬ (m : Int) ≤ (halfN n : Int) := by omega
   clear ih hl e1
   generalize plN (n - halfN n) (m - halfN n) false = r at *
   generalize halfN n = k at *
   generalize rootN (ls.take k) = x at *
   go_enter Tryz.func94, Tryz.ntmps94
   go_upto_region 1 with (fail)
   go_upto_region 6 with (fail)
   go_upto_region 7 with ((go_at_call 91; (try clear hnew); refine (HF.out _).mono ?_; rintro e Wk5 ⟨rfl, hnew⟩; replace hst := hst.keep hnew))
   go_upto_region 10 with (fail)
   go_upto_region 11 with (first | (go_at_call 38; (try clear hnew); refine (HR.out A51 c51 _ (HT.out.of hst) (by rw [← H1.out]; exact hst.old (by decide) hs51)).mono ?_; rintro e Wk6 ⟨rfl, hnew⟩; replace hst := hst.keep hnew) | ((refine L_cutV (d := some 51) rfl rfl rfl (by rfl) Tryz.underlying44 el_api_Digest (by decide) hx 0 k _ (Or.inl ⟨rfl, rfl⟩) (Or.inr ⟨_, _, rfl, by (exact ev_tmp rfl)⟩) (Or.inl ⟨rfl, rfl⟩) (by omega) (by omega) (by omega) (by omega) ?_; intro A51 c51 hs51)) | (refine L_allocA (d := some 12) rfl rfl rfl el_api_Digest ?_; (try clear hnew); intro g12 W12 hnew; replace hst := hst.trans hnew; simp only [List.cons_append, List.nil_append] at hst) | (refine wpl_at (.store 32 (.tmp 12) (.tmp 53)) rfl ?_; (refine L_storeA rfl rfl hst rfl (by rfl) (ev_tmp rfl) (by (exact Dig.one _)) el_api_Digest (by (exact Dig.size _)) 0 rfl (by (rfl)) ?_; clear hst; intro WS8 hst; simp only [List.set_cons_zero, List.set_cons_succ] at hst)))
   (try clear hnew)
   refine wp_region_pn (.one 0 3 (.one 1 3 (.one 3 3 (.one 4 3 (.one 2 0 (.one 5 0 (.one 7 0 (.two 6 (.one 8 2 (.one 9 1 (.one 10 2 .nil))) 8 (.one 6 2 (.one 9 1 (.one 10 2 .nil))))))))))) (by kernel_rfl) (by kernel_rfl) ?_
   replace hst := hst.drew
   refine pn_p rfl rfl ?_; go_wp2_with fail
   refine pn_p rfl rfl ?_; go_wp2_with fail
   refine pn_p rfl rfl ?_; go_wp2_with fail
   refine pn_p rfl rfl ?_; go_wp2_with fail
   refine pn_q rfl rfl ?_; go_wp2_with (((refine L_cutV (d := some 57) rfl rfl rfl (by rfl) Tryz.underlying44 el_api_Digest (by decide) hx k n _ (Or.inr ⟨_, _, rfl, by (exact ev_tmp rfl)⟩) (Or.inl ⟨rfl, rfl, rfl⟩) (Or.inl ⟨rfl, rfl⟩) (by omega) (by omega) (by omega) (by omega) ?_; intro A57 c57 hs57)))
   refine pn_q rfl rfl ?_; go_wp2_with fail
   refine pn_q rfl rfl ?_; go_wp2_with (((refine L_loadA (d := some 62) rfl rfl rfl (by rfl) Tryz.underlying32 rfl el_api_Digest (by (exact hst.get 0 rfl)) (by (exact Dig.size _)) ?_)))
   refine pn_two rfl rfl ?_ ?_
   ·go_wp2_with ((go_at_call 94; (try clear hnew); refine (HI.out A57 c57 _ (HT.out.of hst) (by rw [← H2.out]; exact hst.old (by decide) hs57)).mono ?_; rintro e Wk7 ⟨O61, c61, rfl, hnew⟩; replace hst := hst.trans hnew; simp only [List.cons_append, List.nil_append] at hst)); refine ⟨by (exact hnew.below), ?_⟩
    refine pn_g rfl ?_; go_wp2_with ((refine L_buildS (d := some 63) rfl rfl rfl [_] (bs_1 (ev_tmp rfl)) rfl Tryz.underlying44 el_api_Digest rfl (by (simp [Value.cells, Dig.size]; done)) (by decide) (by decide) ?_; (try clear hnew); intro g63 W63 hnew; replace hst := hst.trans hnew; simp only [List.cons_append, List.nil_append] at hst; simp only [List.flatMap_cons, List.flatMap_nil, List.append_nil, Value.cells, List.toList_toArray] at hst)); refine ⟨by (exact hnew.below), ?_⟩
    refine pn_e rfl ?_; go_wp2_with ((refine L_appendO (d := some 64) rfl rfl hst rfl (by rfl) (by rfl) Tryz.underlying44 el_api_Digest rfl (by decide) (by decide) 1 rfl (by (rfl)) (by (exact hst.sl 0 rfl)) (by (exact oneCell_bytes)) (by omega) ?_; clear hst; intro A64 c64 W64 hst; simp only [List.set_cons_zero, List.set_cons_succ, List.nil_append, Nat.zero_add] at hst))
    refine pn_g rfl ?_; go_wp2_with fail; refine ⟨by (exact Below.refl _ _), ?_⟩
    refine pn_nil ?_
    go_wp2_with fail
    go_ret
    refine ⟨_, _, rfl, ?_⟩
    rw [HB.out] at hst
    (exact hst.pick [1] (by decide))
   ·go_wp2_with ((refine L_buildS (d := some 63) rfl rfl rfl [_] (bs_1 (ev_tmp rfl)) rfl Tryz.underlying44 el_api_Digest rfl (by (simp [Value.cells, Dig.size]; done)) (by decide) (by decide) ?_; (try clear hnew); intro g63 W63 hnew; replace hst := hst.trans hnew; simp only [List.cons_append, List.nil_append] at hst; simp only [List.flatMap_cons, List.flatMap_nil, List.append_nil, Value.cells, List.toList_toArray] at hst)); refine ⟨by (exact hnew.below), ?_⟩
    refine pn_g rfl ?_; go_wp2_with ((go_at_call 94; (try clear hnew); refine (HI.out A57 c57 _ (HT.out.of hst) (by rw [← H2.out]; exact hst.old (by decide) hs57)).mono ?_; rintro e Wk7 ⟨O61, c61, rfl, hnew⟩; replace hst := hst.trans hnew; simp only [List.cons_append, List.nil_append] at hst)); refine ⟨by (exact hnew.below), ?_⟩
    refine pn_e rfl ?_; go_wp2_with ((refine L_appendO (d := some 64) rfl rfl hst rfl (by rfl) (by rfl) Tryz.underlying44 el_api_Digest rfl (by decide) (by decide) 0 rfl (by (rfl)) (by (exact hst.sl 1 rfl)) (by (exact oneCell_bytes)) (by omega) ?_; clear hst; intro A64 c64 W64 hst; simp only [List.set_cons_zero, List.set_cons_succ, List.nil_append, Nat.zero_add] at hst))
    refine pn_g rfl ?_; go_wp2_with fail; refine ⟨by (exact Below.refl _ _), ?_⟩
    refine pn_nil ?_
    go_wp2_with fail
    go_ret
    refine ⟨_, _, rfl, ?_⟩
    rw [HB.out] at hst
    (exact hst.pick [0] (by decide))
set_option maxHeartbeats 1000000 in
theorem gProof_any (ls : List Dig) (A : Option Addr) (n c m : Nat) (w : World) (hT : Tb w) (hx : SlR w A n c 32 (digsL ls)) (h1 : 1 ≤ m) (hmn : m ≤ n) (hn : n ≤ 256) :
  Calls Tryz.prog 51 #[.slice A n c, .int .i64 (m : Int)] w fun e w' => ∃ O oc, e = .returned (.tuple #[.slice O (plN n m true) oc, .nilIface]) ∧ St w w' [.row O (plN n m true) oc 32 32 (digsL (gpN ls m true))] := by
 have hst := St.refl w
 have HP := Lib.hid (gproof_any n ls A c m true w hT hx h1 hmn hn)
 have t1 : ¬ (256 : Int) < (n : Int) := by omega
 have t2 : ¬ (m : Int) < 1 := by omega
 have t3 : ¬ (n : Int) < (m : Int) := by omega
 go_enter Tryz.func51, Tryz.ntmps51
 go_wp2_with ((go_at_call 94; refine HP.out.mono ?_; rintro e W21 ⟨O, oc, rfl, hnew⟩; replace hst := hnew))
 exact bp_two rfl rfl rfl rfl ⟨_, _, rfl, hst⟩
theorem gProof_full (A : Option Addr) (n c : Nat) (m : Int) (w : World) (hn : 256 < n) :
  Calls Tryz.prog 51 #[.slice A n c, .int .i64 m] w fun e w' => e = .returned (.tuple #[.slice none 0 0, errV 4]) ∧ St w w' [] := by
 have hst := St.refl w
 have h1 : (256 : Int) < (n : Int) := by omega
 go_enter Tryz.func51, Tryz.ntmps51
 go_wp2_with (fail)
 exact bp_two rfl rfl rfl rfl ⟨rfl, hst⟩
theorem gProof_range (A : Option Addr) (n c : Nat) (m : Int) (w : World) (hn : n ≤ 256) (hi : m < 1 ∨ (n : Int) < m) :
  Calls Tryz.prog 51 #[.slice A n c, .int .i64 m] w fun e w' => e = .returned (.tuple #[.slice none 0 0, errV 2]) ∧ St w w' [] := by
 have hst := St.refl w
 have h1 : ¬ (256 : Int) < (n : Int) := by omega
 by_cases h2 : m < 1
 ·go_enter Tryz.func51, Tryz.ntmps51
  go_wp2_with (fail)
  exact bp_two rfl rfl rfl rfl ⟨rfl, hst⟩
 ·have h3 : (n : Int) < m := by omega
  go_enter Tryz.func51, Tryz.ntmps51
  go_wp2_with (fail)
  exact bp_two rfl rfl rfl rfl ⟨rfl, hst⟩
end Go.Proofs.YtaebeemnipafbaaGreatDoor

set_option maxRecDepth 20000
set_option linter.unusedSimpArgs false
set_option linter.unusedVariables false
namespace Go.Proofs.YtaebeemnipafbaaGreatDoor
open Go.RowKit
def fArr (old : Dig) (A : Option Addr) (n c : Nat) : Array Value := old.arr.push (.slice A n c)
theorem fArr_size (old : Dig) (A : Option Addr) (n c : Nat) : (fArr old A n c).size = 33 := by simp [fArr, Dig.size]
theorem fArr_at (old : Dig) (A : Option Addr) (n c : Nat) : (fArr old A n c)[32]? = some (.slice A n c) := by
 have h := Dig.size old
 rw [fArr, Array.getElem?_push, if_pos h.symm]
theorem fArr_set (old : Dig) (A B : Option Addr) (n c m d : Nat) : (fArr old A n c).setIfInBounds 32 (.slice B m d) = fArr old B m d := by
 have h := Dig.size old
 apply Array.ext_getElem?
 intro i
 rw [Array.getElem?_setIfInBounds, fArr_size, fArr, fArr, Array.getElem?_push, Array.getElem?_push, h]
 by_cases hi : 32 = i
 ·subst hi; simp
 ·rw [if_neg hi, if_neg (by omega), if_neg (by omega)]
theorem fArr_old {W : World} {g : Nat} {t : TypeId} {fr : Nat × Nat} {old : Dig} {A : Option Addr} {n c : Nat} (h : W.heap[g]? = some (.cells (fArr old A n c) t fr)) : W.rangeAt g 0 old.arr.toList := rangeAt_of_cells h fun j v hv => by
 have hj : j < 32 := by
  have := (List.getElem?_eq_some_iff.1 hv).1
  rw [Array.length_toList, Dig.size] at this
  exact this
 have h := Dig.size old
 rw [Nat.zero_add, fArr, Array.getElem?_push, if_neg (by omega)]
 simpa using hv
theorem el_grow_folder : ElemIs Tryz.prog 261 (.agg (fArr zeroD none 0 0)) 33 56 := by unfold ElemIs; kernel_rfl
theorem el_S_api_Digest : ElemIs Tryz.prog 44 (.slice none 0 0) 1 24 := by unfold ElemIs; kernel_rfl
theorem el_error : ElemIs Tryz.prog 36 (.nilIface) 1 16 := by unfold ElemIs; kernel_rfl
section
variable {ops : Array Oper} {rest : List Oper} {o : Oper} {a : Act} {W : World} {Q : Exit → Act → World → Prop} {d : Option Tmp}
theorem L_buildF (hd : o.dst = d) (hw : Region.wanted o (yielded ops a.tmps) = true) {x y : Operand} (ho : o.op = .build 261 #[(0, x), (1, y)]) {old : Dig} (hx : a.eval x = .agg old.arr) {A : Option Addr} {n c : Nat} (hy : a.eval y = .slice A n c)
  (h : wpList Tryz.prog ops Q rest (a.put d (.agg (fArr old A n c))) W) : wpList Tryz.prog ops Q (o :: rest) a W := by
 refine L_val hd hw ?_ h
 unfold execOp
 simp only [ho]
 have hz := el_grow_folder.run_zero W
 have h1 := el_api_Digest.run_size W
 have h2 := el_S_api_Digest.run_size W
 have h3 : (fArr zeroD none 0 0).size = 33 := fArr_size _ _ _ _
 have h4 : Array.foldl (fun (cs : Array Value) (x : Value × Nat) => cs.setIfInBounds x.snd x.fst) (fArr zeroD none 0 0) old.arr.zipIdx 0 32 = fArr old none 0 0 := by
  have h := Dig.size old
  have h' := Dig.size zeroD
  have e1 : 32 = old.arr.zipIdx.size := by simp [h]
  have h5 := fold_put old.arr.toList 0 0 (fArr zeroD none 0 0) (by simp [h, h3])
  simp only [Nat.zero_add] at h5
  rw [e1, ← Array.foldl_toList, Array.toList_zipIdx, h5]
  unfold putAt fArr
  apply Array.ext'
  simp [h, h']
 simp [Instr.build, hz, run_underlying Tryz.underlying261, h1, h2, hx, hy, Value.cells, Instr.fill, h3, Dig.size, h4, fArr_size, fArr_set]
end
section
variable {P : Program} {a : Act} {W : World}
theorem bp_cell2 {fn : Func} {R : Ending → World → Prop} {p q : Tmp} {ty ty' : TypeId} (hr : fn.results = #[.cell p ty, .cell q ty']) (hd : a.defers = []) {g g' : Nat} (hp : a.tmps.toList[p]? = some (.pointer (some ⟨g, 0, none⟩))) (hq : a.tmps.toList[q]? = some (.pointer (some ⟨g', 0, none⟩))) {t t' : TypeId} {cs cs' : Array Value} {fr fr' : Nat × Nat} (hg : W.heap[g]? = some (.cells cs t fr)) (hg' : W.heap[g']? = some (.cells cs' t' fr'))
  {td td' : TypeDesc} (hu : P.underlying ty = some td) (hrow : td.isRow = true) (hu' : P.underlying ty' = some td') (hrow' : td'.isRow = true) {z z' : Value} {s s' b b' : Nat} (he : ElemIs P ty z s b) (hs : cs.size = s) (he' : ElemIs P ty' z' s' b') (hs' : cs'.size = s') (hR : R (.returned (.tuple #[.agg cs, .agg cs'])) W) : bodyPost P fn R .ret a W := by
 have hp' : a.tmps[p]?.getD undef = .pointer (some ⟨g, 0, none⟩) := by
  have : a.tmps[p]? = some (.pointer (some ⟨g, 0, none⟩)) := by simpa using hp
  simp [this]
 have hq' : a.tmps[q]?.getD undef = .pointer (some ⟨g', 0, none⟩) := by
  have : a.tmps[q]? = some (.pointer (some ⟨g', 0, none⟩)) := by simpa using hq
  simp [this]
 refine bodyPost_ret ?_ hd hR
 simp [results, hr, hp', hq', asAddr, run_loadVar_row W g t ty cs fr td hg hu (by cases td <;> simp_all [TypeDesc.isRow]) (by rw [he.size, hs]), run_loadVar_row W g' t' ty' cs' fr' td' hg' hu' (by cases td' <;> simp_all [TypeDesc.isRow]) (by rw [he'.size, hs'])]
end
theorem St.keep3 {w0 W : World} {L : List Res} {a x y z : Res} (h : St w0 W (a :: x :: y :: z :: L)) : St w0 W (a :: L) := h.drop ((((List.Sublist.refl L).cons z).cons y).cons x |>.cons_cons a)
theorem St.keep2 {w0 W : World} {L : List Res} {a x y : Res} (h : St w0 W (a :: x :: y :: L)) : St w0 W (a :: L) := h.drop (((List.Sublist.refl L).cons y).cons x |>.cons_cons a)
end Go.Proofs.YtaebeemnipafbaaGreatDoor

set_option maxRecDepth 20000
set_option linter.unusedSimpArgs false
set_option linter.unusedVariables false
namespace Go.Proofs.YtaebeemnipafbaaGreatDoor
open Go.RowKit
theorem path_end (q : List Dig) (d : Dig) (r : Nat) (h : q.length = r) : ((digsL (q ++ [d])).drop (r * 32)).take 32 = d.arr.toList := by
 rw [digsL_append, digsL_single, ← h, List.drop_left' (by rw [length_digsL]), List.take_of_length_le (by rw [Array.length_toList, Dig.size]; exact Nat.le_refl _)]
set_option maxHeartbeats 4000000 in
set_option maxRecDepth 100000 in
theorem take_any (old d : Dig) (q : List Dig) (A : Option Addr) (n c g : Nat) (w0 w : World) (L : List Res) (hst : St w0 w (.blk g 261 (fArr old A n c) :: L)) (hx : SlR w0 A n c 32 (digsL (q ++ [d]))) :
  Calls Tryz.prog 187 #[.pointer (some ⟨g, 0, none⟩)] w fun e w' => e = .returned d.v ∧ ∃ A' c', St w0 w' (.blk g 261 (fArr old A' (n - 1) c') :: L) ∧ SlR w0 A' (n - 1) c' 32 (digsL q) := by
 have hn : n = q.length + 1 := by have := hx.1; rw [length_digsL, List.length_append] at this; simp at this; omega
 obtain ⟨r, hr⟩ : ∃ r, q.length = r := ⟨_, rfl⟩
 rw [hr] at hn
 subst hn
 have hcap := hx.2.1
 have hmax := hx.2.2.1
 simp only [maxLen] at hmax
 have HF := Lib.hid (fArr_at old A (r + 1) c)
 have HX := Lib.hid (show ((digsL (q ++ [d])).drop ((r : Int).toNat * 32)).take 32 = d.arr.toList from path_end q d r hr)
 have HC := Lib.hid (show ((digsL (q ++ [d])).drop (0 * 32)).take ((r - 0) * 32) = digsL q by rw [digsL_cut, List.drop_zero, Nat.sub_zero, List.take_left' hr])
 have h0 : ((r : Int) + 1 == 0) = false := by rw [beq_eq_false_iff_ne]; omega
 rw [show r + 1 - 1 = r by omega]
 clear hr
 generalize digsL (q ++ [d]) = lx at *
 generalize digsL q = lq at *
 go_enter Tryz.func187, Tryz.ntmps187
 go_upto_region 1 with ((refine L_allocA (d := some 2) rfl rfl rfl el_api_Digest ?_; (try clear hnew); intro g2 W2 hnew; replace hst := hst.trans hnew; simp only [List.cons_append, List.nil_append] at hst))
 go_upto_region 3 with ((refine L_load1 (d := some 7) rfl rfl rfl (by rfl) Tryz.underlying44 rfl (by (exact cell_of (hst.get 1 rfl) HF.out)) ?_))
 (try clear hnew)
 refine wp_region_idx [(0, 0), (1, 0), (2, 0), (3, 0), (4, 0), (5, 0), (6, 0), (7, 0), (8, 0), (9, 0), (10, 0), (11, 0), (12, 2), (13, 1)] (by kernel_rfl) (by kernel_rfl) ?_
 replace hst := hst.drew
 refine idx_q rfl rfl ?_; go_wp2_with fail
 refine idx_q rfl rfl ?_; go_wp2_with fail
 refine idx_qf rfl rfl (by kernel_rfl) ?_; go_wp2_with fail
 refine idx_q rfl rfl ?_; go_wp2_with ((refine L_load1 (d := some 14) rfl rfl rfl (by rfl) Tryz.underlying44 rfl (by (exact cell_of (hst.get 1 rfl) HF.out)) ?_))
 refine idx_q rfl rfl ?_; go_wp2_with fail
 refine idx_q rfl rfl ?_; go_wp2_with fail
 refine idx_qf rfl rfl (by kernel_rfl) ?_; go_wp2_with fail
 refine idx_q rfl rfl ?_; go_wp2_with ((refine L_load1 (d := some 18) rfl rfl rfl (by rfl) Tryz.underlying44 rfl (by (exact cell_of (hst.get 1 rfl) HF.out)) ?_))
 refine idx_q rfl rfl ?_; go_wp2_with (fail)
 refine idx_q rfl rfl ?_; go_wp2_with fail
 refine idx_q rfl rfl ?_; go_wp2_with ((refine L_idxS (d := some 21) rfl rfl rfl (by rfl) (by rfl) Tryz.underlying44 el_api_Digest (by (exact hst.old (by decide) hx)) (by omega) (by omega) ?_; intro o21 p21 ha21 hr21; ((subst ha21))))
 refine idx_q rfl rfl ?_; go_wp2_with ((refine L_loadM (d := some 22) rfl rfl rfl (by rfl) Tryz.underlying32 rfl el_api_Digest (cs := d.arr) (by rw [← HX.out]; exact hr21) (Dig.size _) ?_))
 refine idx_g rfl ?_; go_wp2_with ((refine L_allocA (d := some 3) rfl rfl rfl el_api_Digest ?_; (try clear hnew); intro g3 W3 hnew; replace hst := hst.trans hnew; simp only [List.cons_append, List.nil_append] at hst)); refine ⟨by (exact hnew.below), ?_⟩
 refine idx_e rfl ?_; go_wp2_with ((refine wpl_at (.store 32 (.tmp 3) (.tmp 22)) rfl ?_; (refine L_storeA rfl rfl hst rfl (by rfl) (ev_tmp rfl) (by (exact Dig.one _)) el_api_Digest (by (exact Dig.size _)) 0 rfl (by (rfl)) ?_; clear hst; intro WS13 hst; simp only [List.set_cons_zero, List.set_cons_succ] at hst)))
 refine idx_nil ?_
 go_wp2_with fail
 (try clear hnew)
 refine wp_region_idx [(0, 0), (1, 0), (2, 0), (3, 0), (4, 0), (5, 2), (6, 2), (7, 2), (8, 2), (9, 2), (10, 2), (11, 2), (12, 2), (13, 2), (14, 1)] (by kernel_rfl) (by kernel_rfl) ?_
 replace hst := hst.drew
 refine idx_q rfl rfl ?_; go_wp2_with fail
 refine idx_q rfl rfl ?_; go_wp2_with fail
 refine idx_q rfl rfl ?_; go_wp2_with fail
 refine idx_qf rfl rfl (by kernel_rfl) ?_; go_wp2_with fail
 refine idx_q rfl rfl ?_; go_wp2_with ((refine L_load1 (d := some 27) rfl rfl rfl (by rfl) Tryz.underlying44 rfl (by (exact cell_of (hst.get 2 rfl) HF.out)) ?_))
 refine idx_g rfl ?_; go_wp2_with fail; refine ⟨by (exact Below.refl _ _), ?_⟩
 refine idx_g rfl ?_; go_wp2_with fail; refine ⟨by (exact Below.refl _ _), ?_⟩
 refine idx_g rfl ?_; go_wp2_with fail; refine ⟨by (exact Below.refl _ _), ?_⟩
 refine idx_g rfl ?_; go_wp2_with ((refine L_load1 (d := some 31) rfl rfl rfl (by rfl) Tryz.underlying44 rfl (by (exact cell_of (hst.get 2 rfl) HF.out)) ?_)); refine ⟨by (exact Below.refl _ _), ?_⟩
 refine idx_g rfl ?_; go_wp2_with (fail); refine ⟨by (exact Below.refl _ _), ?_⟩
 refine idx_g rfl ?_; go_wp2_with fail; refine ⟨by (exact Below.refl _ _), ?_⟩
 refine idx_g rfl ?_; go_wp2_with (((refine L_cutV (d := some 34) rfl rfl rfl (by rfl) Tryz.underlying44 el_api_Digest (by decide) hx 0 r _ (Or.inl ⟨rfl, rfl⟩) (Or.inr ⟨_, _, rfl, by (exact ev_tmp rfl)⟩) (Or.inl ⟨rfl, rfl⟩) (by omega) (by omega) (by omega) (by omega) ?_; intro A34 c34 hs34))); refine ⟨by (exact Below.refl _ _), ?_⟩
 refine idx_g rfl ?_; go_wp2_with fail; refine ⟨by (exact Below.refl _ _), ?_⟩
 refine idx_g rfl ?_; go_wp2_with fail; refine ⟨by (exact Below.refl _ _), ?_⟩
 refine idx_e rfl ?_; go_wp2_with ((refine wpl_at (.store 44 (.tmp 36) (.tmp 34)) rfl ?_; refine L_store1 rfl rfl hst rfl (by rfl) (ev_tmp rfl) rfl el_S_api_Digest 2 rfl (by rw [fArr_size]; decide) ?_; clear hst; intro WS14 hst; simp only [List.set_cons_zero, List.set_cons_succ, fArr_set] at hst))
 refine idx_nil ?_
 go_wp2_with (first | ((refine L_loadA (d := some 37) rfl rfl rfl (by rfl) Tryz.underlying32 rfl el_api_Digest (by (exact hst.get 0 rfl)) (by (exact Dig.size _)) ?_)) | (refine wpl_at (.store 32 (.tmp 2) (.tmp 37)) rfl ?_; (refine L_storeA rfl rfl hst rfl (by rfl) (ev_tmp rfl) (by (exact Dig.one _)) el_api_Digest (by (exact Dig.size _)) 1 rfl (by (rfl)) ?_; clear hst; intro WS1 hst; simp only [List.set_cons_zero, List.set_cons_succ] at hst)))
 refine bp_cell rfl rfl rfl (hst.get 1 rfl) Tryz.underlying32 rfl el_api_Digest (by (exact Dig.size _)) ?_
 exact ⟨rfl, A34, c34, hst.tailN 2, by rw [← HC.out]; exact hs34⟩
set_option maxHeartbeats 8000000 in
set_option maxRecDepth 100000 in
theorem gfold_any (old : Dig) (g : Nat) (w0 : World) (hT : Tb w0) (r : List Dig) : ∀ (n m : Nat) (own : Bool) (p : List Dig) (A : Option Addr) (k c : Nat) (w : World) (L : List Res), St w0 w (.blk g 261 (fArr old A k c) :: L) → SlR w0 A k c 32 (digsL (r ++ p)) → p.length = plN n m own → 1 ≤ m → m ≤ n → n ≤ 256 →
  Calls Tryz.prog 181 #[.pointer (some ⟨g, 0, none⟩), .int .i64 (m : Int), .int .i64 (n : Int), .bool own] w fun e w' => e = .returned (.tuple #[(grN n m own old p).1.v, (grN n m own old p).2.v]) ∧ ∃ A' c', St w0 w' (.blk g 261 (fArr old A' r.length c') :: L) ∧ SlR w0 A' r.length c' 32 (digsL r) := by
 intro n
 induction n using Nat.strongRecOn with
 | ind n ih =>
 intro m own p A k c w L hst hx hp hm1 hmn hn
 have HT := Lib.hid hT
 have hk : k = r.length + p.length := by have := hx.1; rw [length_digsL, List.length_append] at this; omega
 by_cases h : m = n
 ·subst h
  rw [plN_all] at hp
  cases own with
  | true =>
   obtain rfl : p = [] := List.eq_nil_of_length_eq_zero (by simpa using hp)
   rw [List.append_nil] at hx
   obtain rfl : k = r.length := by simpa using hk
   rw [grN_all]
   clear ih hp hk
   generalize digsL r = lr at *
   generalize r.length = k at *
   go_enter Tryz.func181, Tryz.ntmps181
   go_upto_region 1 with (first | (refine L_allocA (d := some 8) rfl rfl rfl el_api_Digest ?_; (try clear hnew); intro g8 W8 hnew; replace hst := hst.trans hnew; simp only [List.cons_append, List.nil_append] at hst) | (refine L_allocA (d := some 9) rfl rfl rfl el_api_Digest ?_; (try clear hnew); intro g9 W9 hnew; replace hst := hst.trans hnew; simp only [List.cons_append, List.nil_append] at hst))
   go_upto_region 2 with (fail)
   go_upto_region 3 with (fail)
   (try clear hnew)
   refine wp_region_pm (.one 0 3 (.one 4 3 (.one 1 0 (.one 2 0 (.one 3 0 (.two 5 2 (.two 6 2 (.two 7 2 (.one 8 1 (.one 9 1 .nil)) 8 1 (.one 7 2 (.one 9 1 .nil))) 8 1 (.one 6 2 (.one 7 2 (.one 9 1 .nil)))) 8 1 (.one 5 2 (.one 6 2 (.one 7 2 (.one 9 1 .nil)))))))))) (by kernel_rfl) (by kernel_rfl) ?_
   replace hst := hst.drew
   refine pm_p rfl rfl ?_; go_wp2_with fail
   refine pm_p rfl rfl ?_; go_wp2_with fail
   refine pm_q rfl rfl ?_; go_wp2_with fail
   refine pm_qf rfl rfl (by kernel_rfl) ?_; go_wp2_with fail
   refine pm_q rfl rfl ?_; go_wp2_with (((refine L_loadM (d := some 20) rfl rfl rfl (by rfl) Tryz.underlying32 rfl el_api_Digest (by (exact fArr_old (hst.get 2 rfl))) (by (exact Dig.size _)) ?_)))
   refine pm_two (ki := 2) (kj := 1) rfl rfl ?_ ?_
   ·go_wp2_with fail; refine ⟨fun _ => (by (exact Below.refl _ _)), ?_⟩
    refine pm_two (ki := 2) (kj := 1) rfl rfl ?_ ?_
    ·go_wp2_with fail; refine ⟨fun _ => (by (exact Below.refl _ _)), ?_⟩
     refine pm_two (ki := 2) (kj := 1) rfl rfl ?_ ?_
     ·go_wp2_with (((refine L_loadM (d := some 24) rfl rfl rfl (by rfl) Tryz.underlying32 rfl el_api_Digest (by (exact fArr_old (hst.get 2 rfl))) (by (exact Dig.size _)) ?_))); refine ⟨fun _ => (by (exact Below.refl _ _)), ?_⟩
      refine pm_e rfl ?_; go_wp2_with ((refine wpl_at (.store 32 (.tmp 8) (.tmp 20)) rfl ?_; (refine L_storeA rfl rfl hst rfl (by rfl) (ev_tmp rfl) (by (exact Dig.one _)) el_api_Digest (by (exact Dig.size _)) 1 rfl (by (rfl)) ?_; clear hst; intro WS8 hst; simp only [List.set_cons_zero, List.set_cons_succ] at hst)))
      refine pm_e rfl ?_; go_wp2_with ((refine wpl_at (.store 32 (.tmp 9) (.tmp 24)) rfl ?_; (refine L_storeA rfl rfl hst rfl (by rfl) (ev_tmp rfl) (by (exact Dig.one _)) el_api_Digest (by (exact Dig.size _)) 0 rfl (by (rfl)) ?_; clear hst; intro WS9 hst; simp only [List.set_cons_zero, List.set_cons_succ] at hst)))
      refine pm_nil ?_
      go_wp2_with fail
      refine bp_cell2 rfl rfl rfl rfl (hst.get 1 rfl) (hst.get 0 rfl) Tryz.underlying32 rfl Tryz.underlying32 rfl el_api_Digest (Dig.size _) el_api_Digest (Dig.size _) ?_
      exact ⟨rfl, A, c, hst.tailN 2, hx⟩
     ·go_wp2_with ((refine wpl_at (.store 32 (.tmp 8) (.tmp 20)) rfl ?_; (refine L_storeA rfl rfl hst rfl (by rfl) (ev_tmp rfl) (by (exact Dig.one _)) el_api_Digest (by (exact Dig.size _)) 1 rfl (by (rfl)) ?_; clear hst; intro WS8 hst; simp only [List.set_cons_zero, List.set_cons_succ] at hst))); refine ⟨fun h => absurd h (by decide), ?_⟩
      refine pm_g rfl ?_; go_wp2_with (((refine L_loadM (d := some 24) rfl rfl rfl (by rfl) Tryz.underlying32 rfl el_api_Digest (by (exact fArr_old (hst.get 2 rfl))) (by (exact Dig.size _)) ?_))); refine ⟨by (exact Below.refl _ _), ?_⟩
      refine pm_e rfl ?_; go_wp2_with ((refine wpl_at (.store 32 (.tmp 9) (.tmp 24)) rfl ?_; (refine L_storeA rfl rfl hst rfl (by rfl) (ev_tmp rfl) (by (exact Dig.one _)) el_api_Digest (by (exact Dig.size _)) 0 rfl (by (rfl)) ?_; clear hst; intro WS9 hst; simp only [List.set_cons_zero, List.set_cons_succ] at hst)))
      refine pm_nil ?_
      go_wp2_with fail
      refine bp_cell2 rfl rfl rfl rfl (hst.get 1 rfl) (hst.get 0 rfl) Tryz.underlying32 rfl Tryz.underlying32 rfl el_api_Digest (Dig.size _) el_api_Digest (Dig.size _) ?_
      exact ⟨rfl, A, c, hst.tailN 2, hx⟩
    ·go_wp2_with ((refine wpl_at (.store 32 (.tmp 8) (.tmp 20)) rfl ?_; (refine L_storeA rfl rfl hst rfl (by rfl) (ev_tmp rfl) (by (exact Dig.one _)) el_api_Digest (by (exact Dig.size _)) 1 rfl (by (rfl)) ?_; clear hst; intro WS8 hst; simp only [List.set_cons_zero, List.set_cons_succ] at hst))); refine ⟨fun h => absurd h (by decide), ?_⟩
     refine pm_g rfl ?_; go_wp2_with fail; refine ⟨by (exact Below.refl _ _), ?_⟩
     refine pm_g rfl ?_; go_wp2_with (((refine L_loadM (d := some 24) rfl rfl rfl (by rfl) Tryz.underlying32 rfl el_api_Digest (by (exact fArr_old (hst.get 2 rfl))) (by (exact Dig.size _)) ?_))); refine ⟨by (exact Below.refl _ _), ?_⟩
     refine pm_e rfl ?_; go_wp2_with ((refine wpl_at (.store 32 (.tmp 9) (.tmp 24)) rfl ?_; (refine L_storeA rfl rfl hst rfl (by rfl) (ev_tmp rfl) (by (exact Dig.one _)) el_api_Digest (by (exact Dig.size _)) 0 rfl (by (rfl)) ?_; clear hst; intro WS9 hst; simp only [List.set_cons_zero, List.set_cons_succ] at hst)))
     refine pm_nil ?_
     go_wp2_with fail
     refine bp_cell2 rfl rfl rfl rfl (hst.get 1 rfl) (hst.get 0 rfl) Tryz.underlying32 rfl Tryz.underlying32 rfl el_api_Digest (Dig.size _) el_api_Digest (Dig.size _) ?_
     exact ⟨rfl, A, c, hst.tailN 2, hx⟩
   ·go_wp2_with ((refine wpl_at (.store 32 (.tmp 8) (.tmp 20)) rfl ?_; (refine L_storeA rfl rfl hst rfl (by rfl) (ev_tmp rfl) (by (exact Dig.one _)) el_api_Digest (by (exact Dig.size _)) 1 rfl (by (rfl)) ?_; clear hst; intro WS8 hst; simp only [List.set_cons_zero, List.set_cons_succ] at hst))); refine ⟨fun h => absurd h (by decide), ?_⟩
    refine pm_g rfl ?_; go_wp2_with fail; refine ⟨by (exact Below.refl _ _), ?_⟩
    refine pm_g rfl ?_; go_wp2_with fail; refine ⟨by (exact Below.refl _ _), ?_⟩
    refine pm_g rfl ?_; go_wp2_with (((refine L_loadM (d := some 24) rfl rfl rfl (by rfl) Tryz.underlying32 rfl el_api_Digest (by (exact fArr_old (hst.get 2 rfl))) (by (exact Dig.size _)) ?_))); refine ⟨by (exact Below.refl _ _), ?_⟩
    refine pm_e rfl ?_; go_wp2_with ((refine wpl_at (.store 32 (.tmp 9) (.tmp 24)) rfl ?_; (refine L_storeA rfl rfl hst rfl (by rfl) (ev_tmp rfl) (by (exact Dig.one _)) el_api_Digest (by (exact Dig.size _)) 0 rfl (by (rfl)) ?_; clear hst; intro WS9 hst; simp only [List.set_cons_zero, List.set_cons_succ] at hst)))
    refine pm_nil ?_
    go_wp2_with fail
    refine bp_cell2 rfl rfl rfl rfl (hst.get 1 rfl) (hst.get 0 rfl) Tryz.underlying32 rfl Tryz.underlying32 rfl el_api_Digest (Dig.size _) el_api_Digest (Dig.size _) ?_
    exact ⟨rfl, A, c, hst.tailN 2, hx⟩
  | false =>
   obtain ⟨d, rfl⟩ : ∃ d, p = [d] := by
    match p, hp with
    | [d], _ => exact ⟨d, rfl⟩
   obtain rfl : k = r.length + 1 := by simpa using hk
   have HK := Lib.hid (fun w L hst => take_any old d r A (r.length + 1) c g w0 w L hst hx)
   rw [Nat.add_sub_cancel] at HK
   rw [grN_all]
   simp only [Bool.false_eq_true, if_false, List.getLastD_cons, List.getLastD_nil]
   clear ih hp hk hx
   generalize digsL r = lr at *
   generalize r.length = k at *
   go_enter Tryz.func181, Tryz.ntmps181
   go_upto_region 1 with (first | (refine L_allocA (d := some 8) rfl rfl rfl el_api_Digest ?_; (try clear hnew); intro g8 W8 hnew; replace hst := hst.trans hnew; simp only [List.cons_append, List.nil_append] at hst) | (refine L_allocA (d := some 9) rfl rfl rfl el_api_Digest ?_; (try clear hnew); intro g9 W9 hnew; replace hst := hst.trans hnew; simp only [List.cons_append, List.nil_append] at hst))
   go_upto_region 2 with (fail)
   go_upto_region 4 with (fail)
   go_upto_region 5 with (first | (go_at_call 187; (try clear hnew); refine (HK.out _ _ (hst.front 2 rfl)).mono ?_; rintro e W26 ⟨rfl, A26, c26, hst', hx'⟩; clear hst; have hst := hst'; clear hst'; simp only [List.eraseIdx_cons_succ, List.eraseIdx_cons_zero] at hst) | (refine L_allocA (d := some 10) rfl rfl rfl el_api_Digest ?_; (try clear hnew); intro g10 W10 hnew; replace hst := hst.trans hnew; simp only [List.cons_append, List.nil_append] at hst) | (refine wpl_at (.store 32 (.tmp 10) (.tmp 26)) rfl ?_; (refine L_storeA rfl rfl hst rfl (by rfl) (ev_tmp rfl) (by (exact Dig.one _)) el_api_Digest (by (exact Dig.size _)) 0 rfl (by (rfl)) ?_; clear hst; intro WS3 hst; simp only [List.set_cons_zero, List.set_cons_succ] at hst)))
   (try clear hnew)
   refine wp_region_pm (.one 0 0 (.two 1 2 (.one 2 1 (.one 3 1 .nil)) 2 1 (.one 1 2 (.one 3 1 .nil)))) (by kernel_rfl) (by kernel_rfl) ?_
   replace hst := hst.drew
   refine pm_q rfl rfl ?_; go_wp2_with (((refine L_loadA (d := some 27) rfl rfl rfl (by rfl) Tryz.underlying32 rfl el_api_Digest (by (exact hst.get 0 rfl)) (by (exact Dig.size _)) ?_)))
   refine pm_two (ki := 2) (kj := 1) rfl rfl ?_ ?_
   ·go_wp2_with (((refine L_loadA (d := some 28) rfl rfl rfl (by rfl) Tryz.underlying32 rfl el_api_Digest (by (exact hst.get 0 rfl)) (by (exact Dig.size _)) ?_))); refine ⟨fun _ => (by (exact Below.refl _ _)), ?_⟩
    refine pm_e rfl ?_; go_wp2_with ((refine wpl_at (.store 32 (.tmp 8) (.tmp 27)) rfl ?_; (refine L_storeA rfl rfl hst rfl (by rfl) (ev_tmp rfl) (by (exact Dig.one _)) el_api_Digest (by (exact Dig.size _)) 3 rfl (by (rfl)) ?_; clear hst; intro WS2 hst; simp only [List.set_cons_zero, List.set_cons_succ] at hst)))
    refine pm_e rfl ?_; go_wp2_with ((refine wpl_at (.store 32 (.tmp 9) (.tmp 28)) rfl ?_; (refine L_storeA rfl rfl hst rfl (by rfl) (ev_tmp rfl) (by (exact Dig.one _)) el_api_Digest (by (exact Dig.size _)) 2 rfl (by (rfl)) ?_; clear hst; intro WS3 hst; simp only [List.set_cons_zero, List.set_cons_succ] at hst)))
    refine pm_nil ?_
    go_wp2_with fail
    refine bp_cell2 rfl rfl rfl rfl (hst.get 3 rfl) (hst.get 2 rfl) Tryz.underlying32 rfl Tryz.underlying32 rfl el_api_Digest (Dig.size _) el_api_Digest (Dig.size _) ?_
    exact ⟨rfl, A26, c26, (hst.tailN 1).keep2, hx'⟩
   ·go_wp2_with ((refine wpl_at (.store 32 (.tmp 8) (.tmp 27)) rfl ?_; (refine L_storeA rfl rfl hst rfl (by rfl) (ev_tmp rfl) (by (exact Dig.one _)) el_api_Digest (by (exact Dig.size _)) 3 rfl (by (rfl)) ?_; clear hst; intro WS2 hst; simp only [List.set_cons_zero, List.set_cons_succ] at hst))); refine ⟨fun h => absurd h (by decide), ?_⟩
    refine pm_g rfl ?_; go_wp2_with (((refine L_loadA (d := some 28) rfl rfl rfl (by rfl) Tryz.underlying32 rfl el_api_Digest (by (exact hst.get 0 rfl)) (by (exact Dig.size _)) ?_))); refine ⟨by (exact Below.refl _ _), ?_⟩
    refine pm_e rfl ?_; go_wp2_with ((refine wpl_at (.store 32 (.tmp 9) (.tmp 28)) rfl ?_; (refine L_storeA rfl rfl hst rfl (by rfl) (ev_tmp rfl) (by (exact Dig.one _)) el_api_Digest (by (exact Dig.size _)) 2 rfl (by (rfl)) ?_; clear hst; intro WS3 hst; simp only [List.set_cons_zero, List.set_cons_succ] at hst)))
    refine pm_nil ?_
    go_wp2_with fail
    refine bp_cell2 rfl rfl rfl rfl (hst.get 3 rfl) (hst.get 2 rfl) Tryz.underlying32 rfl Tryz.underlying32 rfl el_api_Digest (Dig.size _) el_api_Digest (Dig.size _) ?_
    exact ⟨rfl, A26, c26, (hst.tailN 1).keep2, hx'⟩
 ·have hlt := halfN_lt n (by omega)
  have hps := halfN_pos n
  have h' : ((m : Int) == (n : Int)) = false := by rw [beq_eq_false_iff_ne]; omega
  have HF := Lib.hid (fun w => half_any n (by omega) (by omega) w)
  by_cases hk2 : m ≤ halfN n
  ·rw [plN_left h (by omega) hk2] at hp
   obtain ⟨q, d, rfl⟩ : ∃ q d, p = q ++ [d] := ⟨p.dropLast, p.getLast (fun e => by rw [e] at hp; simp at hp), (List.dropLast_concat_getLast _).symm⟩
   have hq : q.length = plN (halfN n) m own := by simpa using hp
   rw [grN_left h (by omega) hk2]
   have HK := Lib.hid (fun w L hst => take_any old d (r ++ q) A k c g w0 w L hst (by rw [List.append_assoc]; exact hx))
   have HI := Lib.hid (fun A' c' w L hst hx' => ih (halfN n) hlt m own q A' (k - 1) c' w L hst hx' hq hm1 hk2 (by omega))
   have hk' : (m : Int) ≤ (halfN n : Int) := by omega
   clear ih hp hx hq hk h
   generalize digsL (r ++ q) = lrq at *
   generalize digsL r = lr at *
   generalize grN (halfN n) m own old q = ab at *
   generalize halfN n = kk at *
   generalize r.length = rl at *
   go_enter Tryz.func181, Tryz.ntmps181
   go_upto_region 1 with (first | (refine L_allocA (d := some 8) rfl rfl rfl el_api_Digest ?_; (try clear hnew); intro g8 W8 hnew; replace hst := hst.trans hnew; simp only [List.cons_append, List.nil_append] at hst) | (refine L_allocA (d := some 9) rfl rfl rfl el_api_Digest ?_; (try clear hnew); intro g9 W9 hnew; replace hst := hst.trans hnew; simp only [List.cons_append, List.nil_append] at hst))
   go_upto_region 6 with (fail)
   go_upto_region 7 with (first | (go_at_call 187; (try clear hnew); refine (HK.out _ _ (hst.front 2 rfl)).mono ?_; rintro e W30 ⟨rfl, A30, c30, hst', hx'⟩; clear hst; have hst := hst'; clear hst'; simp only [List.eraseIdx_cons_succ, List.eraseIdx_cons_zero] at hst) | (refine L_allocA (d := some 11) rfl rfl rfl el_api_Digest ?_; (try clear hnew); intro g11 W11 hnew; replace hst := hst.trans hnew; simp only [List.cons_append, List.nil_append] at hst) | (refine wpl_at (.store 32 (.tmp 11) (.tmp 30)) rfl ?_; (refine L_storeA rfl rfl hst rfl (by rfl) (ev_tmp rfl) (by (exact Dig.one _)) el_api_Digest (by (exact Dig.size _)) 0 rfl (by (rfl)) ?_; clear hst; intro WS3 hst; simp only [List.set_cons_zero, List.set_cons_succ] at hst)))
   go_upto_region 8 with ((go_at_call 91; (try clear hnew); refine (HF.out _).mono ?_; rintro e Wk1 ⟨rfl, hnew⟩; replace hst := hst.keep hnew))
   go_upto_region 9 with (fail)
   go_upto_region 10 with (first | (go_at_call 181; (try clear hnew); refine (HI.out _ _ _ _ (hst.front 1 rfl) hx').mono ?_; rintro e W41 ⟨rfl, A41, c41, hst', hx''⟩; clear hst; have hst := hst'; clear hst'; simp only [List.eraseIdx_cons_succ, List.eraseIdx_cons_zero] at hst) | (refine wpl_at (.store 32 (.tmp 8) (.tmp 42)) rfl ?_; (refine L_storeA rfl rfl hst rfl (by rfl) (ev_tmp rfl) (by (exact Dig.one _)) el_api_Digest (by (exact Dig.size _)) 3 rfl (by (rfl)) ?_; clear hst; intro WS8 hst; simp only [List.set_cons_zero, List.set_cons_succ] at hst)) | (refine wpl_at (.store 32 (.tmp 9) (.tmp 43)) rfl ?_; (refine L_storeA rfl rfl hst rfl (by rfl) (ev_tmp rfl) (by (exact Dig.one _)) el_api_Digest (by (exact Dig.size _)) 2 rfl (by (rfl)) ?_; clear hst; intro WS9 hst; simp only [List.set_cons_zero, List.set_cons_succ] at hst)))
   (try clear hnew)
   refine wp_region_idxT [(0, 0), (1, 0), (2, 2), (3, 2), (4, 1), (5, 1)] (by kernel_rfl) (by kernel_rfl) ?_
   replace hst := hst.drew
   refine idx_q rfl rfl ?_; go_wp2_with (((refine L_loadA (d := some 44) rfl rfl rfl (by rfl) Tryz.underlying32 rfl el_api_Digest (by (exact hst.get 3 rfl)) (by (exact Dig.size _)) ?_)))
   refine idx_q rfl rfl ?_; go_wp2_with (((refine L_loadA (d := some 45) rfl rfl rfl (by rfl) Tryz.underlying32 rfl el_api_Digest (by (exact hst.get 2 rfl)) (by (exact Dig.size _)) ?_)))
   refine idx_g rfl ?_; go_wp2_with (((refine L_loadA (d := some 46) rfl rfl rfl (by rfl) Tryz.underlying32 rfl el_api_Digest (by (exact hst.get 1 rfl)) (by (exact Dig.size _)) ?_))); refine ⟨by (exact Below.refl _ _), ?_⟩
   refine idx_g rfl ?_; go_wp2_with ((go_at_call 99; (try clear hnew); with_reducible refine (node_any _ _ _ (HT.out.of hst)).mono ?_; rintro e Wk2 ⟨rfl, hnew⟩; replace hst := hst.keep hnew)); refine ⟨by (exact hnew.below), ?_⟩
   refine idx_e rfl ?_; go_wp2_with ((refine wpl_at (.store 32 (.tmp 8) (.tmp 44)) rfl ?_; (refine L_storeA rfl rfl hst rfl (by rfl) (ev_tmp rfl) (by (exact Dig.one _)) el_api_Digest (by (exact Dig.size _)) 3 rfl (by (exact Dig.size _)) ?_; clear hst; intro WS4 hst; simp only [List.set_cons_zero, List.set_cons_succ] at hst)))
   refine idx_e rfl ?_; go_wp2_with ((refine wpl_at (.store 32 (.tmp 9) (.tmp 47)) rfl ?_; (refine L_storeA rfl rfl hst rfl (by rfl) (ev_tmp rfl) (by (exact Dig.one _)) el_api_Digest (by (rfl)) 2 rfl (by (exact Dig.size _)) ?_; clear hst; intro WS5 hst; simp only [List.set_cons_zero, List.set_cons_succ] at hst)))
   refine idx_nil ?_
   go_wp2_with fail
   refine bp_cell2 rfl rfl rfl rfl (hst.get 3 rfl) (hst.get 2 rfl) Tryz.underlying32 rfl Tryz.underlying32 rfl el_api_Digest (Dig.size _) el_api_Digest (Dig.size _) ?_
   exact ⟨rfl, A41, c41, hst.keep3, hx''⟩
  ·rw [plN_right h (by omega) hk2] at hp
   obtain ⟨q, d, rfl⟩ : ∃ q d, p = q ++ [d] := ⟨p.dropLast, p.getLast (fun e => by rw [e] at hp; simp at hp), (List.dropLast_concat_getLast _).symm⟩
   have hq : q.length = plN (n - halfN n) (m - halfN n) false := by simpa using hp
   rw [grN_right h (by omega) hk2]
   have HK := Lib.hid (fun w L hst => take_any old d (r ++ q) A k c g w0 w L hst (by rw [List.append_assoc]; exact hx))
   have HI := Lib.hid (fun A' c' w L hst hx' => ih (n - halfN n) (by omega) (m - halfN n) false q A' (k - 1) c' w L hst hx' hq (by omega) (by omega) (by omega))
   have e1 : ((m - halfN n : Nat) : Int) = (m : Int) - (halfN n : Int) := by omega
   have e2 : ((n - halfN n : Nat) : Int) = (n : Int) - (halfN n : Int) := by omega
   rw [e1, e2] at HI
   have hk' : ¬ (m : Int) ≤ (halfN n : Int) := by omega
   clear ih hp hx hq hk h e1 e2
   generalize digsL (r ++ q) = lrq at *
   generalize digsL r = lr at *
   generalize grN (n - halfN n) (m - halfN n) false old q = ab at *
   generalize halfN n = kk at *
   generalize r.length = rl at *
   go_enter Tryz.func181, Tryz.ntmps181
   go_upto_region 1 with (first | (refine L_allocA (d := some 8) rfl rfl rfl el_api_Digest ?_; (try clear hnew); intro g8 W8 hnew; replace hst := hst.trans hnew; simp only [List.cons_append, List.nil_append] at hst) | (refine L_allocA (d := some 9) rfl rfl rfl el_api_Digest ?_; (try clear hnew); intro g9 W9 hnew; replace hst := hst.trans hnew; simp only [List.cons_append, List.nil_append] at hst))
   go_upto_region 6 with (fail)
   go_upto_region 7 with (first | (go_at_call 187; (try clear hnew); refine (HK.out _ _ (hst.front 2 rfl)).mono ?_; rintro e W30 ⟨rfl, A30, c30, hst', hx'⟩; clear hst; have hst := hst'; clear hst'; simp only [List.eraseIdx_cons_succ, List.eraseIdx_cons_zero] at hst) | (refine L_allocA (d := some 11) rfl rfl rfl el_api_Digest ?_; (try clear hnew); intro g11 W11 hnew; replace hst := hst.trans hnew; simp only [List.cons_append, List.nil_append] at hst) | (refine wpl_at (.store 32 (.tmp 11) (.tmp 30)) rfl ?_; (refine L_storeA rfl rfl hst rfl (by rfl) (ev_tmp rfl) (by (exact Dig.one _)) el_api_Digest (by (exact Dig.size _)) 0 rfl (by (rfl)) ?_; clear hst; intro WS3 hst; simp only [List.set_cons_zero, List.set_cons_succ] at hst)))
   go_upto_region 8 with ((go_at_call 91; (try clear hnew); refine (HF.out _).mono ?_; rintro e Wk3 ⟨rfl, hnew⟩; replace hst := hst.keep hnew))
   go_upto_region 11 with (fail)
   go_upto_region 12 with (first | (go_at_call 181; (try clear hnew); refine (HI.out _ _ _ _ (hst.front 1 rfl) hx').mono ?_; rintro e W56 ⟨rfl, A56, c56, hst', hx''⟩; clear hst; have hst := hst'; clear hst'; simp only [List.eraseIdx_cons_succ, List.eraseIdx_cons_zero] at hst) | (refine wpl_at (.store 32 (.tmp 8) (.tmp 57)) rfl ?_; (refine L_storeA rfl rfl hst rfl (by rfl) (ev_tmp rfl) (by (exact Dig.one _)) el_api_Digest (by (exact Dig.size _)) 3 rfl (by (rfl)) ?_; clear hst; intro WS11 hst; simp only [List.set_cons_zero, List.set_cons_succ] at hst)) | (refine wpl_at (.store 32 (.tmp 9) (.tmp 58)) rfl ?_; (refine L_storeA rfl rfl hst rfl (by rfl) (ev_tmp rfl) (by (exact Dig.one _)) el_api_Digest (by (exact Dig.size _)) 2 rfl (by (rfl)) ?_; clear hst; intro WS12 hst; simp only [List.set_cons_zero, List.set_cons_succ] at hst)))
   (try clear hnew)
   refine wp_region_idxT [(0, 0), (1, 0), (3, 0), (4, 0), (2, 2), (5, 2), (6, 1), (7, 1)] (by kernel_rfl) (by kernel_rfl) ?_
   replace hst := hst.drew
   refine idx_q rfl rfl ?_; go_wp2_with (((refine L_loadA (d := some 59) rfl rfl rfl (by rfl) Tryz.underlying32 rfl el_api_Digest (by (exact hst.get 1 rfl)) (by (exact Dig.size _)) ?_)))
   refine idx_q rfl rfl ?_; go_wp2_with (((refine L_loadA (d := some 60) rfl rfl rfl (by rfl) Tryz.underlying32 rfl el_api_Digest (by (exact hst.get 3 rfl)) (by (exact Dig.size _)) ?_)))
   refine idx_q rfl rfl ?_; go_wp2_with (((refine L_loadA (d := some 62) rfl rfl rfl (by rfl) Tryz.underlying32 rfl el_api_Digest (by (exact hst.get 1 rfl)) (by (exact Dig.size _)) ?_)))
   refine idx_q rfl rfl ?_; go_wp2_with (((refine L_loadA (d := some 63) rfl rfl rfl (by rfl) Tryz.underlying32 rfl el_api_Digest (by (exact hst.get 2 rfl)) (by (exact Dig.size _)) ?_)))
   refine idx_g rfl ?_; go_wp2_with ((go_at_call 99; (try clear hnew); with_reducible refine (node_any _ _ _ (HT.out.of hst)).mono ?_; rintro e Wk4 ⟨rfl, hnew⟩; replace hst := hst.keep hnew)); refine ⟨by (exact hnew.below), ?_⟩
   refine idx_g rfl ?_; go_wp2_with ((go_at_call 99; (try clear hnew); with_reducible refine (node_any _ _ _ (HT.out.of hst)).mono ?_; rintro e Wk4 ⟨rfl, hnew⟩; replace hst := hst.keep hnew)); refine ⟨by (exact hnew.below), ?_⟩
   refine idx_e rfl ?_; go_wp2_with ((refine wpl_at (.store 32 (.tmp 8) (.tmp 61)) rfl ?_; (refine L_storeA rfl rfl hst rfl (by rfl) (ev_tmp rfl) (by (exact Dig.one _)) el_api_Digest (by (rfl)) 3 rfl (by (exact Dig.size _)) ?_; clear hst; intro WS6 hst; simp only [List.set_cons_zero, List.set_cons_succ] at hst)))
   refine idx_e rfl ?_; go_wp2_with ((refine wpl_at (.store 32 (.tmp 9) (.tmp 64)) rfl ?_; (refine L_storeA rfl rfl hst rfl (by rfl) (ev_tmp rfl) (by (exact Dig.one _)) el_api_Digest (by (rfl)) 2 rfl (by (exact Dig.size _)) ?_; clear hst; intro WS7 hst; simp only [List.set_cons_zero, List.set_cons_succ] at hst)))
   refine idx_nil ?_
   go_wp2_with fail
   refine bp_cell2 rfl rfl rfl rfl (hst.get 3 rfl) (hst.get 2 rfl) Tryz.underlying32 rfl Tryz.underlying32 rfl el_api_Digest (Dig.size _) el_api_Digest (Dig.size _) ?_
   exact ⟨rfl, A56, c56, hst.keep3, hx''⟩
end Go.Proofs.YtaebeemnipafbaaGreatDoor

set_option maxRecDepth 20000
set_option linter.unusedSimpArgs false
set_option linter.unusedVariables false
namespace Go.Proofs.YtaebeemnipafbaaGreatDoor
theorem small_fSha (ns : List Nat) : small (fSha ns) := by
 unfold fSha
 rw [fForceL_eq]
 intro x hx
 simp only [id, List.mem_flatMap, fBytes, List.mem_cons, List.not_mem_nil, or_false] at hx
 obtain ⟨w, _, hx⟩ := hx
 rcases hx with rfl | rfl | rfl | rfl <;> exact Nat.mod_lt _ (by omega)
theorem small_app {a b : List Nat} (ha : small a) (hb : small b) : small (a ++ b) := fun x hx => by
 rcases List.mem_append.1 hx with h | h
 ·exact ha x h
 ·exact hb x h
theorem ofNs_app (a b : List Nat) : ofNs (a ++ b) = ofNs a ++ ofNs b := by simp [ofNs]
theorem ofNs_inj {a b : List Nat} (ha : small a) (hb : small b) (h : ofNs a = ofNs b) : a = b := by
 have e : ∀ l : List Nat, small l → (ofNs l).map UInt8.toNat = l := fun l hl => by
  simp only [ofNs, List.map_map]
  rw [List.map_congr_left (g := id)]
  ·simp
  ·intro x hx
   have := hl x hx
   simp only [Function.comp, UInt8.toNat_ofNat', id]
   omega
 rw [← e a ha, ← e b hb, h]
def fPadK (k : List Nat) (x : Nat) : List Nat := (k ++ List.replicate (64 - k.length) 0).map fun y => Nat.xor y x
def fMac (k b : List Nat) : List Nat := fSha (fPadK k 92 ++ fSha (fPadK k 54 ++ b))
theorem small_padK {k : List Nat} (hk : small k) (x : Nat) (hx : x < 256) : small (fPadK k x) := by
 intro y hy
 simp only [fPadK, List.mem_map, List.mem_append, List.mem_replicate] at hy
 obtain ⟨z, hz, rfl⟩ := hy
 refine Nat.xor_lt_two_pow (n := 8) ?_ hx
 rcases hz with hz | ⟨_, rfl⟩
 ·exact hk z hz
 ·omega
theorem padK_of {k : List Nat} (hk : small k) (hl : k.length ≤ 64) (x : Nat) (hx : x < 256) : padK (ofNs k) (UInt8.ofNat x) = ofNs (fPadK k x) := by
 apply List.ext_getElem?
 intro i
 by_cases hi : i < 64
 ·simp only [padK, fPadK, ofNs, List.getElem?_map, List.getElem?_range hi, Option.map_some]
  have hg : (k ++ List.replicate (64 - k.length) 0)[i]? = some (k.getD i 0) := by
   by_cases h : i < k.length
   ·simp [List.getElem?_append, h]
   ·simp only [List.getElem?_append, h, if_false, List.getD_eq_getElem?_getD, List.getElem?_eq_none (show k.length ≤ i by omega), Option.getD_none]
    rw [List.getElem?_replicate, if_pos (by omega)]
  rw [hg]
  simp only [Option.map_some, Option.some.injEq]
  have hs : k.getD i 0 < 256 := by
   by_cases h : i < k.length
   ·simp only [List.getD_eq_getElem?_getD, List.getElem?_eq_getElem h, Option.getD_some]; exact hk _ (List.getElem_mem h)
   ·simp only [List.getD_eq_getElem?_getD, List.getElem?_eq_none (show k.length ≤ i by omega), Option.getD_none]; omega
  have hm : (List.map UInt8.ofNat k).getD i 0 = UInt8.ofNat (k.getD i 0) := by
   by_cases h : i < k.length
   ·simp [h]
   ·simp [List.getElem?_eq_none (show k.length ≤ i by omega)]
  rw [hm]
  apply UInt8.toNat_inj.1
  rw [UInt8.toNat_xor, UInt8.toNat_ofNat', UInt8.toNat_ofNat', UInt8.toNat_ofNat', Nat.mod_eq_of_lt hs, Nat.mod_eq_of_lt hx]
  exact (Nat.mod_eq_of_lt (Nat.xor_lt_two_pow (n := 8) hs hx)).symm
 ·rw [List.getElem?_eq_none (by rw [length_padK]; omega), List.getElem?_eq_none (by simp [ofNs, fPadK]; omega)]
theorem mac_of {k b : List Nat} (hk : small k) (hl : k.length ≤ 64) (hb : small b) : (macN (ofNs k) (ofNs b)).l = ofNs (fMac k b) := by
 have h1 : keyOf (ofNs k) = ofNs k := by
  rw [keyOf, if_neg (by simp [ofNs]; omega)]
 unfold macN fMac
 rw [h1, show (92 : UInt8) = UInt8.ofNat 92 from rfl, show (54 : UInt8) = UInt8.ofNat 54 from rfl, padK_of hk hl 92 (by omega), padK_of hk hl 54 (by omega), ← ofNs_app,
  fSha_eq _ (small_app (small_padK hk 54 (by omega)) hb), ← ofNs_app, fSha_eq _ (small_app (small_padK hk 92 (by omega)) (small_fSha _))]
theorem zeroD_of : zeroD.l = ofNs (List.replicate 32 0) := by simp [zeroD, ofNs]
theorem small_rep (n x : Nat) (h : x < 256) : small (List.replicate n x) := fun y hy => by
 rw [List.mem_replicate] at hy
 rw [hy.2]; exact h
theorem ne_zero_of {d : Dig} {ns : List Nat} (hd : d.l = ofNs ns) (hs : small ns) (h : (ns == List.replicate 32 0) = false) : d ≠ zeroD := fun e => by
 rw [e, zeroD_of] at hd
 have := ofNs_inj (small_rep 32 0 (by omega)) hs hd
 rw [← this] at h
 simp at h
theorem abc_l : (sha [97, 98, 99]).l = ofNs [186, 120, 22, 191, 143, 1, 207, 234, 65, 65, 64, 222, 93, 174, 34, 35, 176, 3, 97, 163, 150, 23, 122, 156, 180, 16, 255, 97, 242, 0, 21, 173] := by
 have := fSha_eq [97, 98, 99] (small_dec (by decide))
 rw [show fSha [97, 98, 99] = _ from (by decide +kernel : fSha [97, 98, 99] = [186, 120, 22, 191, 143, 1, 207, 234, 65, 65, 64, 222, 93, 174, 34, 35, 176, 3, 97, 163, 150, 23, 122, 156, 180, 16, 255, 97, 242, 0, 21, 173])] at this
 exact this
theorem abc_at (i k : Nat) (h : [186, 120, 22, 191, 143, 1, 207, 234, 65, 65, 64, 222, 93, 174, 34, 35, 176, 3, 97, 163, 150, 23, 122, 156, 180, 16, 255, 97, 242, 0, 21, 173][i]? = some k) (hk : k < 256) : (sha [97, 98, 99]).arr[i]? = some (.int .u8 (k : Int)) := by
 unfold Dig.arr bytesV bytesL
 rw [abc_l]
 simp only [ofNs, List.getElem?_toArray, List.getElem?_map, h, Option.map_some, byteV]
 rw [UInt8.toNat_ofNat', Nat.mod_eq_of_lt hk]
theorem mac_nil_ne : macN [] [] ≠ zeroD :=
 ne_zero_of (mac_of (k := []) (b := []) (small_dec (by decide)) (by decide) (small_dec (by decide))) (small_fSha _) (by decide +kernel)
theorem step_of (ns : List Nat) (hs : small ns) (d : Dig) (hd : d.l = ofNs ns) : (stepN d).l = ofNs (fSha (8 :: ns)) := by
 have : (8 : UInt8) :: allB [d] = ofNs (8 :: ns) := by simp [allB, hd, ofNs]
 unfold stepN ofN
 rw [this]
 exact fSha_eq _ (fun x hx => by
  rcases List.mem_cons.1 hx with rfl | hx
  ·omega
  ·exact hs x hx)
theorem walk1_ne : walkN zeroD 1 ≠ zeroD :=
 ne_zero_of (step_of _ (small_rep 32 0 (by omega)) zeroD zeroD_of) (small_fSha _) (by decide +kernel)
end Go.Proofs.YtaebeemnipafbaaGreatDoor

set_option maxRecDepth 20000
set_option linter.unusedSimpArgs false
set_option linter.unusedVariables false
namespace Go.Proofs.YtaebeemnipafbaaGreatDoor
open Go.RowKit
def tagD (k : UInt8) : Dig := ⟨k :: List.replicate 31 0, by simp⟩
theorem tag_1 : zeroD.arr.setIfInBounds 0 (.int .u8 1) = (tagD 1).arr := by rfl
theorem tag_2 : zeroD.arr.setIfInBounds 0 (.int .u8 2) = (tagD 2).arr := by rfl
theorem node_of (a b : List Nat) (ha : small a) (hb : small b) (d e : Dig) (hd : d.l = ofNs a) (he : e.l = ofNs b) : (nodeN d e).l = ofNs (fSha (1 :: (a ++ b))) := by
 have h : (1 : UInt8) :: allB [d, e] = ofNs (1 :: (a ++ b)) := by simp [allB, hd, he, ofNs]
 unfold nodeN ofN
 rw [h]
 exact fSha_eq _ (fun x hx => by
  rcases List.mem_cons.1 hx with rfl | hx
  ·omega
  ·exact small_app ha hb x hx)
theorem tag_of (k : Nat) : (tagD (UInt8.ofNat k)).l = ofNs (k :: List.replicate 31 0) := by simp [tagD, ofNs]
theorem small_tag (k : Nat) (h : k < 256) : small (k :: List.replicate 31 0) := fun x hx => by
 rcases List.mem_cons.1 hx with rfl | hx
 ·exact h
 ·exact small_rep 31 0 (by omega) x hx
theorem node12_ne : nodeN (tagD 1) (tagD 2) ≠ zeroD :=
 ne_zero_of (node_of _ _ (small_tag 1 (by omega)) (small_tag 2 (by omega)) (tagD 1) (tagD 2) (tag_of 1) (tag_of 2)) (small_fSha _) (by decide +kernel)
theorem root12 : rootN [tagD 1, tagD 2] = nodeN (tagD 1) (tagD 2) := by
 rw [rootN_more _ (by decide), show halfN [tagD 1, tagD 2].length = 1 by decide]
 show nodeN (rootN [tagD 1]) (rootN [tagD 2]) = _
 rw [rootN_one, rootN_one]
end Go.Proofs.YtaebeemnipafbaaGreatDoor

set_option maxRecDepth 20000
set_option linter.unusedSimpArgs false
set_option linter.unusedVariables false
namespace Go.Proofs.YtaebeemnipafbaaGreatDoor
open Go.RowKit
section
variable {P : Program} {W : World}
theorem run_loadVar_one {g : Nat} {ty : TypeId} {v : Value} (hc : W.cell? ⟨g, 0, none⟩ = some v) {td : TypeDesc} (hu : P.underlying ty = some td) (hn : td.isRow = false) : (loadVar ty ⟨g, 0, none⟩).run P W = .ok v W := by
 have hagg : (isAgg ty).run P W = .ok false W := by
  unfold isAgg
  rw [Sem.run_bind, run_underlying hu W]
  cases td <;> simp_all [TypeDesc.isRow]
 simp [loadVar, hagg, load, Sem.run, hc]
theorem res_cell3 {fn : Func} {p q r : Tmp} {ty ty' tz : TypeId} (hr : fn.results = #[.cell p ty, .cell q ty', .cell r tz]) {tmps : Array Value} {g g' gz : Nat} (hp : tmps.toList[p]? = some (.pointer (some ⟨g, 0, none⟩))) (hq : tmps.toList[q]? = some (.pointer (some ⟨g', 0, none⟩))) (hz : tmps.toList[r]? = some (.pointer (some ⟨gz, 0, none⟩))) {t t' : TypeId} {cs cs' : Array Value} {fr fr' : Nat × Nat} (hg : W.heap[g]? = some (.cells cs t fr)) (hg' : W.heap[g']? = some (.cells cs' t' fr')) {v : Value} (hv : W.cell? ⟨gz, 0, none⟩ = some v)
  {td td' tdz : TypeDesc} (hu : P.underlying ty = some td) (hrow : td.isRow = true) (hu' : P.underlying ty' = some td') (hrow' : td'.isRow = true) (huz : P.underlying tz = some tdz) (hrz : tdz.isRow = false) {z z' : Value} {s s' b b' : Nat} (he : ElemIs P ty z s b) (hs : cs.size = s) (he' : ElemIs P ty' z' s' b') (hs' : cs'.size = s') : (results fn tmps).run P W = .ok (.tuple #[.agg cs, .agg cs', v]) W := by
 have hp' : tmps[p]?.getD undef = .pointer (some ⟨g, 0, none⟩) := by
  have : tmps[p]? = some (.pointer (some ⟨g, 0, none⟩)) := by simpa using hp
  simp [this]
 have hq' : tmps[q]?.getD undef = .pointer (some ⟨g', 0, none⟩) := by
  have : tmps[q]? = some (.pointer (some ⟨g', 0, none⟩)) := by simpa using hq
  simp [this]
 have hz' : tmps[r]?.getD undef = .pointer (some ⟨gz, 0, none⟩) := by
  have : tmps[r]? = some (.pointer (some ⟨gz, 0, none⟩)) := by simpa using hz
  simp [this]
 simp [results, hr, hp', hq', hz', asAddr, run_loadVar_row W g t ty cs fr td hg hu (by cases td <;> simp_all [TypeDesc.isRow]) (by rw [he.size, hs]), run_loadVar_row W g' t' ty' cs' fr' td' hg' hu' (by cases td' <;> simp_all [TypeDesc.isRow]) (by rw [he'.size, hs']), run_loadVar_one hv huz hrz]
end
theorem catch_idle (a b c : Value) (w : World) : CallsD Tryz.prog 180 #[a, b, c] .returning w fun e u' w' => e = .returned (.tuple #[]) ∧ u' = .returning ∧ w' = w := by
 refine callsD_of_wpS Tryz.func180 rfl fun c₀ cs hu => ?_
 apply wpS_seq
 apply wpS_region
 simp [wpOpsS, go_sem, recoverD, hu, Tryz.ntmps180, Exit.thenS]
 refine wpS_of_wp ?_
 go_wp2
 cases c₀
 simp_all [bodyPostS, results, Tryz.results180]
set_option maxHeartbeats 4000000 in
set_option maxRecDepth 100000 in
theorem gFold_any (n m : Nat) (old : Dig) (p : List Dig) (A : Option Addr) (k c : Nat) (w : World) (hT : Tb w) (hx : SlR w A k c 32 (digsL p)) (hk : k = plN n m true) (h1 : 1 ≤ m) (hmn : m ≤ n) (hn : n ≤ 256) :
  Calls Tryz.prog 167 #[.int .i64 (m : Int), .int .i64 (n : Int), old.v, .slice A k c] w fun e w' => e = .returned (.tuple #[(grN n m true old p).1.v, (grN n m true old p).2.v, .nilIface]) ∧ St w w' [] := by
 have hst := St.refl w
 have hlp : p.length = plN n m true := by have := hx.1; rw [length_digsL] at this; omega
 have HI := Lib.hid (fun g w' L hst => gfold_any old g w hT [] n m true p A k c w' L hst hx hlp h1 hmn hn)
 have t1 : ¬ (n : Int) < 1 := by omega
 have t2 : ¬ (256 : Int) < (n : Int) := by omega
 have t3 : ¬ (m : Int) < 1 := by omega
 have t4 : ¬ (n : Int) < (m : Int) := by omega
 have hmf : ∀ (fn : Fn) (first cap : Array Value) (w : World), (Instr.makeFunc fn first cap).run Tryz.prog w = .ok (.func fn first cap) w := fun _ _ _ _ => rfl
 have HF := Lib.hid (fun A' c' => fArr_at old A' 0 c')
 clear hlp hk hT hx
 generalize grN n m true old p = ab at *
 go_enter_defers Tryz.func167, Tryz.ntmps167
 go_upto_region 1 with (first | (refine L_boxA (d := some 6) rfl rfl rfl (ev_tmp rfl) ?_; (try clear hnew); intro g6 W6 hnew; replace hst := hst.trans hnew; simp only [List.cons_append, List.nil_append] at hst) | (refine L_allocA (d := some 8) rfl rfl rfl el_api_Digest ?_; (try clear hnew); intro g8 W8 hnew; replace hst := hst.trans hnew; simp only [List.cons_append, List.nil_append] at hst) | (refine L_allocA (d := some 9) rfl rfl rfl el_api_Digest ?_; (try clear hnew); intro g9 W9 hnew; replace hst := hst.trans hnew; simp only [List.cons_append, List.nil_append] at hst) | (refine L_alloc1 (d := some 10) rfl rfl rfl el_error rfl ?_; (try clear hnew); intro g10 W10 hnew; replace hst := hst.trans hnew; simp only [List.cons_append, List.nil_append] at hst))
 go_upto_region 3 with (fail)
 go_upto_region 4 with (fail)
 go_upto_region 5 with (first | (refine L_buildF (d := some 33) rfl rfl rfl (ev_tmp rfl) (ev_tmp rfl) ?_) | ((refine L_loadA (d := some 31) rfl rfl rfl (by rfl) Tryz.underlying32 rfl el_api_Digest (by (exact hst.get 3 rfl)) (by (exact Dig.size _)) ?_)) | (refine L_boxA (d := some 34) rfl rfl rfl (ev_tmp rfl) ?_; (try clear hnew); intro g34 W34 hnew; replace hst := hst.trans hnew; simp only [List.cons_append, List.nil_append] at hst))
 go_upto_region 6 with (first | (go_at_call 181; (try clear hnew); refine (HI.out _ _ _ hst).mono ?_; rintro e W39 ⟨rfl, A39, c39, hst', hx'⟩; clear hst; have hst := hst'; clear hst'; simp only [List.length_nil] at hst) | (refine wpl_at (.store 32 (.tmp 8) (.tmp 40)) rfl ?_; (refine L_storeA rfl rfl hst rfl (by rfl) (ev_tmp rfl) (by (exact Dig.one _)) el_api_Digest (by (exact Dig.size _)) 3 rfl (by (rfl)) ?_; clear hst; intro WS7 hst; simp only [List.set_cons_zero, List.set_cons_succ] at hst)) | (refine wpl_at (.store 32 (.tmp 9) (.tmp 41)) rfl ?_; (refine L_storeA rfl rfl hst rfl (by rfl) (ev_tmp rfl) (by (exact Dig.one _)) el_api_Digest (by (exact Dig.size _)) 2 rfl (by (rfl)) ?_; clear hst; intro WS8 hst; simp only [List.set_cons_zero, List.set_cons_succ] at hst)))
 (try clear hnew)
 go_upto_region 8 with ((refine L_load1 (d := some 45) rfl rfl rfl (by rfl) Tryz.underlying44 rfl (by (exact cell_of (hst.get 0 rfl) (HF.out _ _))) ?_))
 refine wp_region_pm (.one 0 0 (.two 1 2 (.one 2 1 (.one 3 1 (.one 4 1 .nil))) 2 1 (.one 1 2 (.one 3 1 (.one 4 1 .nil))))) (by kernel_rfl) (by kernel_rfl) ?_
 replace hst := hst.drew
 refine pm_q rfl rfl ?_; go_wp2_with (((refine L_loadA (d := some 49) rfl rfl rfl (by rfl) Tryz.underlying32 rfl el_api_Digest (by (exact hst.get 3 rfl)) (by (exact Dig.size _)) ?_)))
 refine pm_two (ki := 2) (kj := 1) rfl rfl ?_ ?_
 ·go_wp2_with (((refine L_loadA (d := some 50) rfl rfl rfl (by rfl) Tryz.underlying32 rfl el_api_Digest (by (exact hst.get 2 rfl)) (by (exact Dig.size _)) ?_))); refine ⟨fun _ => (by (exact Below.refl _ _)), ?_⟩
  refine pm_e rfl ?_; go_wp2_with ((refine wpl_at (.store 32 (.tmp 8) (.tmp 49)) rfl ?_; (refine L_storeA rfl rfl hst rfl (by rfl) (ev_tmp rfl) (by (exact Dig.one _)) el_api_Digest (by (exact Dig.size _)) 3 rfl (by (exact Dig.size _)) ?_; clear hst; intro WS2 hst; simp only [List.set_cons_zero, List.set_cons_succ] at hst)))
  refine pm_e rfl ?_; go_wp2_with ((refine wpl_at (.store 32 (.tmp 9) (.tmp 50)) rfl ?_; (refine L_storeA rfl rfl hst rfl (by rfl) (ev_tmp rfl) (by (exact Dig.one _)) el_api_Digest (by (exact Dig.size _)) 2 rfl (by (exact Dig.size _)) ?_; clear hst; intro WS3 hst; simp only [List.set_cons_zero, List.set_cons_succ] at hst)))
  refine pm_e rfl ?_; go_wp2_with ((refine wpl_at (.store 36 (.tmp 10) _) rfl ?_; (refine L_store1 rfl rfl hst rfl (by rfl) ev_const rfl el_error 1 rfl (by (exact of_decide_eq_true rfl)) ?_; clear hst; intro WS4 hst; simp only [List.set_cons_zero, List.set_cons_succ] at hst)))
  refine pm_nil ?_
  go_wp2_with fail
  refine leaves_cons (f := 180) (args := #[.pointer (some ⟨g8, 0, none⟩), .pointer (some ⟨g9, 0, none⟩), .pointer (some ⟨g10, 0, none⟩)]) (by simp) (by simp [go_sem]) ?_
  refine (catch_idle _ _ _ _).mono ?_
  rintro e u' w'' ⟨rfl, rfl, rfl⟩
  exact ⟨_, res_cell3 rfl rfl rfl rfl (hst.get 3 rfl) (hst.get 2 rfl) (cell_of (hst.get 1 rfl) rfl) Tryz.underlying32 rfl Tryz.underlying32 rfl Tryz.underlying36 rfl el_api_Digest (Dig.size _) el_api_Digest (Dig.size _), rfl, hst.forget⟩
 ·go_wp2_with ((refine wpl_at (.store 32 (.tmp 8) (.tmp 49)) rfl ?_; (refine L_storeA rfl rfl hst rfl (by rfl) (ev_tmp rfl) (by (exact Dig.one _)) el_api_Digest (by (exact Dig.size _)) 3 rfl (by (exact Dig.size _)) ?_; clear hst; intro WS2 hst; simp only [List.set_cons_zero, List.set_cons_succ] at hst))); refine ⟨fun h => absurd h (by decide), ?_⟩
  refine pm_g rfl ?_; go_wp2_with (((refine L_loadA (d := some 50) rfl rfl rfl (by rfl) Tryz.underlying32 rfl el_api_Digest (by (exact hst.get 2 rfl)) (by (exact Dig.size _)) ?_))); refine ⟨by (exact Below.refl _ _), ?_⟩
  refine pm_e rfl ?_; go_wp2_with ((refine wpl_at (.store 32 (.tmp 9) (.tmp 50)) rfl ?_; (refine L_storeA rfl rfl hst rfl (by rfl) (ev_tmp rfl) (by (exact Dig.one _)) el_api_Digest (by (exact Dig.size _)) 2 rfl (by (exact Dig.size _)) ?_; clear hst; intro WS3 hst; simp only [List.set_cons_zero, List.set_cons_succ] at hst)))
  refine pm_e rfl ?_; go_wp2_with ((refine wpl_at (.store 36 (.tmp 10) _) rfl ?_; (refine L_store1 rfl rfl hst rfl (by rfl) ev_const rfl el_error 1 rfl (by (exact of_decide_eq_true rfl)) ?_; clear hst; intro WS4 hst; simp only [List.set_cons_zero, List.set_cons_succ] at hst)))
  refine pm_nil ?_
  go_wp2_with fail
  refine leaves_cons (f := 180) (args := #[.pointer (some ⟨g8, 0, none⟩), .pointer (some ⟨g9, 0, none⟩), .pointer (some ⟨g10, 0, none⟩)]) (by simp) (by simp [go_sem]) ?_
  refine (catch_idle _ _ _ _).mono ?_
  rintro e u' w'' ⟨rfl, rfl, rfl⟩
  exact ⟨_, res_cell3 rfl rfl rfl rfl (hst.get 3 rfl) (hst.get 2 rfl) (cell_of (hst.get 1 rfl) rfl) Tryz.underlying32 rfl Tryz.underlying32 rfl Tryz.underlying36 rfl el_api_Digest (Dig.size _) el_api_Digest (Dig.size _), rfl, hst.forget⟩
set_option maxHeartbeats 4000000 in
set_option maxRecDepth 100000 in
theorem gCheck_any (n m : Nat) (old now : Dig) (p : List Dig) (A : Option Addr) (k c : Nat) (w : World) (hT : Tb w) (hx : SlR w A k c 32 (digsL p)) (hk : k = plN n m true) (h1 : 1 ≤ m) (hmn : m ≤ n) (hn : n ≤ 256) :
  Calls Tryz.prog 152 #[.int .i64 (m : Int), .int .i64 (n : Int), old.v, now.v, .slice A k c] w fun e w' => e = .returned (.bool (decide ((grN n m true old p).1 = old) && decide ((grN n m true old p).2 = now))) ∧ St w w' [] := by
 have hst := St.refl w
 have HF := Lib.hid (fun w hT hs => gFold_any n m old p A k c w hT hs hk h1 hmn hn)
 have HT := Lib.hid hT
 clear hT hk h1 hmn hn
 generalize (grN n m true old p).1 = x at *
 generalize (grN n m true old p).2 = y at *
 by_cases ha : x = old
 ·have H1 := Lib.hid (show decide (x = old) = true by simp [ha])
  by_cases hb : y = now
  ·have H2 := Lib.hid (show decide (y = now) = true by simp [hb])
   rw [H1.out, H2.out]
   clear ha hb
   go_enter Tryz.func152, Tryz.ntmps152
   go_upto_region 1 with (first | (refine L_boxA (d := some 7) rfl rfl rfl (ev_tmp rfl) ?_; (try clear hnew); intro g7 W7 hnew; replace hst := hst.trans hnew; simp only [List.cons_append, List.nil_append] at hst) | (refine L_boxA (d := some 8) rfl rfl rfl (ev_tmp rfl) ?_; (try clear hnew); intro g8 W8 hnew; replace hst := hst.trans hnew; simp only [List.cons_append, List.nil_append] at hst))
   go_upto_region 2 with (first | (go_at_call 167; (try clear hnew); refine (HF.out _ (HT.out.of hst) (hst.old (by decide) hx)).mono ?_; rintro e Wk1 ⟨rfl, hnew⟩; replace hst := hst.keep hnew) | ((refine L_loadA (d := some 17) rfl rfl rfl (by rfl) Tryz.underlying32 rfl el_api_Digest (by (exact hst.get 1 rfl)) (by (exact Dig.size _)) ?_)) | (refine L_allocA (d := some 11) rfl rfl rfl el_api_Digest ?_; (try clear hnew); intro g11 W11 hnew; replace hst := hst.trans hnew; simp only [List.cons_append, List.nil_append] at hst) | (refine L_allocA (d := some 12) rfl rfl rfl el_api_Digest ?_; (try clear hnew); intro g12 W12 hnew; replace hst := hst.trans hnew; simp only [List.cons_append, List.nil_append] at hst) | (refine wpl_at (.store 32 (.tmp 11) (.tmp 20)) rfl ?_; (refine L_storeA rfl rfl hst rfl (by rfl) (ev_tmp rfl) (by (exact Dig.one _)) el_api_Digest (by (exact Dig.size _)) 1 rfl (by (rfl)) ?_; clear hst; intro WS11 hst; simp only [List.set_cons_zero, List.set_cons_succ] at hst)) | (refine wpl_at (.store 32 (.tmp 12) (.tmp 21)) rfl ?_; (refine L_storeA rfl rfl hst rfl (by rfl) (ev_tmp rfl) (by (exact Dig.one _)) el_api_Digest (by (exact Dig.size _)) 0 rfl (by (rfl)) ?_; clear hst; intro WS12 hst; simp only [List.set_cons_zero, List.set_cons_succ] at hst)))
   go_wp2_with (first | ((refine L_loadA (d := some 26) rfl rfl rfl (by rfl) Tryz.underlying32 rfl el_api_Digest (by (exact hst.get 1 rfl)) (by (exact Dig.size _)) ?_)) | ((refine L_loadA (d := some 27) rfl rfl rfl (by rfl) Tryz.underlying32 rfl el_api_Digest (by (exact hst.get 3 rfl)) (by (exact Dig.size _)) ?_)) | (refine L_eqD (d := some 28) rfl rfl rfl Tryz.underlying32 Tryz.underlying5 el_uint8 eqG_D (ev_tmp rfl) (ev_tmp rfl) ?_; (try rw [H1.out])) | ((refine L_loadA (d := some 31) rfl rfl rfl (by rfl) Tryz.underlying32 rfl el_api_Digest (by (exact hst.get 0 rfl)) (by (exact Dig.size _)) ?_)) | ((refine L_loadA (d := some 32) rfl rfl rfl (by rfl) Tryz.underlying32 rfl el_api_Digest (by (exact hst.get 2 rfl)) (by (exact Dig.size _)) ?_)) | (refine L_eqD (d := some 33) rfl rfl rfl Tryz.underlying32 Tryz.underlying5 el_uint8 eqG_D (ev_tmp rfl) (ev_tmp rfl) ?_; (try rw [H2.out])))
   go_ret
   exact ⟨rfl, hst.forget⟩
  ·have H2 := Lib.hid (show decide (y = now) = false by simp [hb])
   rw [H1.out, H2.out]
   clear ha hb
   go_enter Tryz.func152, Tryz.ntmps152
   go_upto_region 1 with (first | (refine L_boxA (d := some 7) rfl rfl rfl (ev_tmp rfl) ?_; (try clear hnew); intro g7 W7 hnew; replace hst := hst.trans hnew; simp only [List.cons_append, List.nil_append] at hst) | (refine L_boxA (d := some 8) rfl rfl rfl (ev_tmp rfl) ?_; (try clear hnew); intro g8 W8 hnew; replace hst := hst.trans hnew; simp only [List.cons_append, List.nil_append] at hst))
   go_upto_region 2 with (first | (go_at_call 167; (try clear hnew); refine (HF.out _ (HT.out.of hst) (hst.old (by decide) hx)).mono ?_; rintro e Wk2 ⟨rfl, hnew⟩; replace hst := hst.keep hnew) | ((refine L_loadA (d := some 17) rfl rfl rfl (by rfl) Tryz.underlying32 rfl el_api_Digest (by (exact hst.get 1 rfl)) (by (exact Dig.size _)) ?_)) | (refine L_allocA (d := some 11) rfl rfl rfl el_api_Digest ?_; (try clear hnew); intro g11 W11 hnew; replace hst := hst.trans hnew; simp only [List.cons_append, List.nil_append] at hst) | (refine L_allocA (d := some 12) rfl rfl rfl el_api_Digest ?_; (try clear hnew); intro g12 W12 hnew; replace hst := hst.trans hnew; simp only [List.cons_append, List.nil_append] at hst) | (refine wpl_at (.store 32 (.tmp 11) (.tmp 20)) rfl ?_; (refine L_storeA rfl rfl hst rfl (by rfl) (ev_tmp rfl) (by (exact Dig.one _)) el_api_Digest (by (exact Dig.size _)) 1 rfl (by (rfl)) ?_; clear hst; intro WS11 hst; simp only [List.set_cons_zero, List.set_cons_succ] at hst)) | (refine wpl_at (.store 32 (.tmp 12) (.tmp 21)) rfl ?_; (refine L_storeA rfl rfl hst rfl (by rfl) (ev_tmp rfl) (by (exact Dig.one _)) el_api_Digest (by (exact Dig.size _)) 0 rfl (by (rfl)) ?_; clear hst; intro WS12 hst; simp only [List.set_cons_zero, List.set_cons_succ] at hst)))
   go_wp2_with (first | ((refine L_loadA (d := some 26) rfl rfl rfl (by rfl) Tryz.underlying32 rfl el_api_Digest (by (exact hst.get 1 rfl)) (by (exact Dig.size _)) ?_)) | ((refine L_loadA (d := some 27) rfl rfl rfl (by rfl) Tryz.underlying32 rfl el_api_Digest (by (exact hst.get 3 rfl)) (by (exact Dig.size _)) ?_)) | (refine L_eqD (d := some 28) rfl rfl rfl Tryz.underlying32 Tryz.underlying5 el_uint8 eqG_D (ev_tmp rfl) (ev_tmp rfl) ?_; (try rw [H1.out])) | ((refine L_loadA (d := some 31) rfl rfl rfl (by rfl) Tryz.underlying32 rfl el_api_Digest (by (exact hst.get 0 rfl)) (by (exact Dig.size _)) ?_)) | ((refine L_loadA (d := some 32) rfl rfl rfl (by rfl) Tryz.underlying32 rfl el_api_Digest (by (exact hst.get 2 rfl)) (by (exact Dig.size _)) ?_)) | (refine L_eqD (d := some 33) rfl rfl rfl Tryz.underlying32 Tryz.underlying5 el_uint8 eqG_D (ev_tmp rfl) (ev_tmp rfl) ?_; (try rw [H2.out])))
   go_ret
   exact ⟨rfl, hst.forget⟩
 ·have H1 := Lib.hid (show decide (x = old) = false by simp [ha])
  rw [H1.out, Bool.false_and]
  clear ha
  go_enter Tryz.func152, Tryz.ntmps152
  go_upto_region 1 with (first | (refine L_boxA (d := some 7) rfl rfl rfl (ev_tmp rfl) ?_; (try clear hnew); intro g7 W7 hnew; replace hst := hst.trans hnew; simp only [List.cons_append, List.nil_append] at hst) | (refine L_boxA (d := some 8) rfl rfl rfl (ev_tmp rfl) ?_; (try clear hnew); intro g8 W8 hnew; replace hst := hst.trans hnew; simp only [List.cons_append, List.nil_append] at hst))
  go_upto_region 2 with (first | (go_at_call 167; (try clear hnew); refine (HF.out _ (HT.out.of hst) (hst.old (by decide) hx)).mono ?_; rintro e Wk3 ⟨rfl, hnew⟩; replace hst := hst.keep hnew) | ((refine L_loadA (d := some 17) rfl rfl rfl (by rfl) Tryz.underlying32 rfl el_api_Digest (by (exact hst.get 1 rfl)) (by (exact Dig.size _)) ?_)) | (refine L_allocA (d := some 11) rfl rfl rfl el_api_Digest ?_; (try clear hnew); intro g11 W11 hnew; replace hst := hst.trans hnew; simp only [List.cons_append, List.nil_append] at hst) | (refine L_allocA (d := some 12) rfl rfl rfl el_api_Digest ?_; (try clear hnew); intro g12 W12 hnew; replace hst := hst.trans hnew; simp only [List.cons_append, List.nil_append] at hst) | (refine wpl_at (.store 32 (.tmp 11) (.tmp 20)) rfl ?_; (refine L_storeA rfl rfl hst rfl (by rfl) (ev_tmp rfl) (by (exact Dig.one _)) el_api_Digest (by (exact Dig.size _)) 1 rfl (by (rfl)) ?_; clear hst; intro WS11 hst; simp only [List.set_cons_zero, List.set_cons_succ] at hst)) | (refine wpl_at (.store 32 (.tmp 12) (.tmp 21)) rfl ?_; (refine L_storeA rfl rfl hst rfl (by rfl) (ev_tmp rfl) (by (exact Dig.one _)) el_api_Digest (by (exact Dig.size _)) 0 rfl (by (rfl)) ?_; clear hst; intro WS12 hst; simp only [List.set_cons_zero, List.set_cons_succ] at hst)))
  go_wp2_with (first | ((refine L_loadA (d := some 26) rfl rfl rfl (by rfl) Tryz.underlying32 rfl el_api_Digest (by (exact hst.get 1 rfl)) (by (exact Dig.size _)) ?_)) | ((refine L_loadA (d := some 27) rfl rfl rfl (by rfl) Tryz.underlying32 rfl el_api_Digest (by (exact hst.get 3 rfl)) (by (exact Dig.size _)) ?_)) | (refine L_eqD (d := some 28) rfl rfl rfl Tryz.underlying32 Tryz.underlying5 el_uint8 eqG_D (ev_tmp rfl) (ev_tmp rfl) ?_; (try rw [H1.out])))
  go_ret
  exact ⟨rfl, hst.forget⟩
end Go.Proofs.YtaebeemnipafbaaGreatDoor

set_option maxRecDepth 20000
set_option linter.unusedSimpArgs false
set_option linter.unusedVariables false
namespace Go.Proofs.YtaebeemnipafbaaGreatDoor
open Go.RowKit
abbrev lenP : PanicEntry := { v := errV 3, recovered := false }
set_option maxHeartbeats 1000000 in
theorem take_none (old : Dig) (A : Option Addr) (c g : Nat) (w0 w : World) (L : List Res) (hst : St w0 w (.blk g 261 (fArr old A 0 c) :: L)) :
  Calls Tryz.prog 187 #[.pointer (some ⟨g, 0, none⟩)] w fun e w' => e = .panicked [lenP] ∧ St w0 w' (.blk g 261 (fArr old A 0 c) :: L) := by
 have HF := Lib.hid (fArr_at old A 0 c)
 go_enter Tryz.func187, Tryz.ntmps187
 go_upto_region 1 with ((refine L_allocA (d := some 2) rfl rfl rfl el_api_Digest ?_; (try clear hnew); intro g2 W2 hnew; replace hst := hst.trans hnew; simp only [List.cons_append, List.nil_append] at hst))
 go_upto_region 2 with ((refine L_load1 (d := some 7) rfl rfl rfl (by rfl) Tryz.underlying44 rfl (by (exact cell_of (hst.get 1 rfl) HF.out)) ?_))
 go_wp2_with (fail)
 exact ⟨rfl, rfl, hst.tail⟩
set_option maxHeartbeats 4000000 in
set_option maxRecDepth 100000 in
theorem gfold_short (old : Dig) (g : Nat) (w0 : World) : ∀ (n m : Nat) (own : Bool) (p : List Dig) (A : Option Addr) (k c : Nat) (w : World) (L : List Res), St w0 w (.blk g 261 (fArr old A k c) :: L) → SlR w0 A k c 32 (digsL p) → k < plN n m own → 1 ≤ m → m ≤ n → n ≤ 256 →
  Calls Tryz.prog 181 #[.pointer (some ⟨g, 0, none⟩), .int .i64 (m : Int), .int .i64 (n : Int), .bool own] w fun e w' => e = .panicked [lenP] ∧ ∃ A' k' c', St w0 w' (.blk g 261 (fArr old A' k' c') :: L) := by
 intro n
 induction n using Nat.strongRecOn with
 | ind n ih =>
 intro m own p A k c w L hst hx hp hm1 hmn hn
 have hk : p.length = k := by have := hx.1; rw [length_digsL] at this; omega
 by_cases h : m = n
 ·subst h
  rw [plN_all] at hp
  cases own with
  | true => simp at hp
  | false =>
   obtain rfl : k = 0 := by simpa using hp
   have HK := Lib.hid (fun w L hst => take_none old A c g w0 w L hst)
   clear ih hp hk hx
   go_enter Tryz.func181, Tryz.ntmps181
   go_upto_region 1 with (first | (refine L_allocA (d := some 8) rfl rfl rfl el_api_Digest ?_; (try clear hnew); intro g8 W8 hnew; replace hst := hst.trans hnew; simp only [List.cons_append, List.nil_append] at hst) | (refine L_allocA (d := some 9) rfl rfl rfl el_api_Digest ?_; (try clear hnew); intro g9 W9 hnew; replace hst := hst.trans hnew; simp only [List.cons_append, List.nil_append] at hst))
   go_upto_region 2 with (fail)
   go_upto_region 4 with (fail)
   go_wp2_with ((go_at_call 187; (try clear hnew); refine (HK.out _ _ (hst.front 2 rfl)).mono ?_; rintro e W26 ⟨rfl, hst'⟩; clear hst; have hst := hst'; clear hst'; simp only [List.eraseIdx_cons_succ, List.eraseIdx_cons_zero] at hst))
   exact ⟨rfl, rfl, _, _, _, hst.keep2⟩
 ·have hlt := halfN_lt n (by omega)
  have hps := halfN_pos n
  have h' : ((m : Int) == (n : Int)) = false := by rw [beq_eq_false_iff_ne]; omega
  have HF := Lib.hid (fun w => half_any n (by omega) (by omega) w)
  by_cases hk0 : k = 0
  ·subst hk0
   have HK := Lib.hid (fun w L hst => take_none old A c g w0 w L hst)
   clear ih hp hk hx HF
   go_enter Tryz.func181, Tryz.ntmps181
   go_upto_region 1 with (first | (refine L_allocA (d := some 8) rfl rfl rfl el_api_Digest ?_; (try clear hnew); intro g8 W8 hnew; replace hst := hst.trans hnew; simp only [List.cons_append, List.nil_append] at hst) | (refine L_allocA (d := some 9) rfl rfl rfl el_api_Digest ?_; (try clear hnew); intro g9 W9 hnew; replace hst := hst.trans hnew; simp only [List.cons_append, List.nil_append] at hst))
   go_upto_region 6 with (fail)
   go_wp2_with ((go_at_call 187; (try clear hnew); refine (HK.out _ _ (hst.front 2 rfl)).mono ?_; rintro e W30 ⟨rfl, hst'⟩; clear hst; have hst := hst'; clear hst'; simp only [List.eraseIdx_cons_succ, List.eraseIdx_cons_zero] at hst))
   exact ⟨rfl, rfl, _, _, _, hst.keep2⟩
  ·obtain ⟨q, d, rfl, hq⟩ : ∃ q d, p = q ++ [d] ∧ q.length = k - 1 := by
    refine ⟨p.dropLast, p.getLast (fun e => by rw [e] at hk; exact hk0 hk.symm), (List.dropLast_concat_getLast _).symm, by rw [List.length_dropLast, hk]⟩
   have HK := Lib.hid (fun w L hst => take_any old d q A k c g w0 w L hst hx)
   by_cases hk2 : m ≤ halfN n
   ·rw [plN_left h (by omega) hk2] at hp
    have HI := Lib.hid (fun A' c' w L hst hx' => ih (halfN n) hlt m own q A' (k - 1) c' w L hst hx' (by omega) hm1 hk2 (by omega))
    have hk' : (m : Int) ≤ (halfN n : Int) := by omega
    clear ih hp hx hq hk hk0 h
    generalize digsL q = lq at *
    generalize halfN n = kk at *
    go_enter Tryz.func181, Tryz.ntmps181
    go_upto_region 1 with (first | (refine L_allocA (d := some 8) rfl rfl rfl el_api_Digest ?_; (try clear hnew); intro g8 W8 hnew; replace hst := hst.trans hnew; simp only [List.cons_append, List.nil_append] at hst) | (refine L_allocA (d := some 9) rfl rfl rfl el_api_Digest ?_; (try clear hnew); intro g9 W9 hnew; replace hst := hst.trans hnew; simp only [List.cons_append, List.nil_append] at hst))
    go_upto_region 6 with (fail)
    go_upto_region 7 with (first | (go_at_call 187; (try clear hnew); refine (HK.out _ _ (hst.front 2 rfl)).mono ?_; rintro e W30 ⟨rfl, A30, c30, hst', hx'⟩; clear hst; have hst := hst'; clear hst'; simp only [List.eraseIdx_cons_succ, List.eraseIdx_cons_zero] at hst) | (refine L_allocA (d := some 11) rfl rfl rfl el_api_Digest ?_; (try clear hnew); intro g11 W11 hnew; replace hst := hst.trans hnew; simp only [List.cons_append, List.nil_append] at hst) | (refine wpl_at (.store 32 (.tmp 11) (.tmp 30)) rfl ?_; (refine L_storeA rfl rfl hst rfl (by rfl) (ev_tmp rfl) (by (exact Dig.one _)) el_api_Digest (by (exact Dig.size _)) 0 rfl (by (rfl)) ?_; clear hst; intro WS3 hst; simp only [List.set_cons_zero, List.set_cons_succ] at hst)))
    go_upto_region 8 with ((go_at_call 91; (try clear hnew); refine (HF.out _).mono ?_; rintro e Wk1 ⟨rfl, hnew⟩; replace hst := hst.keep hnew))
    go_upto_region 9 with (fail)
    go_wp2_with ((go_at_call 181; (try clear hnew); refine (HI.out _ _ _ _ (hst.front 1 rfl) hx').mono ?_; rintro e W41 ⟨rfl, A41, k41, c41, hst'⟩; clear hst; have hst := hst'; clear hst'; simp only [List.eraseIdx_cons_succ, List.eraseIdx_cons_zero] at hst))
    exact ⟨rfl, rfl, A41, k41, c41, hst.keep3⟩
   ·rw [plN_right h (by omega) hk2] at hp
    have HI := Lib.hid (fun A' c' w L hst hx' => ih (n - halfN n) (by omega) (m - halfN n) false q A' (k - 1) c' w L hst hx' (by omega) (by omega) (by omega) (by omega))
    have e1 : ((m - halfN n : Nat) : Int) = (m : Int) - (halfN n : Int) := by omega
    have e2 : ((n - halfN n : Nat) : Int) = (n : Int) - (halfN n : Int) := by omega
    rw [e1, e2] at HI
    have hk' : ¬ (m : Int) ≤ (halfN n : Int) := by omega
    clear ih hp hx hq hk hk0 h e1 e2
    generalize digsL q = lq at *
    generalize halfN n = kk at *
    go_enter Tryz.func181, Tryz.ntmps181
    go_upto_region 1 with (first | (refine L_allocA (d := some 8) rfl rfl rfl el_api_Digest ?_; (try clear hnew); intro g8 W8 hnew; replace hst := hst.trans hnew; simp only [List.cons_append, List.nil_append] at hst) | (refine L_allocA (d := some 9) rfl rfl rfl el_api_Digest ?_; (try clear hnew); intro g9 W9 hnew; replace hst := hst.trans hnew; simp only [List.cons_append, List.nil_append] at hst))
    go_upto_region 6 with (fail)
    go_upto_region 7 with (first | (go_at_call 187; (try clear hnew); refine (HK.out _ _ (hst.front 2 rfl)).mono ?_; rintro e W30 ⟨rfl, A30, c30, hst', hx'⟩; clear hst; have hst := hst'; clear hst'; simp only [List.eraseIdx_cons_succ, List.eraseIdx_cons_zero] at hst) | (refine L_allocA (d := some 11) rfl rfl rfl el_api_Digest ?_; (try clear hnew); intro g11 W11 hnew; replace hst := hst.trans hnew; simp only [List.cons_append, List.nil_append] at hst) | (refine wpl_at (.store 32 (.tmp 11) (.tmp 30)) rfl ?_; (refine L_storeA rfl rfl hst rfl (by rfl) (ev_tmp rfl) (by (exact Dig.one _)) el_api_Digest (by (exact Dig.size _)) 0 rfl (by (rfl)) ?_; clear hst; intro WS3 hst; simp only [List.set_cons_zero, List.set_cons_succ] at hst)))
    go_upto_region 8 with ((go_at_call 91; (try clear hnew); refine (HF.out _).mono ?_; rintro e Wk2 ⟨rfl, hnew⟩; replace hst := hst.keep hnew))
    go_upto_region 11 with (fail)
    go_wp2_with ((go_at_call 181; (try clear hnew); refine (HI.out _ _ _ _ (hst.front 1 rfl) hx').mono ?_; rintro e W56 ⟨rfl, A56, k56, c56, hst'⟩; clear hst; have hst := hst'; clear hst'; simp only [List.eraseIdx_cons_succ, List.eraseIdx_cons_zero] at hst))
    exact ⟨rfl, rfl, A56, k56, c56, hst.keep3⟩
set_option maxHeartbeats 4000000 in
theorem catch_stops (w0 w : World) (ga gb ge : Nat) (xa xb : Array Value) (L : List Res) (ha : xa.size = 32) (hb : xb.size = 32) (hst : St w0 w (.blk ge 36 #[.nilIface] :: .blk gb 32 xb :: .blk ga 32 xa :: L)) :
  CallsD Tryz.prog 180 #[.pointer (some ⟨ga, 0, none⟩), .pointer (some ⟨gb, 0, none⟩), .pointer (some ⟨ge, 0, none⟩)] (.panicking [lenP]) w fun e u' w' => e = .returned (.tuple #[]) ∧ u' = .panicking [{ v := errV 3, recovered := true }] ∧
   St w0 w' (.blk ge 36 #[errV 3] :: .blk gb 32 zeroD.arr :: .blk ga 32 zeroD.arr :: L) := by
 have hta : ∀ w : World, (Instr.typeAssert (Value.iface 28 (Value.int IntKind.i64 3)) 20 28 true).run Tryz.prog w = .ok (.tuple #[.int .i64 3, .bool true]) w := fun w => by kernel_rfl
 refine callsD_of_wpS Tryz.func180 rfl fun c₀ cs hu => ?_
 apply wpS_seq
 apply wpS_region
 simp [wpOpsS, go_sem, recoverD, hu, Tryz.ntmps180, Exit.thenS]
 refine wpS_of_wp ?_
 simp only [errV, Array.replicate_succ, Array.replicate_zero, List.push_toArray, List.append_toArray, List.nil_append, List.cons_append, List.setIfInBounds_toArray, List.set_cons_succ, List.set_cons_zero]
 go_wp2_with (first | (refine L_build0 (d := some 12) rfl rfl rfl Tryz.underlying32 el_uint8 el_api_Digest ?_) | (refine L_build0 (d := some 13) rfl rfl rfl Tryz.underlying32 el_uint8 el_api_Digest ?_) | (refine wpl_at (.store 32 (.tmp 0) (.tmp 12)) rfl ?_; (refine L_storeA rfl rfl hst rfl (by rfl) (ev_tmp rfl) (by (exact Dig.one _)) el_api_Digest (by (rfl)) 2 rfl (by (exact ha)) ?_; clear hst; intro WS4 hst; simp only [List.set_cons_zero, List.set_cons_succ] at hst)) | (refine wpl_at (.store 32 (.tmp 1) (.tmp 13)) rfl ?_; (refine L_storeA rfl rfl hst rfl (by rfl) (ev_tmp rfl) (by (exact Dig.one _)) el_api_Digest (by (rfl)) 1 rfl (by (exact hb)) ?_; clear hst; intro WS5 hst; simp only [List.set_cons_zero, List.set_cons_succ] at hst)) | (refine wpl_at (.store 36 (.tmp 2) (.tmp 15)) rfl ?_; (refine L_store1 rfl rfl hst rfl (by rfl) (ev_tmp rfl) rfl el_error 0 rfl (by (exact of_decide_eq_true rfl)) ?_; clear hst; intro WS6 hst; simp only [List.set_cons_zero, List.set_cons_succ] at hst)))
 exact ⟨rfl, _, rfl, _, results_none rfl _ _ _, rfl, rfl, hst⟩
set_option maxHeartbeats 4000000 in
set_option maxRecDepth 100000 in
theorem gFold_short (n m : Nat) (old : Dig) (p : List Dig) (A : Option Addr) (k c : Nat) (w : World) (hx : SlR w A k c 32 (digsL p)) (hk : k < plN n m true) (h1 : 1 ≤ m) (hmn : m ≤ n) (hn : n ≤ 256) :
  Calls Tryz.prog 167 #[.int .i64 (m : Int), .int .i64 (n : Int), old.v, .slice A k c] w fun e w' => e = .returned (.tuple #[zeroD.v, zeroD.v, errV 3]) ∧ St w w' [] := by
 have hst := St.refl w
 have HI := Lib.hid (fun g w' L hst => gfold_short old g w n m true p A k c w' L hst hx hk h1 hmn hn)
 have t1 : ¬ (n : Int) < 1 := by omega
 have t2 : ¬ (256 : Int) < (n : Int) := by omega
 have t3 : ¬ (m : Int) < 1 := by omega
 have t4 : ¬ (n : Int) < (m : Int) := by omega
 have hmf : ∀ (fn : Fn) (first cap : Array Value) (w : World), (Instr.makeFunc fn first cap).run Tryz.prog w = .ok (.func fn first cap) w := fun _ _ _ _ => rfl
 clear hk hx
 go_enter_defers Tryz.func167, Tryz.ntmps167
 go_upto_region 1 with (first | (refine L_boxA (d := some 6) rfl rfl rfl (ev_tmp rfl) ?_; (try clear hnew); intro g6 W6 hnew; replace hst := hst.trans hnew; simp only [List.cons_append, List.nil_append] at hst) | (refine L_allocA (d := some 8) rfl rfl rfl el_api_Digest ?_; (try clear hnew); intro g8 W8 hnew; replace hst := hst.trans hnew; simp only [List.cons_append, List.nil_append] at hst) | (refine L_allocA (d := some 9) rfl rfl rfl el_api_Digest ?_; (try clear hnew); intro g9 W9 hnew; replace hst := hst.trans hnew; simp only [List.cons_append, List.nil_append] at hst) | (refine L_alloc1 (d := some 10) rfl rfl rfl el_error rfl ?_; (try clear hnew); intro g10 W10 hnew; replace hst := hst.trans hnew; simp only [List.cons_append, List.nil_append] at hst))
 go_upto_region 3 with (fail)
 go_upto_region 4 with (fail)
 go_upto_region 5 with (first | (refine L_buildF (d := some 33) rfl rfl rfl (ev_tmp rfl) (ev_tmp rfl) ?_) | ((refine L_loadA (d := some 31) rfl rfl rfl (by rfl) Tryz.underlying32 rfl el_api_Digest (by (exact hst.get 3 rfl)) (by (exact Dig.size _)) ?_)) | (refine L_boxA (d := some 34) rfl rfl rfl (ev_tmp rfl) ?_; (try clear hnew); intro g34 W34 hnew; replace hst := hst.trans hnew; simp only [List.cons_append, List.nil_append] at hst))
 go_wp2_with ((go_at_call 181; (try clear hnew); refine (HI.out _ _ _ hst).mono ?_; rintro e W39 ⟨rfl, A39, k39, c39, hst'⟩; clear hst; have hst := hst'; clear hst'))
 refine leaves_cons (f := 180) (args := #[.pointer (some ⟨g8, 0, none⟩), .pointer (some ⟨g9, 0, none⟩), .pointer (some ⟨g10, 0, none⟩)]) (by simp) (by simp [go_sem]) ?_
 refine (catch_stops w _ g8 g9 g10 _ _ _ (Dig.size _) (Dig.size _) hst.tail).mono ?_
 rintro e u' w'' ⟨rfl, rfl, hst2⟩
 exact ⟨_, res_cell3 rfl rfl rfl rfl (hst2.get 2 rfl) (hst2.get 1 rfl) (cell_of (hst2.get 0 rfl) rfl) Tryz.underlying32 rfl Tryz.underlying32 rfl Tryz.underlying36 rfl el_api_Digest (Dig.size _) el_api_Digest (Dig.size _), rfl, hst2.forget⟩
set_option maxHeartbeats 4000000 in
set_option maxRecDepth 100000 in
theorem gFold_long (n m : Nat) (old : Dig) (p : List Dig) (A : Option Addr) (k c : Nat) (w : World) (hT : Tb w) (hx : SlR w A k c 32 (digsL p)) (hk : plN n m true < k) (h1 : 1 ≤ m) (hmn : m ≤ n) (hn : n ≤ 256) :
  Calls Tryz.prog 167 #[.int .i64 (m : Int), .int .i64 (n : Int), old.v, .slice A k c] w fun e w' => e = .returned (.tuple #[zeroD.v, zeroD.v, errV 3]) ∧ St w w' [] := by
 have hst := St.refl w
 have hl : p.length = k := by have := hx.1; rw [length_digsL] at this; omega
 obtain ⟨r, q, rfl, hr, hq⟩ : ∃ r q, p = r ++ q ∧ r.length = k - plN n m true ∧ q.length = plN n m true := by
  refine ⟨p.take (k - plN n m true), p.drop (k - plN n m true), (List.take_append_drop _ _).symm, ?_, ?_⟩
  ·rw [List.length_take]; omega
  ·rw [List.length_drop]; omega
 have HI := Lib.hid (fun g w' L hst => gfold_any old g w hT r n m true q A k c w' L hst hx hq h1 hmn hn)
 rw [hr] at HI
 have t1 : ¬ (n : Int) < 1 := by omega
 have t2 : ¬ (256 : Int) < (n : Int) := by omega
 have t3 : ¬ (m : Int) < 1 := by omega
 have t4 : ¬ (n : Int) < (m : Int) := by omega
 have hmf : ∀ (fn : Fn) (first cap : Array Value) (w : World), (Instr.makeFunc fn first cap).run Tryz.prog w = .ok (.func fn first cap) w := fun _ _ _ _ => rfl
 have HF := Lib.hid (fun A' k' c' => fArr_at old A' k' c')
 obtain ⟨x, hx0⟩ : ∃ x, x = k - plN n m true := ⟨_, rfl⟩
 rw [← hx0] at HI
 have t5 : 0 < (x : Int) := by omega
 clear hk hx hl hr hq hT hx0
 generalize grN n m true old q = ab at *
 generalize digsL r = lr at *
 go_enter_defers Tryz.func167, Tryz.ntmps167
 go_upto_region 1 with (first | (refine L_boxA (d := some 6) rfl rfl rfl (ev_tmp rfl) ?_; (try clear hnew); intro g6 W6 hnew; replace hst := hst.trans hnew; simp only [List.cons_append, List.nil_append] at hst) | (refine L_allocA (d := some 8) rfl rfl rfl el_api_Digest ?_; (try clear hnew); intro g8 W8 hnew; replace hst := hst.trans hnew; simp only [List.cons_append, List.nil_append] at hst) | (refine L_allocA (d := some 9) rfl rfl rfl el_api_Digest ?_; (try clear hnew); intro g9 W9 hnew; replace hst := hst.trans hnew; simp only [List.cons_append, List.nil_append] at hst) | (refine L_alloc1 (d := some 10) rfl rfl rfl el_error rfl ?_; (try clear hnew); intro g10 W10 hnew; replace hst := hst.trans hnew; simp only [List.cons_append, List.nil_append] at hst))
 go_upto_region 3 with (fail)
 go_upto_region 4 with (fail)
 go_upto_region 5 with (first | (refine L_buildF (d := some 33) rfl rfl rfl (ev_tmp rfl) (ev_tmp rfl) ?_) | ((refine L_loadA (d := some 31) rfl rfl rfl (by rfl) Tryz.underlying32 rfl el_api_Digest (by (exact hst.get 3 rfl)) (by (exact Dig.size _)) ?_)) | (refine L_boxA (d := some 34) rfl rfl rfl (ev_tmp rfl) ?_; (try clear hnew); intro g34 W34 hnew; replace hst := hst.trans hnew; simp only [List.cons_append, List.nil_append] at hst))
 go_upto_region 6 with (first | (go_at_call 181; (try clear hnew); refine (HI.out _ _ _ hst).mono ?_; rintro e W39 ⟨rfl, A39, c39, hst', hx'⟩; clear hst; have hst := hst'; clear hst' hx') | (refine wpl_at (.store 32 (.tmp 8) (.tmp 40)) rfl ?_; (refine L_storeA rfl rfl hst rfl (by rfl) (ev_tmp rfl) (by (exact Dig.one _)) el_api_Digest (by (exact Dig.size _)) 3 rfl (by (rfl)) ?_; clear hst; intro WS7 hst; simp only [List.set_cons_zero, List.set_cons_succ] at hst)) | (refine wpl_at (.store 32 (.tmp 9) (.tmp 41)) rfl ?_; (refine L_storeA rfl rfl hst rfl (by rfl) (ev_tmp rfl) (by (exact Dig.one _)) el_api_Digest (by (exact Dig.size _)) 2 rfl (by (rfl)) ?_; clear hst; intro WS8 hst; simp only [List.set_cons_zero, List.set_cons_succ] at hst)))
 (try clear hnew)
 go_upto_region 7 with ((refine L_load1 (d := some 45) rfl rfl rfl (by rfl) Tryz.underlying44 rfl (by (exact cell_of (hst.get 0 rfl) (HF.out _ _ _))) ?_))
 go_wp2_with (fail)
 refine leaves_cons (f := 180) (args := #[.pointer (some ⟨g8, 0, none⟩), .pointer (some ⟨g9, 0, none⟩), .pointer (some ⟨g10, 0, none⟩)]) (by simp) (by simp [go_sem]) ?_
 refine (catch_stops w _ g8 g9 g10 _ _ _ (Dig.size _) (Dig.size _) hst.tail).mono ?_
 rintro e u' w'' ⟨rfl, rfl, hst2⟩
 exact ⟨_, res_cell3 rfl rfl rfl rfl (hst2.get 2 rfl) (hst2.get 1 rfl) (cell_of (hst2.get 0 rfl) rfl) Tryz.underlying32 rfl Tryz.underlying32 rfl Tryz.underlying36 rfl el_api_Digest (Dig.size _) el_api_Digest (Dig.size _), rfl, hst2.forget⟩
theorem gFold_length (n m : Nat) (old : Dig) (p : List Dig) (A : Option Addr) (k c : Nat) (w : World) (hT : Tb w) (hx : SlR w A k c 32 (digsL p)) (hk : k ≠ plN n m true) (h1 : 1 ≤ m) (hmn : m ≤ n) (hn : n ≤ 256) :
  Calls Tryz.prog 167 #[.int .i64 (m : Int), .int .i64 (n : Int), old.v, .slice A k c] w fun e w' => e = .returned (.tuple #[zeroD.v, zeroD.v, errV 3]) ∧ St w w' [] := by
 by_cases h : k < plN n m true
 ·exact gFold_short n m old p A k c w hx h h1 hmn hn
 ·exact gFold_long n m old p A k c w hT hx (by omega) h1 hmn hn
set_option maxHeartbeats 4000000 in
set_option maxRecDepth 100000 in
theorem gFold_range (n m : Int) (old : Dig) (A : Option Addr) (k c : Nat) (w : World) (h : n < 1 ∨ ¬ n < 1 ∧ 256 < n ∨ ¬ n < 1 ∧ ¬ 256 < n ∧ m < 1 ∨ ¬ n < 1 ∧ ¬ 256 < n ∧ ¬ m < 1 ∧ n < m) :
  Calls Tryz.prog 167 #[.int .i64 m, .int .i64 n, old.v, .slice A k c] w fun e w' => e = .returned (.tuple #[zeroD.v, zeroD.v, errV 2]) ∧ St w w' [] := by
 have hst := St.refl w
 rcases h with h1 | ⟨h1, h2⟩ | ⟨h1, h2, h3⟩ | ⟨h1, h2, h3, h4⟩
 all_goals
  go_enter_defers Tryz.func167, Tryz.ntmps167
  go_upto_region 1 with (first | (refine L_boxA (d := some 6) rfl rfl rfl (ev_tmp rfl) ?_; (try clear hnew); intro g6 W6 hnew; replace hst := hst.trans hnew; simp only [List.cons_append, List.nil_append] at hst) | (refine L_allocA (d := some 8) rfl rfl rfl el_api_Digest ?_; (try clear hnew); intro g8 W8 hnew; replace hst := hst.trans hnew; simp only [List.cons_append, List.nil_append] at hst) | (refine L_allocA (d := some 9) rfl rfl rfl el_api_Digest ?_; (try clear hnew); intro g9 W9 hnew; replace hst := hst.trans hnew; simp only [List.cons_append, List.nil_append] at hst) | (refine L_alloc1 (d := some 10) rfl rfl rfl el_error rfl ?_; (try clear hnew); intro g10 W10 hnew; replace hst := hst.trans hnew; simp only [List.cons_append, List.nil_append] at hst))
  go_upto_region 2 with (fail)
  go_wp2_with (first | (refine L_build0 (d := some 27) rfl rfl rfl Tryz.underlying32 el_uint8 el_api_Digest ?_) | (refine L_build0 (d := some 28) rfl rfl rfl Tryz.underlying32 el_uint8 el_api_Digest ?_) | (refine wpl_at (.store 32 (.tmp 8) (.tmp 27)) rfl ?_; (refine L_storeA rfl rfl hst rfl (by rfl) (ev_tmp rfl) (by (exact Dig.one _)) el_api_Digest (by (rfl)) 2 rfl (by (rfl)) ?_; clear hst; intro WS3 hst; simp only [List.set_cons_zero, List.set_cons_succ] at hst)) | (refine wpl_at (.store 32 (.tmp 9) (.tmp 28)) rfl ?_; (refine L_storeA rfl rfl hst rfl (by rfl) (ev_tmp rfl) (by (exact Dig.one _)) el_api_Digest (by (rfl)) 1 rfl (by (rfl)) ?_; clear hst; intro WS4 hst; simp only [List.set_cons_zero, List.set_cons_succ] at hst)) | (refine wpl_at (.store 36 (.tmp 10) (.tmp 29)) rfl ?_; (refine L_store1 rfl rfl hst rfl (by rfl) (ev_tmp rfl) rfl el_error 0 rfl (by (exact of_decide_eq_true rfl)) ?_; clear hst; intro WS5 hst; simp only [List.set_cons_zero, List.set_cons_succ] at hst)))
  exact ⟨_, res_cell3 rfl rfl rfl rfl (hst.get 2 rfl) (hst.get 1 rfl) (cell_of (hst.get 0 rfl) rfl) Tryz.underlying32 rfl Tryz.underlying32 rfl Tryz.underlying36 rfl el_api_Digest (Dig.size _) el_api_Digest (Dig.size _), rfl, hst.forget⟩
set_option maxHeartbeats 4000000 in
theorem gCheck_no (n m : Int) (old now : Dig) (A : Option Addr) (k c q : Nat) (w : World) (HF : ∀ w', St w w' [] → Calls Tryz.prog 167 #[.int .i64 m, .int .i64 n, old.v, .slice A k c] w' fun e w'' => e = .returned (.tuple #[zeroD.v, zeroD.v, errV q]) ∧ St w' w'' []) :
  Calls Tryz.prog 152 #[.int .i64 m, .int .i64 n, old.v, now.v, .slice A k c] w fun e w' => e = .returned (.bool false) ∧ St w w' [] := by
 have hst := St.refl w
 have HF := Lib.hid HF
 unfold errV at HF
 go_enter Tryz.func152, Tryz.ntmps152
 go_upto_region 1 with (first | (refine L_boxA (d := some 7) rfl rfl rfl (ev_tmp rfl) ?_; (try clear hnew); intro g7 W7 hnew; replace hst := hst.trans hnew; simp only [List.cons_append, List.nil_append] at hst) | (refine L_boxA (d := some 8) rfl rfl rfl (ev_tmp rfl) ?_; (try clear hnew); intro g8 W8 hnew; replace hst := hst.trans hnew; simp only [List.cons_append, List.nil_append] at hst))
 go_upto_region 2 with (first | (go_at_call 167; (try clear hnew); refine (HF.out _ hst.forget).mono ?_; rintro e Wk3 ⟨rfl, hnew⟩; replace hst := hst.keep hnew) | ((refine L_loadA (d := some 17) rfl rfl rfl (by rfl) Tryz.underlying32 rfl el_api_Digest (by (exact hst.get 1 rfl)) (by (exact Dig.size _)) ?_)) | (refine L_allocA (d := some 11) rfl rfl rfl el_api_Digest ?_; (try clear hnew); intro g11 W11 hnew; replace hst := hst.trans hnew; simp only [List.cons_append, List.nil_append] at hst) | (refine L_allocA (d := some 12) rfl rfl rfl el_api_Digest ?_; (try clear hnew); intro g12 W12 hnew; replace hst := hst.trans hnew; simp only [List.cons_append, List.nil_append] at hst) | (refine wpl_at (.store 32 (.tmp 11) (.tmp 20)) rfl ?_; (refine L_storeA rfl rfl hst rfl (by rfl) (ev_tmp rfl) (by (exact Dig.one _)) el_api_Digest (by (rfl)) 1 rfl (by (rfl)) ?_; clear hst; intro WS11 hst; simp only [List.set_cons_zero, List.set_cons_succ] at hst)) | (refine wpl_at (.store 32 (.tmp 12) (.tmp 21)) rfl ?_; (refine L_storeA rfl rfl hst rfl (by rfl) (ev_tmp rfl) (by (exact Dig.one _)) el_api_Digest (by (rfl)) 0 rfl (by (rfl)) ?_; clear hst; intro WS12 hst; simp only [List.set_cons_zero, List.set_cons_succ] at hst)))
 go_wp2_with (fail)
 go_ret
 exact ⟨rfl, hst.forget⟩
end Go.Proofs.YtaebeemnipafbaaGreatDoor

set_option maxRecDepth 20000
set_option linter.unusedSimpArgs false
set_option linter.unusedVariables false
namespace Go.Proofs.YtaebeemnipafbaaGreatDoor
open Go.RowKit
def growsB (m s : Int) (old now : Dig) (p : List Dig) : Bool :=
 decide (1 ≤ m ∧ m ≤ s ∧ s ≤ 256 ∧ p.length = plN s.toNat m.toNat true) && (decide ((grN s.toNat m.toNat true old p).1 = old) && decide ((grN s.toNat m.toNat true old p).2 = now))
theorem check_all (m s : Int) (old now : Dig) (p : List Dig) (P : Option Addr) (k pc : Nat) (w : World) (hT : Tb w) (hs : SlR w P k pc 32 (digsL p)) :
  Calls Tryz.prog 152 #[.int .i64 m, .int .i64 s, old.v, now.v, .slice P k pc] w fun e w' => e = .returned (.bool (growsB m s old now p)) ∧ St w w' [] := by
 have hl : p.length = k := by have := hs.1; rw [length_digsL] at this; omega
 by_cases hr : s < 1 ∨ 256 < s ∨ m < 1 ∨ s < m
 ·rw [show growsB m s old now p = false by
   unfold growsB
   rw [decide_eq_false (by omega), Bool.false_and]]
  exact gCheck_no s m old now P k pc 2 w (fun w' _ => gFold_range s m old P k pc w' (by omega))
 ·have em : ((m.toNat : Nat) : Int) = m := by omega
  have es : ((s.toNat : Nat) : Int) = s := by omega
  by_cases hk : k = plN s.toNat m.toNat true
  ·have := gCheck_any s.toNat m.toNat old now p P k pc w hT hs hk (by omega) (by omega) (by omega)
   rw [em, es] at this
   rw [show growsB m s old now p = (decide ((grN s.toNat m.toNat true old p).1 = old) && decide ((grN s.toNat m.toNat true old p).2 = now)) by
    unfold growsB
    rw [decide_eq_true ⟨by omega, by omega, by omega, by omega⟩, Bool.true_and]]
   exact this
  ·rw [show growsB m s old now p = false by
    unfold growsB
    rw [decide_eq_false (by omega), Bool.false_and]]
   refine gCheck_no s m old now P k pc 3 w (fun w' hst => ?_)
   have := gFold_length s.toNat m.toNat old p P k pc w' (Tb.of hT hst) (hst.old (by decide) hs) hk (by omega) (by omega) (by omega)
   rwa [em, es] at this
def takeN (key : List UInt8) (n0 : Int) (x0 y0 : Dig) (n : Int) (x y z : Dig) (p : List Dig) : Nat :=
 if z = tagN key n x y then
  if n < 0 ∨ 256 < n then 2
  else if n < n0 then 8
  else if n = n0 then (if x = x0 ∧ y = y0 then 0 else 9)
  else if n0 = 0 then (if p = [] then 0 else 9)
  else if growsB n0 n x0 x p then 0 else 9
 else 1
def errO (r : Nat) : Value := if r = 0 then .nilIface else errV r
end Go.Proofs.YtaebeemnipafbaaGreatDoor

set_option maxRecDepth 20000
set_option linter.unusedSimpArgs false
set_option linter.unusedVariables false
namespace Go.Proofs.YtaebeemnipafbaaGreatDoor
structure FoundN where
 note : NoteN
 at_ : Int
 path : List Dig
 mpath : List Dig
def zeroNt : NoteN := ⟨[], zeroD, 0⟩
def zeroFd : FoundN := ⟨zeroNt, 0, [], []⟩
def findN (ns : List NoteN) (s : List UInt8) : FoundN :=
 if isNm s = true then
  match lastI ns s with
  | some i => ⟨ns[i]?.getD zeroNt, (i : Int), pathN (lvN ns) i, mPath (lgF ns) (idxN s) 32⟩
  | none => ⟨zeroNt, 0, [], mPath (lgF ns) (idxN s) 32⟩
 else zeroFd
def findE (s : List UInt8) : Nat := if isNm s = true then 0 else 1
def mapTold (y : Dig) (s : List UInt8) (l : Dig) (p : List Dig) : Prop := p.length = 32 ∧ mFold (idxN s) l p = y
def treeTold (n : Int) (x : Dig) (l : Dig) (i : Int) (p : List Dig) : Prop := 1 ≤ n ∧ n ≤ 256 ∧ 0 ≤ i ∧ i < n ∧ p.length = longN i.toNat n.toNat ∧ foldedN l i.toNat n.toNat p = x
instance (y : Dig) (s : List UInt8) (l : Dig) (p : List Dig) : Decidable (mapTold y s l p) := by unfold mapTold; exact inferInstance
instance (n : Int) (x : Dig) (l : Dig) (i : Int) (p : List Dig) : Decidable (treeTold n x l i p) := by unfold treeTold; exact inferInstance
def lookN (n : Int) (x y : Dig) (s : List UInt8) (f : FoundN) : Nat × Option NoteN :=
 if isNm s = true then
  if f.note.name = [] then
   (if f.note.key = zeroD ∧ f.note.turn = 0 ∧ f.at_ = 0 ∧ f.path = [] ∧ mapTold y s zeroD f.mpath then (0, none) else (9, none))
  else if noteOk f.note = true ∧ f.note.name = s then
   (if mapTold y s (eLeaf (idxN s) (ntLeaf f.note)) f.mpath ∧ treeTold n x (ntLeaf f.note) f.at_ f.path then (0, some f.note) else (9, none))
  else (9, none)
 else (1, none)
theorem length_lvN (ns : List NoteN) : (lvN ns).length = ns.length := by simp [lvN]
theorem lvN_at {ns : List NoteN} {i : Nat} {n : NoteN} (h : ns[i]? = some n) : ∃ hi : i < (lvN ns).length, (lvN ns)[i] = ntLeaf n := by
 have hi := (List.getElem?_eq_some_iff.1 h).1
 refine ⟨by rw [length_lvN]; exact hi, ?_⟩
 simp only [lvN, List.getElem_map]
 rw [(List.getElem?_eq_some_iff.1 h).2]
theorem idxN_lt' (s : List UInt8) : idxN s < 2 ^ 32 := idxN_lt s
theorem look_find {ns : List NoteN} (h : Logged ns) {s : List UInt8} (hs : isNm s = true) (hf : lastN? ns s = none → ∀ n ∈ ns, idxN n.name ≠ idxN s) :
  lookN (ns.length : Int) (rootN (lvN ns)) (mapN ns) s (findN ns s) = (0, lastN? ns s) := by
 unfold lookN findN
 rw [if_pos hs, if_pos hs]
 have hp : ∀ l, lgF ns (idxN s) = l → mapTold (mapN ns) s l (mPath (lgF ns) (idxN s) 32) := fun l hl => by
  refine ⟨length_mPath _ _ _, ?_⟩
  rw [← hl]
  exact mFold_root (lgF ns) (idxN_lt' s)
 cases hl : lastI ns s with
 | none =>
  have h0 : lastN? ns s = none := by unfold lastN?; rw [hl]; rfl
  rw [h0]
  simp only
  rw [if_pos (show zeroNt.name = [] from rfl), if_pos ⟨rfl, rfl, trivial, trivial, hp _ (lgF_none (hf h0))⟩]
 | some i =>
  obtain ⟨n, h1, h2⟩ := lastI_some hl
  have h0 : lastN? ns s = some n := by unfold lastN?; rw [hl]; exact h1
  have hm := List.mem_of_getElem? h1
  have hi := lastI_lt hl
  have hn := h.ok n hm
  have hle := h.len
  obtain ⟨hi', hv⟩ := lvN_at h1
  rw [h0]
  simp only [h1, Option.getD_some]
  have hne : n.name ≠ [] := fun e => by
   have := (isNm_len hs).1
   rw [← h2, e] at this
   exact absurd this (by decide)
  rw [if_neg hne, if_pos ⟨hn, h2⟩, if_pos]
  refine ⟨hp _ (h.lgF_at h0), by omega, by omega, by omega, by omega, ?_, ?_⟩
  ·rw [Int.toNat_natCast, Int.toNat_natCast]
   exact length_pathN _ _ _ (length_lvN ns)
  ·rw [Int.toNat_natCast, Int.toNat_natCast, ← hv]
   exact folded_path ns.length (lvN ns) i (length_lvN ns) hi
theorem lvN_take (ns : List NoteN) (m : Nat) : lvN (ns.take m) = (lvN ns).take m := by simp [lvN, List.map_take]
theorem grows_honest {ns : List NoteN} {m : Nat} (h1 : 1 ≤ m) (hm : m ≤ ns.length) (hl : ns.length ≤ 256) :
  growsB (m : Int) (ns.length : Int) (rootN (lvN (ns.take m))) (rootN (lvN ns)) (gpN (lvN ns) m true) = true := by
 have hg := grow_proves ns.length (lvN ns) m true (rootN (lvN (ns.take m))) (length_lvN ns) h1 hm (fun _ => by rw [lvN_take])
 unfold growsB
 rw [Int.toNat_natCast, Int.toNat_natCast, hg, lvN_take]
 have := length_gpN ns.length (lvN ns) m true (length_lvN ns)
 rw [this]
 simp
 omega
def prfN (ns : List NoteN) (m : Nat) : List Dig := if m = 0 then [] else gpN (lvN ns) m true
theorem take_honest (key : List UInt8) {ns : List NoteN} {m : Nat} (hm : m ≤ ns.length) (hl : ns.length ≤ 256) :
  takeN key (m : Int) (rootN (lvN (ns.take m))) (mapN (ns.take m)) (ns.length : Int) (rootN (lvN ns)) (mapN ns) (tagN key (ns.length : Int) (rootN (lvN ns)) (mapN ns)) (prfN ns m) = 0 := by
 unfold takeN
 rw [if_pos rfl, if_neg (by omega), if_neg (by omega)]
 by_cases c1 : (ns.length : Int) = (m : Int)
 ·have : m = ns.length := by omega
  subst this
  rw [if_pos rfl, List.take_length, if_pos ⟨rfl, rfl⟩]
 rw [if_neg c1]
 by_cases c2 : m = 0
 ·subst c2
  rw [if_pos (show ((0 : Nat) : Int) = 0 from rfl)]
  simp [prfN]
 ·rw [if_neg (by omega), if_pos]
  unfold prfN
  rw [if_neg c2]
  exact grows_honest (by omega) hm hl
def mClash : Nat → Dig → List Dig → Dig → List Dig → Bool
 | k, a, p :: ps, b, q :: qs =>
  let x := if k % 2 = 1 then (p, a) else (a, p)
  let y := if k % 2 = 1 then (q, b) else (b, q)
  if x ≠ y ∧ mNode x.1 x.2 = mNode y.1 y.2 then true else mClash (k / 2) (mNode x.1 x.2) ps (mNode y.1 y.2) qs
 | _, _, _, _, _ => false
theorem mClash_of : ∀ (ps qs : List Dig) (k : Nat) (a b : Dig), a ≠ b → ps.length = qs.length → mFold k a ps = mFold k b qs → mClash k a ps b qs = true
 | [], [], k, a, b, hne, _, h => absurd h hne
 | p :: ps, q :: qs, k, a, b, hne, hl, h => by
  rw [mFold, mFold] at h
  rw [mClash]
  by_cases hk : k % 2 = 1
  ·rw [if_pos hk, if_pos hk] at h
   simp only [hk, if_true]
   by_cases he : mNode p a = mNode q b
   ·rw [if_pos ⟨fun e => hne (Prod.mk.inj e).2, he⟩]
   ·rw [if_neg (fun e => he e.2)]
    exact mClash_of ps qs (k / 2) _ _ he (by simpa using hl) h
  ·rw [if_neg hk, if_neg hk] at h
   simp only [hk, if_false]
   by_cases he : mNode a p = mNode b q
   ·rw [if_pos ⟨fun e => hne (Prod.mk.inj e).1, he⟩]
   ·rw [if_neg (fun e => he e.2)]
    exact mClash_of ps qs (k / 2) _ _ he (by simpa using hl) h
 | [], _ :: _, _, _, _, _, hl, _ => by simp at hl
 | _ :: _, [], _, _, _, _, hl, _ => by simp at hl
end Go.Proofs.YtaebeemnipafbaaGreatDoor

set_option maxRecDepth 20000
set_option linter.unusedSimpArgs false
set_option linter.unusedVariables false
namespace Go.Proofs.YtaebeemnipafbaaGreatDoor
open Go.RowKit
attribute [local simp] ntArr_size
theorem mClash_s {k : Nat} {a b p q : Dig} {ps qs : List Dig} (h : mClash k a (p :: ps) b (q :: qs) = true) {x1 x2 y1 y2 : Dig} (hx : (x1, x2) = if k % 2 = 1 then (p, a) else (a, p)) (hy : (y1, y2) = if k % 2 = 1 then (q, b) else (b, q)) :
  (¬ ([x1, x2] = [y1, y2]) ∧ mNode x1 x2 = mNode y1 y2) ∨ (¬ (¬ ([x1, x2] = [y1, y2]) ∧ mNode x1 x2 = mNode y1 y2) ∧ mClash (k / 2) (mNode x1 x2) ps (mNode y1 y2) qs = true) := by
 rw [mClash, ← hx, ← hy] at h
 simp only at h
 have e : ([x1, x2] = [y1, y2]) ↔ (x1, x2) = (y1, y2) := by simp
 by_cases c : (x1, x2) ≠ (y1, y2) ∧ mNode x1 x2 = mNode y1 y2
 ·exact .inl ⟨fun h => c.1 (e.1 h), c.2⟩
 ·rw [if_neg c] at h
  exact .inr ⟨fun h => c ⟨fun h2 => h.1 (e.2 h2), h.2⟩, h⟩
theorem mClash_ne {k : Nat} {a b : Dig} {ps qs : List Dig} (h : mClash k a ps b qs = true) : ∃ p ps' q qs', ps = p :: ps' ∧ qs = q :: qs' := by
 cases ps with
 | nil => cases qs <;> simp [mClash] at h
 | cons p ps => cases qs with
  | nil => simp [mClash] at h
  | cons q qs => exact ⟨p, ps, q, qs, rfl, rfl⟩
theorem digs_cell {W : World} {g off i : Nat} {ds : List Dig} (h : W.rangeAt g (off + (i : Int).toNat * 32) (((digsL ds).drop ((i : Int).toNat * 32)).take 32)) (hi : i < ds.length) : W.rangeAt g (off + (i : Int).toNat * 32) (ds[i]).arr.toList := by
 rw [Int.toNat_natCast] at h ⊢
 rw [digsL_at ds i hi] at h
 rwa [Dig.toList]
theorem drop_cons {ps : List Dig} {i : Nat} {p : Dig} {ps' : List Dig} (h : ps.drop i = p :: ps') : ∃ hi : i < ps.length, ps[i] = p ∧ ps.drop (i + 1) = ps' := by
 have hi : i < ps.length := by
  by_cases c : i < ps.length
  ·exact c
  ·rw [List.drop_eq_nil_of_le (by omega)] at h; cases h
 refine ⟨hi, ?_⟩
 rw [List.drop_eq_getElem_cons hi] at h
 exact List.cons.inj h
end Go.Proofs.YtaebeemnipafbaaGreatDoor

set_option linter.unusedSimpArgs false
set_option linter.unusedVariables false
namespace Go.Proofs.YtaebeemnipafbaaGreatDoor
open Go.RowKit
attribute [local simp] ntArr_size
set_option maxHeartbeats 8000000 in
set_option maxRecDepth 100000 in
theorem rmapfolded_any (k0 : Nat) (l : Dig) (ps : List Dig) (A : Option Addr) (n c : Nat) (w : World) (hx : SlR w A n c 32 (digsL ps)) (hk : k0 < 4294967296) (hn : n ≤ 32) :
  Calls Tryz.prog 53 #[.int .i64 (k0 : Int), l.v, .slice A n c] w fun e w' => e = .returned (mFold k0 l ps).v ∧ St w w' [] := by
 have hst := St.refl w
 have hl : ps.length = n := by have := hx.1; rw [length_digsL] at this; omega
 have HL := Lib.hid hl
 have HX := Lib.hid hx
 clear hl hx
 go_enter Tryz.func53, Tryz.ntmps53
 go_upto_region 1 with (go_big_may; first | (refine L_boxA (d := some 4) rfl rfl rfl (ev_tmp rfl) ?_; (try clear hnew); intro g4 W4 hnew; replace hst := hst.trans hnew; simp only [List.cons_append, List.nil_append] at hst) | (refine L_allocA (d := some 6) rfl rfl rfl el_api_Digest ?_; (try clear hnew); intro g6 W6 hnew; replace hst := hst.trans hnew; simp only [List.cons_append, List.nil_append] at hst))
 go_wp2_with (fail)
 go_loopg [0, 7] n (fun gk s0 s7 wr => ∃ (i k : Nat) (d : Dig), Hid (gk + i = n) ∧ k < 4294967296 ∧ Hid (k = k0 / 2 ^ i ∧ d = mFold k0 l (ps.take i)) ∧ s0 = .int .i64 (k : Int) ∧ s7 = .int .i64 (i : Int) ∧ St w wr [.blk g6 32 zeroD.arr, .blk g4 32 d.arr])
 case atStart => exact ⟨0, k0, l, Lib.hid rfl, hk, Lib.hid ⟨by simp, rfl⟩, rfl, rfl, hst⟩
 case round =>
  clear hst hk
  obtain ⟨i, k, d, HI, hk, HM, rfl, rfl, hst⟩ := hrel
  have hi := HI.out
  by_cases hlt : i < n
  ·obtain ⟨g, rfl⟩ : ∃ g, gk = g + 1 := ⟨gk - 1, by omega⟩
   have hil : i < ps.length := by rw [HL.out]; exact hlt
   have HC := Lib.hid (fun (W : World) (g off : Nat) h => digs_cell (W := W) (g := g) (off := off) (i := i) (ds := ps) h hil)
   have hs := mFold_snoc (ps.take i) k0 l ps[i]
   rw [← List.take_succ_eq_append_getElem hil, List.length_take, Nat.min_eq_left (by omega), ← HM.out.1, ← HM.out.2] at hs
   have hk2 : k / 2 = k0 / 2 ^ (i + 1) := by rw [half_step, ← HM.out.1]
   generalize ps[i] = p at HC hs
   by_cases hpar : k % 2 = 1
   ·have hd1 : ((k : Int) % 2 == 1) = true := by simp; omega
    rw [if_pos hpar] at hs
    have HS := Lib.hid (And.intro hk2 hs.symm)
    have HN := Lib.hid (fun w => rmapnode_any p d w)
    clear hs hk2 hpar hil hi
    go_upto_region 4 with (go_big_may; fail)
    go_upto_region 5 with (go_big_may; fail)
    refine wp_region_idx [(0, 0), (1, 0), (2, 0), (3, 0), (4, 2), (5, 2), (6, 1)] (by kernel_rfl) (by kernel_rfl) ?_
    replace hst := hst.drew
    refine idx_q rfl rfl ?_; go_wp2_with fail
    refine idx_q rfl rfl ?_; go_wp2_with fail
    refine idx_q rfl rfl ?_; go_wp2_with ((refine L_idxS (d := some 19) rfl rfl rfl (by rfl) (by rfl) Tryz.underlying44 el_api_Digest (by (exact hst.old (by decide) HX.out)) (by omega) (by omega) ?_; intro o19 p19 ha19 hr19; ((subst ha19))))
    refine idx_q rfl rfl ?_; go_wp2_with ((refine L_loadM (d := some 20) rfl rfl rfl (by rfl) Tryz.underlying32 rfl el_api_Digest (HC.out _ _ _ hr19) (Dig.size _) ?_))
    refine idx_g rfl ?_; go_wp2_with (((refine L_loadA (d := some 21) rfl rfl rfl (by rfl) Tryz.underlying32 rfl el_api_Digest (by (exact hst.get 1 rfl)) (by (exact Dig.size _)) ?_))); refine ⟨by (exact Below.refl _ _), ?_⟩
    refine idx_g rfl ?_; go_wp2_with ((go_at_call 88; (try clear hnew); refine (HN.out _).mono ?_; rintro e Wk1 ⟨rfl, hnew⟩; replace hst := hst.keep hnew)); refine ⟨by (exact hnew.below), ?_⟩
    refine idx_e rfl ?_; go_wp2_with ((refine wpl_at (.store 32 (.tmp 4) (.tmp 22)) rfl ?_; (refine L_storeA rfl rfl hst rfl (by rfl) (ev_tmp rfl) (by (exact Dig.one _)) el_api_Digest (by (exact Dig.size _)) 1 rfl (by (exact Dig.size _)) ?_; clear hst; intro WS6 hst; simp only [List.set_cons_zero, List.set_cons_succ] at hst)))
    refine idx_nil ?_
    go_upto_region 3 with (go_big_may; fail)
    go_wp2_with (fail)
    go_roundg g
    case measure => omega
    case rel => exact ⟨i + 1, k / 2, _, Lib.hid (by have := HI.out; omega), by omega, Lib.hid ⟨HS.out.1, HS.out.2⟩, by go_num, by go_num, hst⟩
   ·have hd1 : ((k : Int) % 2 == 1) = false := by simp; omega
    rw [if_neg hpar] at hs
    have HS := Lib.hid (And.intro hk2 hs.symm)
    have HN := Lib.hid (fun w => rmapnode_any d p w)
    clear hs hk2 hpar hil hi
    go_upto_region 4 with (go_big_may; fail)
    go_upto_region 6 with (go_big_may; fail)
    refine wp_region_idx [(0, 0), (1, 0), (2, 2), (3, 2), (4, 2), (5, 2), (6, 1)] (by kernel_rfl) (by kernel_rfl) ?_
    replace hst := hst.drew
    refine idx_q rfl rfl ?_; go_wp2_with (((refine L_loadA (d := some 23) rfl rfl rfl (by rfl) Tryz.underlying32 rfl el_api_Digest (by (exact hst.get 1 rfl)) (by (exact Dig.size _)) ?_)))
    refine idx_q rfl rfl ?_; go_wp2_with fail
    refine idx_g rfl ?_; go_wp2_with fail; refine ⟨by (exact Below.refl _ _), ?_⟩
    refine idx_g rfl ?_; go_wp2_with ((refine L_idxS (d := some 26) rfl rfl rfl (by rfl) (by rfl) Tryz.underlying44 el_api_Digest (by (exact hst.old (by decide) HX.out)) (by omega) (by omega) ?_; intro o26 p26 ha26 hr26; ((subst ha26)))); refine ⟨by (exact Below.refl _ _), ?_⟩
    refine idx_g rfl ?_; go_wp2_with ((refine L_loadM (d := some 27) rfl rfl rfl (by rfl) Tryz.underlying32 rfl el_api_Digest (HC.out _ _ _ hr26) (Dig.size _) ?_)); refine ⟨by (exact Below.refl _ _), ?_⟩
    refine idx_g rfl ?_; go_wp2_with ((go_at_call 88; (try clear hnew); refine (HN.out _).mono ?_; rintro e Wk2 ⟨rfl, hnew⟩; replace hst := hst.keep hnew)); refine ⟨by (exact hnew.below), ?_⟩
    refine idx_e rfl ?_; go_wp2_with ((refine wpl_at (.store 32 (.tmp 4) (.tmp 28)) rfl ?_; (refine L_storeA rfl rfl hst rfl (by rfl) (ev_tmp rfl) (by (exact Dig.one _)) el_api_Digest (by (exact Dig.size _)) 1 rfl (by (exact Dig.size _)) ?_; clear hst; intro WS6 hst; simp only [List.set_cons_zero, List.set_cons_succ] at hst)))
    refine idx_nil ?_
    go_upto_region 3 with (go_big_may; fail)
    go_wp2_with (fail)
    go_roundg g
    case measure => omega
    case rel => exact ⟨i + 1, k / 2, _, Lib.hid (by have := HI.out; omega), by omega, Lib.hid ⟨HS.out.1, HS.out.2⟩, by go_num, by go_num, hst⟩
  ·obtain rfl : gk = 0 := by omega
   obtain rfl : i = n := by omega
   have HE := Lib.hid (show d = mFold k0 l ps by rw [HM.out.2, ← HL.out, List.take_length])
   clear hi hlt HM
   go_upto_region 8 with (go_big_may; fail)
   go_wp2_with (first | ((refine L_loadA (d := some 31) rfl rfl rfl (by rfl) Tryz.underlying32 rfl el_api_Digest (by (exact hst.get 1 rfl)) (by (exact Dig.size _)) ?_)) | (refine wpl_at (.store 32 (.tmp 6) (.tmp 31)) rfl ?_; (refine L_storeA rfl rfl hst rfl (by rfl) (ev_tmp rfl) (by (exact Dig.one _)) el_api_Digest (by (exact Dig.size _)) 0 rfl (by (rfl)) ?_; clear hst; intro WS1 hst; simp only [List.set_cons_zero, List.set_cons_succ] at hst)))
   refine bp_cell rfl rfl rfl (hst.get 0 rfl) Tryz.underlying32 rfl el_api_Digest (by (exact Dig.size _)) ?_
   exact ⟨by rw [HE.out], hst.forget⟩
set_option maxHeartbeats 4000000 in
set_option maxRecDepth 100000 in
theorem rnoteB_no (n : NoteN) (w : World) (hs : n.name.length ≤ 9223372036854775807) (h : noteOk n = false) (h1 : -9223372036854775808 ≤ n.turn) (h2 : n.turn ≤ 9223372036854775807) :
  Calls Tryz.prog 49 #[.agg (ntArr n.name n.key n.turn)] w fun e w' => ∃ r : Nat, e = .returned (.tuple #[.slice none 0 0, .int .i64 (r : Int)]) ∧ (r = 1 ∨ r = 2) ∧ St w w' [] := by
 have hst := St.refl w
 obtain ⟨s, k, t⟩ := n
 simp only at *
 have HNm := Lib.hid (fun w' => risname_any s w' hs)
 by_cases hnm : isNm s = true
 case neg =>
  have hnm' : isNm s = false := by simpa using hnm
  rewrite [hnm'] at HNm
  clear hnm hnm' h h1 h2
  go_enter Tryz.func49, Tryz.ntmps49
  go_upto_region 1 with (go_big_may; (refine L_boxA (d := some 1) rfl rfl rfl (ev_tmp rfl) ?_; (try clear hnew); intro g1 W1 hnew; replace hst := hst.trans hnew; simp only [List.cons_append, List.nil_append] at hst))
  go_upto_region 2 with (go_big_may; first | (go_at_call 31; (try clear hnew); refine (HNm.out _).mono ?_; rintro e Wk3 ⟨rfl, hnew⟩; replace hst := hst.keep hnew) | (refine L_load1 (d := some 10) rfl rfl rfl (by rfl) Tryz.underlying9 rfl (by (exact cell_of (hst.get 0 rfl) ntArr_0)) ?_))
  go_wp2_with (fail)
  go_ret2
  exact ⟨1, rfl, .inl rfl, hst.forget⟩
 rewrite [hnm] at HNm
 have hb : ¬ (0 ≤ t ∧ t < 4294967296) := fun hc => by
  unfold noteOk at h
  simp only [hnm, Bool.true_and, decide_eq_false_iff_not] at h
  exact h hc
 by_cases ht : t < 0
 ·have HP := Lib.hid (fun w' => rput_no t 4 w' (.inr (.inr ht)))
  clear hnm h hb
  go_enter Tryz.func49, Tryz.ntmps49
  go_upto_region 1 with (go_big_may; (refine L_boxA (d := some 1) rfl rfl rfl (ev_tmp rfl) ?_; (try clear hnew); intro g1 W1 hnew; replace hst := hst.trans hnew; simp only [List.cons_append, List.nil_append] at hst))
  go_upto_region 3 with (go_big_may; first | (go_at_call 31; (try clear hnew); refine (HNm.out _).mono ?_; rintro e Wk4 ⟨rfl, hnew⟩; replace hst := hst.keep hnew) | (refine L_load1 (d := some 10) rfl rfl rfl (by rfl) Tryz.underlying9 rfl (by (exact cell_of (hst.get 0 rfl) ntArr_0)) ?_))
  go_upto_region 4 with (go_big_may; first | (go_at_call 93; (try clear hnew); refine (HP.out _).mono ?_; rintro e Wk5 ⟨rfl, hnew⟩; replace hst := hst.keep hnew) | (refine L_load1 (d := some 15) rfl rfl rfl (by rfl) Tryz.underlying3 rfl (by (exact cell_of (hst.get 0 rfl) ntArr_33)) ?_))
  go_upto_region 5 with (go_big_may; fail)
  go_wp2_with (fail)
  go_ret2
  exact ⟨2, rfl, .inr rfl, hst.forget⟩
 ·obtain ⟨m, rfl⟩ : ∃ m : Nat, t = (m : Int) := ⟨t.toNat, by omega⟩
  have hz : (((m >>> (8 * 4) : Nat) : Int) == 0) = false := by
   rw [Nat.shiftRight_eq_div_pow]
   simp
   omega
  have HP := Lib.hid (fun w' => by
   have := rput_any m 4 w' (by decide) (by decide) (by omega)
   rewrite [hz] at this
   exact this)
  clear hnm h hb ht hz h1 h2
  go_enter Tryz.func49, Tryz.ntmps49
  go_upto_region 1 with (go_big_may; (refine L_boxA (d := some 1) rfl rfl rfl (ev_tmp rfl) ?_; (try clear hnew); intro g1 W1 hnew; replace hst := hst.trans hnew; simp only [List.cons_append, List.nil_append] at hst))
  go_upto_region 3 with (go_big_may; first | (go_at_call 31; (try clear hnew); refine (HNm.out _).mono ?_; rintro e Wk6 ⟨rfl, hnew⟩; replace hst := hst.keep hnew) | (refine L_load1 (d := some 10) rfl rfl rfl (by rfl) Tryz.underlying9 rfl (by (exact cell_of (hst.get 0 rfl) ntArr_0)) ?_))
  go_upto_region 4 with (go_big_may; first | (go_at_call 93; (try clear hnew); refine (HP.out _).mono ?_; rintro e Wk7 ⟨O, rfl, hnew⟩; replace hst := hst.trans hnew; simp only [List.cons_append, List.nil_append] at hst) | (refine L_load1 (d := some 15) rfl rfl rfl (by rfl) Tryz.underlying3 rfl (by (exact cell_of (hst.get 0 rfl) ntArr_33)) ?_))
  go_upto_region 5 with (go_big_may; fail)
  go_wp2_with (fail)
  go_ret2
  exact ⟨2, rfl, .inr rfl, hst.forget⟩
end Go.Proofs.YtaebeemnipafbaaGreatDoor

set_option maxRecDepth 20000
set_option linter.unusedSimpArgs false
set_option linter.unusedVariables false
namespace Go.Proofs.YtaebeemnipafbaaGreatDoor
open Go.RowKit
set_option maxHeartbeats 1000000 in
theorem rnode_any (l r : Dig) (w : World) : Calls Tryz.prog 86 #[l.v, r.v] w fun e w' => e = .returned (nodeN l r).v ∧ St w w' [] := by
 have hst := St.refl w
 have HD := Lib.hid (show digsL [l, r] = l.arr.toList ++ r.arr.toList by simp [digsL, Dig.toList])
 go_enter Tryz.func86, Tryz.ntmps86
 go_wp2_with (first | (go_at_call 122; (try clear hnew); refine (rof_any 1 [l, r] _ _ _ _ (by rw [HD.out]; exact hst.sl 0 rfl) (by decide)).mono ?_; rintro e Wk1 ⟨rfl, hnew⟩; replace hst := hst.keep hnew) | (refine L_boxA (d := some 2) rfl rfl rfl (ev_tmp rfl) ?_; (try clear hnew); intro g2 W2 hnew; replace hst := hst.trans hnew; simp only [List.cons_append, List.nil_append] at hst) | (refine L_boxA (d := some 3) rfl rfl rfl (ev_tmp rfl) ?_; (try clear hnew); intro g3 W3 hnew; replace hst := hst.trans hnew; simp only [List.cons_append, List.nil_append] at hst) | (refine L_allocA (d := some 4) rfl rfl rfl el_api_Digest ?_; (try clear hnew); intro g4 W4 hnew; replace hst := hst.trans hnew; simp only [List.cons_append, List.nil_append] at hst) | ((refine L_loadA (d := some 5) rfl rfl rfl (by rfl) Tryz.underlying32 rfl el_api_Digest (by (exact hst.get 2 rfl)) (by (exact Dig.size _)) ?_)) | ((refine L_loadA (d := some 6) rfl rfl rfl (by rfl) Tryz.underlying32 rfl el_api_Digest (by (exact hst.get 1 rfl)) (by (exact Dig.size _)) ?_)) | (refine L_buildS (d := some 7) rfl rfl rfl [_, _] (bs_2 (ev_tmp rfl) (ev_tmp rfl)) rfl Tryz.underlying44 el_api_Digest rfl (by (simp [Value.cells, Dig.size]; done)) (by decide) (by decide) ?_; (try clear hnew); intro g7 W7 hnew; replace hst := hst.trans hnew; simp only [List.cons_append, List.nil_append] at hst; simp only [List.flatMap_cons, List.flatMap_nil, List.append_nil, Value.cells, List.toList_toArray] at hst) | (refine wpl_at (.store 32 (.tmp 4) (.tmp 8)) rfl ?_; (refine L_storeA rfl rfl hst rfl (by rfl) (ev_tmp rfl) (by (exact Dig.one _)) el_api_Digest (by (rfl)) 1 rfl (by (rfl)) ?_; clear hst; intro WS4 hst; simp only [List.set_cons_zero, List.set_cons_succ] at hst)))
 refine bp_cell rfl rfl rfl (hst.get 1 rfl) Tryz.underlying32 rfl el_api_Digest (by (rfl)) ?_
 exact ⟨rfl, hst.forget⟩
set_option maxHeartbeats 1000000 in
theorem rhalf_any (n : Nat) (h2 : 2 ≤ n) (hn : n ≤ 256) (w : World) : Calls Tryz.prog 48 #[.int .i64 (n : Int)] w fun e w' => e = .returned (.int .i64 (halfN n : Int)) ∧ St w w' [] := by
 have hst := St.refl w
 go_enter Tryz.func48, Tryz.ntmps48
 go_wp2_with (fail)
 go_loopg [3] (n - 1) (fun gk s3 wr => ∃ (k j : Nat), Hid (k + gk = n) ∧ Hid (k = 2 ^ j) ∧ k < n ∧ 0 < k ∧ s3 = .int .i64 (k : Int) ∧ St w wr [])
 case atStart => exact ⟨1, 0, Lib.hid (by omega), Lib.hid rfl, by omega, by omega, rfl, hst⟩
 case round =>
  clear hst
  obtain ⟨k, j, HI, HJ, hkn, hk0, rfl, hst⟩ := hrel
  have hi := HI.out
  by_cases hin : 2 * k < n
  ·clear hi
   go_wp2_with (fail)
   go_roundg (n - 2 * k)
   case measure => have hi := HI.out; omega
   case rel =>
    have hi := HI.out
    exact ⟨2 * k, j + 1, Lib.hid (by omega), Lib.hid (by rw [HJ.out, Nat.pow_succ]; omega), hin, by omega, by go_num, hst⟩
  ·have hh := halfN_of j HJ.out hkn (by omega)
   have HH := Lib.hid hh
   clear hi HI hh HJ
   go_wp2_with (fail)
   go_ret
   exact ⟨by rw [HH.out]; rfl, hst⟩
theorem longN_le : ∀ (n i : Nat), longN i n ≤ n := by
 intro n
 induction n using Nat.strongRecOn with
 | ind n ih =>
 intro i
 by_cases h : n < 2
 ·rw [longN_one i h]; exact Nat.zero_le _
 ·have h1 := halfN_lt n (by omega)
  have h2 := halfN_pos n
  by_cases hi : i < halfN n
  ·rw [longN_left (by omega) hi]; have := ih _ h1 i; omega
  ·rw [longN_right (by omega) hi]; have := ih (n - halfN n) (by omega) (i - halfN n); omega
set_option maxHeartbeats 2000000 in
theorem rlong_any : ∀ (n i : Nat) (w : World), i < n → n ≤ 256 → Calls Tryz.prog 55 #[.int .i64 (i : Int), .int .i64 (n : Int)] w fun e w' => e = .returned (.int .i64 (longN i n : Int)) ∧ St w w' [] := by
 intro n
 induction n using Nat.strongRecOn with
 | ind n ih =>
 intro i w hin hn
 have hst := St.refl w
 by_cases h1 : n = 1
 ·subst h1
  rw [longN_one i (by omega)]
  go_enter Tryz.func55, Tryz.ntmps55
  go_wp2_with (fail)
  go_ret
  exact ⟨rfl, hst⟩
 ·have hlt := halfN_lt n (by omega)
  have hps := halfN_pos n
  have h1' : ¬ (n : Int) = 1 := by omega
  have HF := Lib.hid (fun w => rhalf_any n (by omega) (by omega) w)
  by_cases hk : i < halfN n
  ·have HN := Lib.hid (show longN i n = longN i (halfN n) + 1 from longN_left (by omega) hk)
   have hle := longN_le (halfN n) i
   have HI := Lib.hid (fun w => ih (halfN n) hlt i w hk (by omega))
   rw [HN.out]
   generalize halfN n = k at *
   generalize longN i k = r at *
   go_enter Tryz.func55, Tryz.ntmps55
   go_wp2_with (first | (go_at_call 48; (try clear hnew); refine (HF.out _).mono ?_; rintro e Wk2 ⟨rfl, hnew⟩; replace hst := hst.keep hnew) | (go_at_call 55; (try clear hnew); refine (HI.out _).mono ?_; rintro e Wk3 ⟨rfl, hnew⟩; replace hst := hst.keep hnew))
   go_ret
   exact ⟨congrArg Ending.returned (by go_num), hst⟩
  ·have HN := Lib.hid (show longN i n = longN (i - halfN n) (n - halfN n) + 1 from longN_right (by omega) hk)
   have hle := longN_le (n - halfN n) (i - halfN n)
   have HI := Lib.hid (fun w => ih (n - halfN n) (by omega) (i - halfN n) w (by omega) (by omega))
   rw [HN.out]
   have e1 : (((i - halfN n : Nat)) : Int) = (i : Int) - (halfN n : Int) := by omega
   have e2 : (((n - halfN n : Nat)) : Int) = (n : Int) - (halfN n : Int) := by omega
   rw [e1, e2] at HI
   clear e1 e2
   generalize longN (i - halfN n) (n - halfN n) = r at *
   generalize halfN n = k at *
   go_enter Tryz.func55, Tryz.ntmps55
   go_wp2_with (first | (go_at_call 48; (try clear hnew); refine (HF.out _).mono ?_; rintro e Wk4 ⟨rfl, hnew⟩; replace hst := hst.keep hnew) | (go_at_call 55; (try clear hnew); refine (HI.out _).mono ?_; rintro e Wk5 ⟨rfl, hnew⟩; replace hst := hst.keep hnew))
   go_ret
   exact ⟨congrArg Ending.returned (by go_num), hst⟩
theorem path_last (path : List Dig) (m : Nat) (hl : path.length = m + 1) : ∃ rest p, path = rest ++ [p] ∧ rest.length = m ∧ ((digsL path).drop (m * 32)).take 32 = p.arr.toList ∧ ((digsL path).drop (0 * 32)).take ((m - 0) * 32) = digsL rest := by
 refine ⟨path.take m, path[m]'(by omega), ?_, by rw [List.length_take]; omega, by rw [Dig.toList]; exact digsL_at path m (by omega), ?_⟩
 ·have := List.take_succ_eq_append_getElem (l := path) (i := m) (by omega)
  rw [← this, List.take_of_length_le (by omega)]
 ·rw [digsL_cut]
  rfl
set_option maxHeartbeats 4000000 in
theorem rfolded_any : ∀ (n : Nat) (l : Dig) (path : List Dig) (A : Option Addr) (m c i : Nat) (w : World), SlR w A m c 32 (digsL path) → m = longN i n → i < n → n ≤ 256 →
  Calls Tryz.prog 56 #[l.v, .int .i64 (i : Int), .int .i64 (n : Int), .slice A m c] w fun e w' => e = .returned (foldedN l i n path).v ∧ St w w' [] := by
 intro n
 induction n using Nat.strongRecOn with
 | ind n ih =>
 intro l path A m c i w hx hm hin hn
 have hst := St.refl w
 have hl : path.length = m := by have := hx.1; rw [length_digsL] at this; omega
 have hcap := hx.2.1
 have hmax := hx.2.2.1
 simp only [maxLen] at hmax
 by_cases h1 : n = 1
 ·subst h1
  rw [foldedN_one l i (by omega)]
  clear hm hl
  go_enter Tryz.func56, Tryz.ntmps56
  go_wp2_with (first | (refine L_boxA (d := some 4) rfl rfl rfl (ev_tmp rfl) ?_; (try clear hnew); intro g4 W4 hnew; replace hst := hst.trans hnew; simp only [List.cons_append, List.nil_append] at hst) | (refine L_allocA (d := some 8) rfl rfl rfl el_api_Digest ?_; (try clear hnew); intro g8 W8 hnew; replace hst := hst.trans hnew; simp only [List.cons_append, List.nil_append] at hst) | ((refine L_loadA (d := some 14) rfl rfl rfl (by rfl) Tryz.underlying32 rfl el_api_Digest (by (exact hst.get 1 rfl)) (by (exact Dig.size _)) ?_)) | (refine wpl_at (.store 32 (.tmp 8) (.tmp 14)) rfl ?_; (refine L_storeA rfl rfl hst rfl (by rfl) (ev_tmp rfl) (by (exact Dig.one _)) el_api_Digest (by (exact Dig.size _)) 0 rfl (by (rfl)) ?_; clear hst; intro WS1 hst; simp only [List.set_cons_zero, List.set_cons_succ] at hst)))
  refine bp_cell rfl rfl rfl (hst.get 0 rfl) Tryz.underlying32 rfl el_api_Digest (by (exact Dig.size _)) ?_
  exact ⟨rfl, hst.forget⟩
 ·have hlt := halfN_lt n (by omega)
  have hps := halfN_pos n
  have h1' : ¬ (n : Int) = 1 := by omega
  have HF := Lib.hid (fun w => rhalf_any n (by omega) (by omega) w)
  by_cases hk : i < halfN n
  ·rw [longN_left (by omega) hk] at hm
   obtain ⟨rest, p, rfl, hr, hp, hc⟩ := path_last path (longN i (halfN n)) (by omega)
   rw [foldedN_left l (by omega) hk rest p hr]
   obtain ⟨r, hr'⟩ : ∃ r, r = longN i (halfN n) := ⟨_, rfl⟩
   rw [← hr'] at hm hp hc
   subst hm
   have HP := Lib.hid (show ((digsL (rest ++ [p])).drop ((r : Int).toNat * 32)).take 32 = p.arr.toList from hp)
   have HC := Lib.hid hc
   have HI := Lib.hid (fun A c w hs => ih (halfN n) hlt l rest A r c i w hs hr' hk (by omega))
   clear hr hr' hp hc hl ih
   generalize foldedN l i (halfN n) rest = u at *
   generalize halfN n = k at *
   go_enter Tryz.func56, Tryz.ntmps56
   go_wp2_with (first | (go_at_call 48; (try clear hnew); refine (HF.out _).mono ?_; rintro e Wk6 ⟨rfl, hnew⟩; replace hst := hst.keep hnew) | (refine L_loadM (d := some 22) rfl rfl rfl (by rfl) Tryz.underlying32 rfl el_api_Digest (cs := p.arr) (by rw [← HP.out]; exact hr21) (Dig.size _) ?_) | (refine L_boxA (d := some 4) rfl rfl rfl (ev_tmp rfl) ?_; (try clear hnew); intro g4 W4 hnew; replace hst := hst.trans hnew; simp only [List.cons_append, List.nil_append] at hst) | (refine L_allocA (d := some 8) rfl rfl rfl el_api_Digest ?_; (try clear hnew); intro g8 W8 hnew; replace hst := hst.trans hnew; simp only [List.cons_append, List.nil_append] at hst) | (refine L_idxS (d := some 21) rfl rfl rfl (by rfl) (by rfl) Tryz.underlying44 el_api_Digest (by (exact hst.old (by decide) hx)) (by omega) (by omega) ?_; intro o21 p21 ha21 hr21; ((subst ha21))) | (refine L_allocA (d := some 10) rfl rfl rfl el_api_Digest ?_; (try clear hnew); intro g10 W10 hnew; replace hst := hst.trans hnew; simp only [List.cons_append, List.nil_append] at hst) | (refine wpl_at (.store 32 (.tmp 10) (.tmp 22)) rfl ?_; (refine L_storeA rfl rfl hst rfl (by rfl) (ev_tmp rfl) (by (exact Dig.one _)) el_api_Digest (by (exact Dig.size _)) 0 rfl (by (rfl)) ?_; clear hst; intro WS7 hst; simp only [List.set_cons_zero, List.set_cons_succ] at hst)) | ((refine L_cutV (d := some 27) rfl rfl rfl (by rfl) Tryz.underlying44 el_api_Digest (by decide) hx 0 r _ (Or.inl ⟨rfl, rfl⟩) (Or.inr ⟨_, _, rfl, by (exact ev_tmp rfl)⟩) (Or.inl ⟨rfl, rfl⟩) (by omega) (by omega) (by omega) (by omega) ?_; intro A27 c27 hs27)))
   (try clear hnew)
   refine wp_region_idx [(0, 0), (1, 0), (2, 0), (3, 0), (5, 0), (4, 2), (6, 2), (7, 1)] (by kernel_rfl) (by kernel_rfl) ?_
   replace hst := hst.drew
   refine idx_q rfl rfl ?_; go_wp2_with (((refine L_loadA (d := some 31) rfl rfl rfl (by rfl) Tryz.underlying32 rfl el_api_Digest (by (exact hst.get 2 rfl)) (by (exact Dig.size _)) ?_)))
   refine idx_q rfl rfl ?_; go_wp2_with fail
   refine idx_q rfl rfl ?_; go_wp2_with fail
   refine idx_q rfl rfl ?_; go_wp2_with fail
   refine idx_q rfl rfl ?_; go_wp2_with (((refine L_loadA (d := some 36) rfl rfl rfl (by rfl) Tryz.underlying32 rfl el_api_Digest (by (exact hst.get 0 rfl)) (by (exact Dig.size _)) ?_)))
   refine idx_g rfl ?_; go_wp2_with ((go_at_call 56; (try clear hnew); refine (HI.out A27 c27 _ (by rw [← HC.out]; exact hst.old (by decide) hs27)).mono ?_; rintro e Wk7 ⟨rfl, hnew⟩; replace hst := hst.keep hnew)); refine ⟨by (exact hnew.below), ?_⟩
   refine idx_g rfl ?_; go_wp2_with ((go_at_call 86; (try clear hnew); with_reducible refine (rnode_any _ _ _).mono ?_; rintro e Wk8 ⟨rfl, hnew⟩; replace hst := hst.keep hnew)); refine ⟨by (exact hnew.below), ?_⟩
   refine idx_e rfl ?_; go_wp2_with ((refine wpl_at (.store 32 (.tmp 8) (.tmp 37)) rfl ?_; (refine L_storeA rfl rfl hst rfl (by rfl) (ev_tmp rfl) (by (exact Dig.one _)) el_api_Digest (by (rfl)) 1 rfl (by (rfl)) ?_; clear hst; intro WS7 hst; simp only [List.set_cons_zero, List.set_cons_succ] at hst)))
   refine idx_nil ?_
   go_wp2_with fail
   refine bp_cell rfl rfl rfl (hst.get 1 rfl) Tryz.underlying32 rfl el_api_Digest (by (rfl)) ?_
   exact ⟨rfl, hst.forget⟩
  ·rw [longN_right (by omega) hk] at hm
   obtain ⟨rest, p, rfl, hr, hp, hc⟩ := path_last path (longN (i - halfN n) (n - halfN n)) (by omega)
   rw [foldedN_right l (by omega) hk rest p hr]
   obtain ⟨r, hr'⟩ : ∃ r, r = longN (i - halfN n) (n - halfN n) := ⟨_, rfl⟩
   rw [← hr'] at hm hp hc
   subst hm
   have HP := Lib.hid (show ((digsL (rest ++ [p])).drop ((r : Int).toNat * 32)).take 32 = p.arr.toList from hp)
   have HC := Lib.hid hc
   have HI := Lib.hid (fun A c w hs => ih (n - halfN n) (by omega) l rest A r c (i - halfN n) w hs hr' (by omega) (by omega))
   have e1 : (((i - halfN n : Nat)) : Int) = (i : Int) - (halfN n : Int) := by omega
   have e2 : (((n - halfN n : Nat)) : Int) = (n : Int) - (halfN n : Int) := by omega
   rw [e1, e2] at HI
   clear hr hr' hp hc hl ih e1 e2
   generalize foldedN l (i - halfN n) (n - halfN n) rest = u at *
   generalize halfN n = k at *
   go_enter Tryz.func56, Tryz.ntmps56
   go_wp2_with (first | (go_at_call 48; (try clear hnew); refine (HF.out _).mono ?_; rintro e Wk9 ⟨rfl, hnew⟩; replace hst := hst.keep hnew) | (refine L_loadM (d := some 22) rfl rfl rfl (by rfl) Tryz.underlying32 rfl el_api_Digest (cs := p.arr) (by rw [← HP.out]; exact hr21) (Dig.size _) ?_) | (refine L_boxA (d := some 4) rfl rfl rfl (ev_tmp rfl) ?_; (try clear hnew); intro g4 W4 hnew; replace hst := hst.trans hnew; simp only [List.cons_append, List.nil_append] at hst) | (refine L_allocA (d := some 8) rfl rfl rfl el_api_Digest ?_; (try clear hnew); intro g8 W8 hnew; replace hst := hst.trans hnew; simp only [List.cons_append, List.nil_append] at hst) | (refine L_idxS (d := some 21) rfl rfl rfl (by rfl) (by rfl) Tryz.underlying44 el_api_Digest (by (exact hst.old (by decide) hx)) (by omega) (by omega) ?_; intro o21 p21 ha21 hr21; ((subst ha21))) | (refine L_allocA (d := some 10) rfl rfl rfl el_api_Digest ?_; (try clear hnew); intro g10 W10 hnew; replace hst := hst.trans hnew; simp only [List.cons_append, List.nil_append] at hst) | (refine wpl_at (.store 32 (.tmp 10) (.tmp 22)) rfl ?_; (refine L_storeA rfl rfl hst rfl (by rfl) (ev_tmp rfl) (by (exact Dig.one _)) el_api_Digest (by (exact Dig.size _)) 0 rfl (by (rfl)) ?_; clear hst; intro WS7 hst; simp only [List.set_cons_zero, List.set_cons_succ] at hst)) | ((refine L_cutV (d := some 27) rfl rfl rfl (by rfl) Tryz.underlying44 el_api_Digest (by decide) hx 0 r _ (Or.inl ⟨rfl, rfl⟩) (Or.inr ⟨_, _, rfl, by (exact ev_tmp rfl)⟩) (Or.inl ⟨rfl, rfl⟩) (by omega) (by omega) (by omega) (by omega) ?_; intro A27 c27 hs27)))
   (try clear hnew)
   refine wp_region_idx [(0, 0), (1, 0), (2, 0), (3, 0), (4, 0), (5, 0), (6, 0), (7, 0), (8, 2), (9, 2), (10, 2), (11, 1)] (by kernel_rfl) (by kernel_rfl) ?_
   replace hst := hst.drew
   refine idx_q rfl rfl ?_; go_wp2_with (((refine L_loadA (d := some 38) rfl rfl rfl (by rfl) Tryz.underlying32 rfl el_api_Digest (by (exact hst.get 0 rfl)) (by (exact Dig.size _)) ?_)))
   refine idx_q rfl rfl ?_; go_wp2_with (((refine L_loadA (d := some 39) rfl rfl rfl (by rfl) Tryz.underlying32 rfl el_api_Digest (by (exact hst.get 2 rfl)) (by (exact Dig.size _)) ?_)))
   refine idx_q rfl rfl ?_; go_wp2_with fail
   refine idx_q rfl rfl ?_; go_wp2_with fail
   refine idx_q rfl rfl ?_; go_wp2_with fail
   refine idx_q rfl rfl ?_; go_wp2_with fail
   refine idx_q rfl rfl ?_; go_wp2_with fail
   refine idx_q rfl rfl ?_; go_wp2_with fail
   refine idx_g rfl ?_; go_wp2_with fail; refine ⟨by (exact Below.refl _ _), ?_⟩
   refine idx_g rfl ?_; go_wp2_with ((go_at_call 56; (try clear hnew); refine (HI.out A27 c27 _ (by rw [← HC.out]; exact hst.old (by decide) hs27)).mono ?_; rintro e Wk10 ⟨rfl, hnew⟩; replace hst := hst.keep hnew)); refine ⟨by (exact hnew.below), ?_⟩
   refine idx_g rfl ?_; go_wp2_with ((go_at_call 86; (try clear hnew); with_reducible refine (rnode_any _ _ _).mono ?_; rintro e Wk11 ⟨rfl, hnew⟩; replace hst := hst.keep hnew)); refine ⟨by (exact hnew.below), ?_⟩
   refine idx_e rfl ?_; go_wp2_with ((refine wpl_at (.store 32 (.tmp 8) (.tmp 48)) rfl ?_; (refine L_storeA rfl rfl hst rfl (by rfl) (ev_tmp rfl) (by (exact Dig.one _)) el_api_Digest (by (rfl)) 1 rfl (by (rfl)) ?_; clear hst; intro WS11 hst; simp only [List.set_cons_zero, List.set_cons_succ] at hst)))
   refine idx_nil ?_
   go_wp2_with fail
   refine bp_cell rfl rfl rfl (hst.get 1 rfl) Tryz.underlying32 rfl el_api_Digest (by (rfl)) ?_
   exact ⟨rfl, hst.forget⟩
end Go.Proofs.YtaebeemnipafbaaGreatDoor

set_option maxRecDepth 20000
set_option linter.unusedSimpArgs false
set_option linter.unusedVariables false
namespace Go.Proofs.YtaebeemnipafbaaGreatDoor
open Go.RowKit
set_option maxHeartbeats 2000000 in
theorem rroot_any : ∀ (n : Nat) (ls : List Dig) (A : Option Addr) (c : Nat) (w : World), SlR w A n c 32 (digsL ls) → n ≤ 256 →
  Calls Tryz.prog 41 #[.slice A n c] w fun e w' => e = .returned (rootN ls).v ∧ St w w' [] := by
 intro n
 induction n using Nat.strongRecOn with
 | ind n ih =>
 intro ls A c w hx hn
 have hst := St.refl w
 have hl : ls.length = n := by have := hx.1; rw [length_digsL] at this; omega
 have hcap := hx.2.1
 by_cases h0 : n = 0
 ·subst h0
  obtain rfl : ls = [] := List.eq_nil_of_length_eq_zero hl
  go_enter Tryz.func41, Tryz.ntmps41
  go_wp2_with (first | (go_at_call 76; (try clear hnew); refine (rsum_any [] none 0 0 _ (SlR.nil_ _ 1) (by decide)).mono ?_; rintro e Wk1 ⟨rfl, hnew⟩; replace hst := hst.keep hnew) | (refine L_allocA (d := some 2) rfl rfl rfl el_api_Digest ?_; (try clear hnew); intro g2 W2 hnew; replace hst := hst.trans hnew; simp only [List.cons_append, List.nil_append] at hst) | (refine wpl_at (.store 32 (.tmp 2) (.tmp 7)) rfl ?_; (refine L_storeA rfl rfl hst rfl (by rfl) (ev_tmp rfl) (by (exact Dig.one _)) el_api_Digest (by (rfl)) 0 rfl (by (rfl)) ?_; clear hst; intro WS1 hst; simp only [List.set_cons_zero, List.set_cons_succ] at hst)))
  rw [rootN_nil]
  refine bp_cell rfl rfl rfl (hst.get 0 rfl) Tryz.underlying32 rfl el_api_Digest (by (rfl)) ?_
  exact ⟨rfl, hst.forget⟩
 ·by_cases h1 : n = 1
  ·subst h1
   obtain ⟨d, rfl⟩ : ∃ d, ls = [d] := by
    match ls, hl with
    | [d], _ => exact ⟨d, rfl⟩
   have HL := Lib.hid (show ((digsL [d]).drop ((0 : Int).toNat * 32)).take 32 = d.arr.toList by rw [digsL_single]; exact List.take_of_length_le (by simp [Dig.size]))
   go_enter Tryz.func41, Tryz.ntmps41
   go_wp2_with (first | (refine L_loadM (d := some 13) rfl rfl rfl (by rfl) Tryz.underlying32 rfl el_api_Digest (cs := d.arr) (by rw [← HL.out]; exact hr12) (Dig.size _) ?_) | (refine L_allocA (d := some 2) rfl rfl rfl el_api_Digest ?_; (try clear hnew); intro g2 W2 hnew; replace hst := hst.trans hnew; simp only [List.cons_append, List.nil_append] at hst) | (refine L_idxS (d := some 12) rfl rfl rfl (by rfl) (by rfl) Tryz.underlying44 el_api_Digest (by (exact hst.old (by decide) (by assumption))) (by omega) (by omega) ?_; intro o12 p12 ha12 hr12; ((subst ha12))) | (refine wpl_at (.store 32 (.tmp 2) (.tmp 13)) rfl ?_; (refine L_storeA rfl rfl hst rfl (by rfl) (ev_tmp rfl) (by (exact Dig.one _)) el_api_Digest (by (exact Dig.size _)) 0 rfl (by (rfl)) ?_; clear hst; intro WS3 hst; simp only [List.set_cons_zero, List.set_cons_succ] at hst)))
   rw [rootN_one]
   refine bp_cell rfl rfl rfl (hst.get 0 rfl) Tryz.underlying32 rfl el_api_Digest (by (exact Dig.size _)) ?_
   exact ⟨rfl, hst.forget⟩
  ·have hlt := halfN_lt n (by omega)
   have hps := halfN_pos n
   have HN := Lib.hid (show nodeN (rootN (ls.take (halfN n))) (rootN (ls.drop (halfN n))) = rootN ls by rw [rootN_more ls (by omega), hl])
   have H1 := Lib.hid (show ((digsL ls).drop (0 * 32)).take ((halfN n - 0) * 32) = digsL (ls.take (halfN n)) by rw [digsL_cut]; rfl)
   have H2 := Lib.hid (show ((digsL ls).drop (halfN n * 32)).take ((n - halfN n) * 32) = digsL (ls.drop (halfN n)) by rw [digsL_cut, List.take_of_length_le (by rw [List.length_drop]; omega)])
   have h0' : ¬ (n : Int) = 0 := by omega
   have h1' : ¬ (n : Int) = 1 := by omega
   have HF := Lib.hid (fun w => rhalf_any n (by omega) (by omega) w)
   generalize halfN n = k at *
   go_enter Tryz.func41, Tryz.ntmps41
   go_wp2_with (first | (go_at_call 48; (try clear hnew); refine (HF.out _).mono ?_; rintro e Wk2 ⟨rfl, hnew⟩; replace hst := hst.keep hnew) | (refine L_allocA (d := some 2) rfl rfl rfl el_api_Digest ?_; (try clear hnew); intro g2 W2 hnew; replace hst := hst.trans hnew; simp only [List.cons_append, List.nil_append] at hst))
   (try clear hnew)
   clear h0' h1'
   refine wp_region_idx [(0, 0), (1, 0), (2, 0), (4, 0), (5, 0), (6, 0), (3, 2), (7, 2), (8, 2), (9, 1)] (by kernel_rfl) (by kernel_rfl) ?_
   replace hst := hst.drew
   refine idx_q rfl rfl ?_; go_wp2_with fail
   refine idx_q rfl rfl ?_; go_wp2_with fail
   refine idx_q rfl rfl ?_; go_wp2_with (((refine L_cutV (d := some 19) rfl rfl rfl (by rfl) Tryz.underlying44 el_api_Digest (by decide) hx 0 k _ (Or.inl ⟨rfl, rfl⟩) (Or.inr ⟨_, _, rfl, by (exact ev_tmp rfl)⟩) (Or.inl ⟨rfl, rfl⟩) (by omega) (by omega) (by omega) (by omega) ?_; intro A19 c19 hs19)))
   refine idx_q rfl rfl ?_; go_wp2_with fail
   refine idx_q rfl rfl ?_; go_wp2_with fail
   refine idx_q rfl rfl ?_; go_wp2_with (((refine L_cutV (d := some 23) rfl rfl rfl (by rfl) Tryz.underlying44 el_api_Digest (by decide) hx k n _ (Or.inr ⟨_, _, rfl, by (exact ev_tmp rfl)⟩) (Or.inl ⟨rfl, rfl, rfl⟩) (Or.inl ⟨rfl, rfl⟩) (by omega) (by omega) (by omega) (by omega) ?_; intro A23 c23 hs23)))
   refine idx_g rfl ?_; go_wp2_with ((go_at_call_of 41 (Value.slice A19 k c19); (try clear hnew); refine (ih k hlt (ls.take k) A19 c19 _ (by rw [← H1.out]; exact hst.old (by decide) hs19) (by omega)).mono ?_; rintro e W20 ⟨rfl, hnew⟩; replace hst := hst.keep hnew)); refine ⟨by (exact hnew.below), ?_⟩
   refine idx_g rfl ?_; go_wp2_with ((go_at_call_of 41 (Value.slice A23 (n - k) c23); (try clear hnew); refine (ih (n - k) (by omega) (ls.drop k) A23 c23 _ (by rw [← H2.out]; exact hst.old (by decide) hs23) (by omega)).mono ?_; rintro e W24 ⟨rfl, hnew⟩; replace hst := hst.keep hnew)); refine ⟨by (exact hnew.below), ?_⟩
   refine idx_g rfl ?_; go_wp2_with ((go_at_call 86; (try clear hnew); with_reducible refine (rnode_any _ _ _).mono ?_; rintro e Wk3 ⟨rfl, hnew⟩; replace hst := hst.keep hnew)); refine ⟨by (exact hnew.below), ?_⟩
   refine idx_e rfl ?_; go_wp2_with ((refine wpl_at (.store 32 (.tmp 2) (.tmp 25)) rfl ?_; (refine L_storeA rfl rfl hst rfl (by rfl) (ev_tmp rfl) (by (exact Dig.one _)) el_api_Digest (by (rfl)) 0 rfl (by (rfl)) ?_; clear hst; intro WS9 hst; simp only [List.set_cons_zero, List.set_cons_succ] at hst)))
   refine idx_nil ?_
   rw [HN.out] at hst
   go_wp2_with fail
   refine bp_cell rfl rfl rfl (hst.get 0 rfl) Tryz.underlying32 rfl el_api_Digest (by (exact Dig.size _)) ?_
   exact ⟨rfl, hst.forget⟩
end Go.Proofs.YtaebeemnipafbaaGreatDoor

set_option maxRecDepth 20000
set_option linter.unusedSimpArgs false
set_option linter.unusedVariables false
namespace Go.Proofs.YtaebeemnipafbaaGreatDoor
open Go.RowKit
theorem dig_oneR (d : Dig) : ∀ u ∈ d.arr.toList, u.oneCell' = true := by
 rw [Dig.toList]
 exact oneCell_bytes
set_option maxHeartbeats 4000000 in
theorem rpath_any : ∀ (n : Nat) (ls : List Dig) (A : Option Addr) (c i : Nat) (w : World), SlR w A n c 32 (digsL ls) → i < n → n ≤ 256 →
  Calls Tryz.prog 45 #[.slice A n c, .int .i64 (i : Int)] w fun e w' => ∃ O oc, e = .returned (.slice O (longN i n) oc) ∧ St w w' [.row O (longN i n) oc 32 32 (digsL (pathN ls i))] := by
 intro n
 induction n using Nat.strongRecOn with
 | ind n ih =>
 intro ls A c i w hx hin hn
 have hst := St.refl w
 have hl : ls.length = n := by have := hx.1; rw [length_digsL] at this; omega
 have hcap := hx.2.1
 by_cases h1 : n = 1
 ·subst h1
  rw [longN_one i (by omega), pathN_one i (by omega)]
  go_enter Tryz.func45, Tryz.ntmps45
  go_wp2_with (fail)
  go_ret
  exact ⟨_, _, rfl, hst.nilRow 32 32⟩
 ·have hlt := halfN_lt n (by omega)
  have hps := halfN_pos n
  have h1' : ¬ (n : Int) = 1 := by omega
  have HF := Lib.hid (fun w => rhalf_any n (by omega) (by omega) w)
  have H1 := Lib.hid (show ((digsL ls).drop (0 * 32)).take ((halfN n - 0) * 32) = digsL (ls.take (halfN n)) by rw [digsL_cut]; rfl)
  have H2 := Lib.hid (show ((digsL ls).drop (halfN n * 32)).take ((n - halfN n) * 32) = digsL (ls.drop (halfN n)) by rw [digsL_cut, List.take_of_length_le (by rw [List.length_drop]; omega)])
  by_cases hk : i < halfN n
  ·have hle := longN_le (halfN n) i
   rw [longN_left (by omega) hk]
   have HI := Lib.hid (fun A c w hs => ih (halfN n) hlt (ls.take (halfN n)) A c i w hs hk (by omega))
   have HB := Lib.hid (show digsL (pathN (ls.take (halfN n)) i) ++ (rootN (ls.drop (halfN n))).arr.toList = digsL (pathN ls i) by
    rw [pathN_left (ls := ls) (by omega) (by rw [hl]; exact hk), hl, digsL_append, digsL_single, Dig.toList])
   clear ih hl
   generalize longN i (halfN n) = r at *
   generalize halfN n = k at *
   go_enter Tryz.func45, Tryz.ntmps45
   go_wp2_with ((go_at_call 48; (try clear hnew); refine (HF.out _).mono ?_; rintro e Wk1 ⟨rfl, hnew⟩; replace hst := hst.keep hnew))
   (try clear hnew)
   refine wp_region_idxT [(0, 0), (1, 0), (2, 0), (3, 0), (5, 0), (6, 0), (7, 0), (4, 2), (8, 2), (9, 2), (10, 1), (11, 2)] (by kernel_rfl) (by kernel_rfl) ?_
   replace hst := hst.drew
   refine idx_q rfl rfl ?_; go_wp2_with fail
   refine idx_q rfl rfl ?_; go_wp2_with fail
   refine idx_q rfl rfl ?_; go_wp2_with (((refine L_cutV (d := some 17) rfl rfl rfl (by rfl) Tryz.underlying44 el_api_Digest (by decide) hx 0 k _ (Or.inl ⟨rfl, rfl⟩) (Or.inr ⟨_, _, rfl, by (exact ev_tmp rfl)⟩) (Or.inl ⟨rfl, rfl⟩) (by omega) (by omega) (by omega) (by omega) ?_; intro A17 c17 hs17)))
   refine idx_q rfl rfl ?_; go_wp2_with fail
   refine idx_q rfl rfl ?_; go_wp2_with fail
   refine idx_q rfl rfl ?_; go_wp2_with fail
   refine idx_q rfl rfl ?_; go_wp2_with (((refine L_cutV (d := some 22) rfl rfl rfl (by rfl) Tryz.underlying44 el_api_Digest (by decide) hx k n _ (Or.inr ⟨_, _, rfl, by (exact ev_tmp rfl)⟩) (Or.inl ⟨rfl, rfl, rfl⟩) (Or.inl ⟨rfl, rfl⟩) (by omega) (by omega) (by omega) (by omega) ?_; intro A22 c22 hs22)))
   refine idx_g rfl ?_; go_wp2_with ((go_at_call 45; (try clear hnew); refine (HI.out A17 c17 _ (by rw [← H1.out]; exact hst.old (by decide) hs17)).mono ?_; rintro e Wk2 ⟨O19, c19, rfl, hnew⟩; replace hst := hst.trans hnew; simp only [List.cons_append, List.nil_append] at hst)); refine ⟨by (exact hnew.below), ?_⟩
   refine idx_g rfl ?_; go_wp2_with ((go_at_call 41; (try clear hnew); refine (rroot_any (n - k) (ls.drop k) A22 c22 _ (by rw [← H2.out]; exact hst.old (by decide) hs22) (by omega)).mono ?_; rintro e Wk3 ⟨rfl, hnew⟩; replace hst := hst.keep hnew)); refine ⟨by (exact hnew.below), ?_⟩
   refine idx_g rfl ?_; go_wp2_with ((refine L_buildS (d := some 24) rfl rfl rfl [_] (bs_1 (ev_tmp rfl)) rfl Tryz.underlying44 el_api_Digest rfl (by (simp [Value.cells, Dig.size]; done)) (by decide) (by decide) ?_; (try clear hnew); intro g24 W24 hnew; replace hst := hst.trans hnew; simp only [List.cons_append, List.nil_append] at hst; simp only [List.flatMap_cons, List.flatMap_nil, List.append_nil, Value.cells, List.toList_toArray] at hst)); refine ⟨by (exact hnew.below), ?_⟩
   refine idx_e rfl ?_; go_wp2_with ((refine L_appendO (d := some 25) rfl rfl hst rfl (by rfl) (by rfl) Tryz.underlying44 el_api_Digest rfl (by decide) (by decide) 1 rfl (by (rfl)) (by (exact hst.sl 0 rfl)) (by (exact oneCell_bytes)) (by omega) ?_; clear hst; intro A25 c25 W25 hst; simp only [List.set_cons_zero, List.set_cons_succ, List.nil_append, Nat.zero_add] at hst))
   refine idx_g rfl ?_; go_wp2_with fail; refine ⟨by (exact Below.refl _ _), ?_⟩
   refine idx_nil ?_
   go_wp2_with fail
   go_ret
   refine ⟨_, _, rfl, ?_⟩
   rw [HB.out] at hst
   (exact hst.pick [1] (by decide))
  ·have hle := longN_le (n - halfN n) (i - halfN n)
   rw [longN_right (by omega) hk]
   have HI := Lib.hid (fun A c w hs => ih (n - halfN n) (by omega) (ls.drop (halfN n)) A c (i - halfN n) w hs (by omega) (by omega))
   have HB := Lib.hid (show digsL (pathN (ls.drop (halfN n)) (i - halfN n)) ++ (rootN (ls.take (halfN n))).arr.toList = digsL (pathN ls i) by
    rw [pathN_right (ls := ls) (by omega) (by rw [hl]; exact hk), hl, digsL_append, digsL_single, Dig.toList])
   have e1 : (((i - halfN n : Nat)) : Int) = (i : Int) - (halfN n : Int) := by omega
   rw [e1] at HI
   clear ih hl e1
   generalize longN (i - halfN n) (n - halfN n) = r at *
   generalize halfN n = k at *
   go_enter Tryz.func45, Tryz.ntmps45
   go_wp2_with ((go_at_call 48; (try clear hnew); refine (HF.out _).mono ?_; rintro e Wk4 ⟨rfl, hnew⟩; replace hst := hst.keep hnew))
   (try clear hnew)
   refine wp_region_idxT [(0, 0), (1, 0), (2, 0), (3, 0), (4, 0), (5, 0), (7, 0), (8, 0), (9, 0), (6, 2), (10, 2), (11, 2), (12, 1), (13, 2)] (by kernel_rfl) (by kernel_rfl) ?_
   replace hst := hst.drew
   refine idx_q rfl rfl ?_; go_wp2_with fail
   refine idx_q rfl rfl ?_; go_wp2_with fail
   refine idx_q rfl rfl ?_; go_wp2_with (((refine L_cutV (d := some 28) rfl rfl rfl (by rfl) Tryz.underlying44 el_api_Digest (by decide) hx k n _ (Or.inr ⟨_, _, rfl, by (exact ev_tmp rfl)⟩) (Or.inl ⟨rfl, rfl, rfl⟩) (Or.inl ⟨rfl, rfl⟩) (by omega) (by omega) (by omega) (by omega) ?_; intro A28 c28 hs28)))
   refine idx_q rfl rfl ?_; go_wp2_with fail
   refine idx_q rfl rfl ?_; go_wp2_with fail
   refine idx_q rfl rfl ?_; go_wp2_with fail
   refine idx_q rfl rfl ?_; go_wp2_with fail
   refine idx_q rfl rfl ?_; go_wp2_with fail
   refine idx_q rfl rfl ?_; go_wp2_with (((refine L_cutV (d := some 35) rfl rfl rfl (by rfl) Tryz.underlying44 el_api_Digest (by decide) hx 0 k _ (Or.inl ⟨rfl, rfl⟩) (Or.inr ⟨_, _, rfl, by (exact ev_tmp rfl)⟩) (Or.inl ⟨rfl, rfl⟩) (by omega) (by omega) (by omega) (by omega) ?_; intro A35 c35 hs35)))
   refine idx_g rfl ?_; go_wp2_with ((go_at_call 45; (try clear hnew); refine (HI.out A28 c28 _ (by rw [← H2.out]; exact hst.old (by decide) hs28)).mono ?_; rintro e Wk5 ⟨O32, c32, rfl, hnew⟩; replace hst := hst.trans hnew; simp only [List.cons_append, List.nil_append] at hst)); refine ⟨by (exact hnew.below), ?_⟩
   refine idx_g rfl ?_; go_wp2_with ((go_at_call 41; (try clear hnew); refine (rroot_any k (ls.take k) A35 c35 _ (by rw [← H1.out]; exact hst.old (by decide) hs35) (by omega)).mono ?_; rintro e Wk6 ⟨rfl, hnew⟩; replace hst := hst.keep hnew)); refine ⟨by (exact hnew.below), ?_⟩
   refine idx_g rfl ?_; go_wp2_with ((refine L_buildS (d := some 37) rfl rfl rfl [_] (bs_1 (ev_tmp rfl)) rfl Tryz.underlying44 el_api_Digest rfl (by (simp [Value.cells, Dig.size]; done)) (by decide) (by decide) ?_; (try clear hnew); intro g37 W37 hnew; replace hst := hst.trans hnew; simp only [List.cons_append, List.nil_append] at hst; simp only [List.flatMap_cons, List.flatMap_nil, List.append_nil, Value.cells, List.toList_toArray] at hst)); refine ⟨by (exact hnew.below), ?_⟩
   refine idx_e rfl ?_; go_wp2_with ((refine L_appendO (d := some 38) rfl rfl hst rfl (by rfl) (by rfl) Tryz.underlying44 el_api_Digest rfl (by decide) (by decide) 1 rfl (by (rfl)) (by (exact hst.sl 0 rfl)) (by (exact oneCell_bytes)) (by omega) ?_; clear hst; intro A38 c38 W38 hst; simp only [List.set_cons_zero, List.set_cons_succ, List.nil_append, Nat.zero_add] at hst))
   refine idx_g rfl ?_; go_wp2_with fail; refine ⟨by (exact Below.refl _ _), ?_⟩
   refine idx_nil ?_
   go_wp2_with fail
   go_ret
   refine ⟨_, _, rfl, ?_⟩
   rw [HB.out] at hst
   (exact hst.pick [1] (by decide))
end Go.Proofs.YtaebeemnipafbaaGreatDoor

set_option maxRecDepth 20000
set_option linter.unusedSimpArgs false
set_option linter.unusedVariables false
namespace Go.Proofs.YtaebeemnipafbaaGreatDoor
open Go.RowKit
section
variable {P : Program} {ops : Array Oper} {rest : List Oper} {o : Oper} {a : Act} {W : World} {Q : Exit → Act → World → Prop} {d : Option Tmp}
theorem L_and1 (hd : o.dst = d) (hw : Region.wanted o (yielded ops a.tmps) = true) {t t' : TypeId} {x y : Operand} (ho : o.op = .binOp .and t x y t') {q : Nat} (hx : a.eval x = .int .i64 (q : Int)) (hy : a.eval y = .int .i64 1) (hq : q < 2 ^ 63)
  (h : wpList P ops Q rest (a.put d (.int .i64 ((q % 2 : Nat) : Int))) W) : wpList P ops Q (o :: rest) a W := by
 refine L_val hd hw ?_ h
 unfold execOp
 simp only [ho, hx, hy]
 have e : bits .and .i64 (q : Int) 1 = ((q % 2 : Nat) : Int) := by
  have := i64_mask q 1 hq (by decide)
  rw [Nat.and_one_is_mod] at this
  exact this
 have h1 : (eqGuard .and t x y (.int .i64 (q : Int)) (.int .i64 1)).run P W = .ok () W := by simp [eqGuard]
 have h2 : (Go.binOp .and t (.int .i64 (q : Int)) (.int .i64 1)).run P W = .ok (.int .i64 ((q % 2 : Nat) : Int)) W := by
  rw [← e]
  rfl
 simp [h1, h2]
theorem L_shrN (hd : o.dst = d) (hw : Region.wanted o (yielded ops a.tmps) = true) {t t' : TypeId} {x y : Operand} (ho : o.op = .binOp .shr t x y t') {k' : IntKind} {m c : Nat} (hx : a.eval x = .int .i64 (m : Int)) (hy : a.eval y = .int k' ((c : Nat) : Int)) (hc : c ≤ 64)
  (h : wpList P ops Q rest (a.put d (.int .i64 ((m / 2 ^ c : Nat) : Int))) W) : wpList P ops Q (o :: rest) a W :=
 L_shrI hd hw ho hx hy hc (by
  rw [show (m : Int) / 2 ^ c = ((m / 2 ^ c : Nat) : Int) by simp]
  exact h)
end
theorem mFold_take (k : Nat) (l : Dig) (ps : List Dig) (j : Nat) (hj : j < ps.length) : mFold k l (ps.take (j + 1)) = if k / 2 ^ j % 2 = 1 then mNode ps[j] (mFold k l (ps.take j)) else mNode (mFold k l (ps.take j)) ps[j] := by
 rw [List.take_succ_eq_append_getElem hj, mFold_snoc, List.length_take, Nat.min_eq_left (by omega)]
set_option maxHeartbeats 4000000 in
set_option maxRecDepth 100000 in
theorem tfoldM_any (k : Nat) (l : Dig) (ps : List Dig) (A : Option Addr) (c : Nat) (w : World) (hT : Tb w) (hx : SlR w A 32 c 32 (digsL ps)) (hk : k < 4294967296) :
  Calls Tryz.prog 57 #[.int .i64 (k : Int), l.v, .slice A 32 c] w fun e w' => e = .returned (.tuple #[(mFold k l ps).v, .nilIface]) ∧ St w w' [] := by
 have hst := St.refl w
 have HT := Lib.hid hT
 have hl : ps.length = 32 := by have := hx.1; rw [length_digsL] at this; omega
 have HK := Lib.hid (fun w : World => by have h := tkey_any (k : Int) w; rw [decide_eq_true (show 0 ≤ (k : Int) ∧ (k : Int) < 4294967296 by omega)] at h; exact h)
 have HA := Lib.hid (fun j (hj : j < 32) => show ∃ (p : Dig), ((digsL ps).drop (j * 32)).take 32 = p.arr.toList ∧
   mFold k l (ps.take (j + 1)) = if k / 2 ^ j % 2 = 1 then mNode p (mFold k l (ps.take j)) else mNode (mFold k l (ps.take j)) p from
  ⟨ps[j]'(by omega), by rw [digsL_at ps j (by omega), Dig.toList], mFold_take k l ps j (by omega)⟩)
 have HZ := Lib.hid (show mFold k l (ps.take 32) = mFold k l ps by rw [List.take_of_length_le (by omega)])
 have hcap := hx.2.1
 have hmax := hx.2.2.1
 simp only [maxLen] at hmax
 clear hT hl
 go_enter Tryz.func57, Tryz.ntmps57
 go_wp2_with (first | (go_at_call 89; (try clear hnew); refine (HK.out _).mono ?_; rintro e Wk1 ⟨rfl, hnew⟩; replace hst := hst.keep hnew) | (refine L_boxA (d := some 4) rfl rfl rfl (ev_tmp rfl) ?_; (try clear hnew); intro g4 W4 hnew; replace hst := hst.trans hnew; simp only [List.cons_append, List.nil_append] at hst) | (refine L_allocA (d := some 6) rfl rfl rfl el_api_Digest ?_; (try clear hnew); intro g6 W6 hnew; replace hst := hst.trans hnew; simp only [List.cons_append, List.nil_append] at hst))
 (try clear hnew)
 have h0 : mFold k l (ps.take 0) = l := rfl
 rw [← h0] at hst
 clear h0
 go_loopg [22] 32 (fun gk s22 wr => ∃ j : Nat, Hid (j + gk = 32) ∧ s22 = .int .i64 (j : Int) ∧ St w wr [.blk g6 32 zeroD.arr, .blk g4 32 (mFold k l (ps.take j)).arr])
 case atStart => exact ⟨0, Lib.hid (by omega), rfl, hst⟩
 case round =>
  clear hst
  obtain ⟨j, HI, rfl, hst⟩ := hrel
  have hi := HI.out
  by_cases hjm : j < 32
  ·clear hi
   obtain ⟨p, hp, hs⟩ := HA.out j hjm
   have HP := Lib.hid hp
   have hq : k / 2 ^ j < 2 ^ 63 := Nat.lt_of_le_of_lt (Nat.div_le_self _ _) (by omega)
   clear hp
   generalize mFold k l (ps.take j) = u at *
   by_cases hb : k / 2 ^ j % 2 = 1
   ·rw [if_pos hb] at hs
    have HS := Lib.hid hs
    have HB := Lib.hid hb
    clear hs hb
    go_wp2_with (first | (refine L_loadM (d := some 26) rfl rfl rfl (by rfl) Tryz.underlying32 rfl el_api_Digest (cs := p.arr) (by rw [← HP.out]; exact hr25) (Dig.size _) ?_) | (refine L_shrN (d := some 29) rfl rfl rfl (ev_tmp rfl) (ev_tmp rfl) (by omega) ?_) | (refine L_and1 (d := some 30) rfl rfl rfl (ev_tmp rfl) ev_const hq ?_; rw [HB.out]) | (go_at_call 95; (try clear hnew); with_reducible refine (mnode_any _ _ _ (HT.out.of hst)).mono ?_; rintro e Wk2 ⟨rfl, hnew⟩; replace hst := hst.keep hnew) | (refine L_idxS (d := some 25) rfl rfl rfl (by rfl) (by rfl) Tryz.underlying44 el_api_Digest (by (exact hst.old (by decide) hx)) (by omega) (by omega) ?_; intro o25 p25 ha25 hr25; ((subst ha25))) | (refine L_allocA (d := some 9) rfl rfl rfl el_api_Digest ?_; (try clear hnew); intro g9 W9 hnew; replace hst := hst.trans hnew; simp only [List.cons_append, List.nil_append] at hst) | (refine wpl_at (.store 32 (.tmp 9) (.tmp 26)) rfl ?_; (refine L_storeA rfl rfl hst rfl (by rfl) (ev_tmp rfl) (by (exact Dig.one _)) el_api_Digest (by (exact Dig.size _)) 0 rfl (by (rfl)) ?_; clear hst; intro WS5 hst; simp only [List.set_cons_zero, List.set_cons_succ] at hst)) | ((refine L_loadA (d := some 32) rfl rfl rfl (by rfl) Tryz.underlying32 rfl el_api_Digest (by (exact hst.get 0 rfl)) (by (exact Dig.size _)) ?_)) | ((refine L_loadA (d := some 33) rfl rfl rfl (by rfl) Tryz.underlying32 rfl el_api_Digest (by (exact hst.get 2 rfl)) (by (exact Dig.size _)) ?_)) | (refine wpl_at (.store 32 (.tmp 4) (.tmp 34)) rfl ?_; (refine L_storeA rfl rfl hst rfl (by rfl) (ev_tmp rfl) (by (exact Dig.one _)) el_api_Digest (by (exact Dig.size _)) 2 rfl (by (exact Dig.size _)) ?_; clear hst; intro WS3 hst; simp only [List.set_cons_zero, List.set_cons_succ] at hst)))
    go_roundg (gk - 1)
    case measure => have hi := HI.out; omega
    case rel =>
     have hi := HI.out
     refine ⟨j + 1, Lib.hid (by omega), by go_num, ?_⟩
     rw [HS.out]
     exact hst.pick [1, 2] (by decide)
   ·have hb0 : k / 2 ^ j % 2 = 0 := by omega
    rw [if_neg hb] at hs
    have HS := Lib.hid hs
    have HB := Lib.hid hb0
    clear hs hb hb0
    go_wp2_with (first | (refine L_loadM (d := some 26) rfl rfl rfl (by rfl) Tryz.underlying32 rfl el_api_Digest (cs := p.arr) (by rw [← HP.out]; exact hr25) (Dig.size _) ?_) | (refine L_shrN (d := some 29) rfl rfl rfl (ev_tmp rfl) (ev_tmp rfl) (by omega) ?_) | (refine L_and1 (d := some 30) rfl rfl rfl (ev_tmp rfl) ev_const hq ?_; rw [HB.out]) | (go_at_call 95; (try clear hnew); with_reducible refine (mnode_any _ _ _ (HT.out.of hst)).mono ?_; rintro e Wk3 ⟨rfl, hnew⟩; replace hst := hst.keep hnew) | (refine L_idxS (d := some 25) rfl rfl rfl (by rfl) (by rfl) Tryz.underlying44 el_api_Digest (by (exact hst.old (by decide) hx)) (by omega) (by omega) ?_; intro o25 p25 ha25 hr25; ((subst ha25))) | (refine L_allocA (d := some 9) rfl rfl rfl el_api_Digest ?_; (try clear hnew); intro g9 W9 hnew; replace hst := hst.trans hnew; simp only [List.cons_append, List.nil_append] at hst) | (refine wpl_at (.store 32 (.tmp 9) (.tmp 26)) rfl ?_; (refine L_storeA rfl rfl hst rfl (by rfl) (ev_tmp rfl) (by (exact Dig.one _)) el_api_Digest (by (exact Dig.size _)) 0 rfl (by (rfl)) ?_; clear hst; intro WS5 hst; simp only [List.set_cons_zero, List.set_cons_succ] at hst)) | ((refine L_loadA (d := some 35) rfl rfl rfl (by rfl) Tryz.underlying32 rfl el_api_Digest (by (exact hst.get 2 rfl)) (by (exact Dig.size _)) ?_)) | ((refine L_loadA (d := some 36) rfl rfl rfl (by rfl) Tryz.underlying32 rfl el_api_Digest (by (exact hst.get 0 rfl)) (by (exact Dig.size _)) ?_)) | (refine wpl_at (.store 32 (.tmp 4) (.tmp 37)) rfl ?_; (refine L_storeA rfl rfl hst rfl (by rfl) (ev_tmp rfl) (by (exact Dig.one _)) el_api_Digest (by (exact Dig.size _)) 2 rfl (by (exact Dig.size _)) ?_; clear hst; intro WS3 hst; simp only [List.set_cons_zero, List.set_cons_succ] at hst)))
    go_roundg (gk - 1)
    case measure => have hi := HI.out; omega
    case rel =>
     have hi := HI.out
     refine ⟨j + 1, Lib.hid (by omega), by go_num, ?_⟩
     rw [HS.out]
     exact hst.pick [1, 2] (by decide)
  ·obtain rfl : j = 32 := by omega
   rw [HZ.out] at hst
   clear hi HI
   go_wp2_with (first | ((refine L_loadA (d := some 39) rfl rfl rfl (by rfl) Tryz.underlying32 rfl el_api_Digest (by (exact hst.get 1 rfl)) (by (exact Dig.size _)) ?_)) | (refine wpl_at (.store 32 (.tmp 6) (.tmp 39)) rfl ?_; (refine L_storeA rfl rfl hst rfl (by rfl) (ev_tmp rfl) (by (exact Dig.one _)) el_api_Digest (by (exact Dig.size _)) 0 rfl (by (rfl)) ?_; clear hst; intro WS1 hst; simp only [List.set_cons_zero, List.set_cons_succ] at hst)))
   refine bp_cell_tmp rfl rfl rfl rfl (hst.get 0 rfl) Tryz.underlying32 rfl el_api_Digest (by (exact Dig.size _)) ?_
   exact ⟨rfl, hst.forget⟩
set_option maxHeartbeats 1000000 in
theorem tfoldM_len (k : Nat) (l : Dig) (A : Option Addr) (m c : Nat) (w : World) (hm : m ≠ 32) (hk : k < 4294967296) :
  Calls Tryz.prog 57 #[.int .i64 (k : Int), l.v, .slice A m c] w fun e w' => e = .returned (.tuple #[zeroD.v, errV 3]) ∧ St w w' [] := by
 have hst := St.refl w
 have HK := Lib.hid (fun w : World => by have h := tkey_any (k : Int) w; rw [decide_eq_true (show 0 ≤ (k : Int) ∧ (k : Int) < 4294967296 by omega)] at h; exact h)
 have h1 : ((m : Int) != 32) = true := by rw [bne_iff_ne]; omega
 clear hm
 go_enter Tryz.func57, Tryz.ntmps57
 go_wp2_with (first | (go_at_call 89; (try clear hnew); refine (HK.out _).mono ?_; rintro e Wk4 ⟨rfl, hnew⟩; replace hst := hst.keep hnew) | (refine L_boxA (d := some 4) rfl rfl rfl (ev_tmp rfl) ?_; (try clear hnew); intro g4 W4 hnew; replace hst := hst.trans hnew; simp only [List.cons_append, List.nil_append] at hst) | (refine L_allocA (d := some 6) rfl rfl rfl el_api_Digest ?_; (try clear hnew); intro g6 W6 hnew; replace hst := hst.trans hnew; simp only [List.cons_append, List.nil_append] at hst) | (refine L_build0 (d := some 18) rfl rfl rfl Tryz.underlying32 el_uint8 el_api_Digest ?_) | (refine wpl_at (.store 32 (.tmp 6) (.tmp 18)) rfl ?_; (refine L_storeA rfl rfl hst rfl (by rfl) (ev_tmp rfl) (by (exact Dig.one _)) el_api_Digest (by (rfl)) 0 rfl (by (rfl)) ?_; clear hst; intro WS2 hst; simp only [List.set_cons_zero, List.set_cons_succ] at hst)))
 refine bp_cell_tmp rfl rfl rfl rfl (hst.get 0 rfl) Tryz.underlying32 rfl el_api_Digest (by (rfl)) ?_
 exact ⟨rfl, hst.forget⟩
set_option maxHeartbeats 2000000 in
set_option maxRecDepth 100000 in
theorem entry_any (s : List UInt8) (d : Dig) (w : World) (hT : Tb w) (hn : s.length ≤ 140737488354000) :
  Calls Tryz.prog 58 #[.string (bsOf s), d.v] w fun e w' => e = .returned (eLeaf (idxN s) d).v ∧ St w w' [] := by
 have hst := St.refl w
 have HT := Lib.hid hT
 have HI := Lib.hid (fun (w' : World) (h : Tb w') => index_any s w' h hn)
 have HL := Lib.hid (fun (w' : World) (h : Tb w') => tleafE_any (idxN s) d w' h (idxN_lt s))
 generalize eLeaf (idxN s) d = r at *
 generalize idxN s = i at *
 clear hT
 go_enter Tryz.func58, Tryz.ntmps58
 go_upto_region 1 with (go_big_may; first | (refine L_boxA (d := some 3) rfl rfl rfl (ev_tmp rfl) ?_; (try clear hnew); intro g3 W3 hnew; replace hst := hst.trans hnew; simp only [List.cons_append, List.nil_append] at hst) | (refine L_allocA (d := some 4) rfl rfl rfl el_api_Digest ?_; (try clear hnew); intro g4 W4 hnew; replace hst := hst.trans hnew; simp only [List.cons_append, List.nil_append] at hst))
 (try simp only [Act.put, List.setIfInBounds_toArray, List.set_cons_succ, List.set_cons_zero])
 go_cut [5] (fun s5 wx => ∃ g5, s5 = .pointer (some ⟨g5, 0, none⟩) ∧ St w wx [.blk g5 32 r.arr, .blk g4 32 zeroD.arr, .blk g3 32 d.arr])
 case first =>
  refine wp_region_pm (.one 0 3 (.one 2 0 (.two 1 2 (.one 3 0 (.two 4 2 (.one 5 3 (.one 6 3 (.one 7 3 (.one 8 2 (.one 9 1 (.one 10 2 .nil)))))) 8 2 (.one 4 2 (.one 5 2 (.one 6 3 (.one 7 3 (.one 9 1 (.one 10 2 .nil)))))))) 8 2 (.one 1 2 (.one 3 2 (.one 4 2 (.one 5 2 (.one 6 3 (.one 7 3 (.one 9 1 (.one 10 2 .nil))))))))))) (by kernel_rfl) (by kernel_rfl) ?_
  replace hst := hst.drew
  refine pm_p rfl rfl ?_; go_wp2_with fail
  refine pm_q rfl rfl ?_; go_wp2_with (((refine L_loadA (d := some 10) rfl rfl rfl (by rfl) Tryz.underlying32 rfl el_api_Digest (by (exact hst.get 1 rfl)) (by (exact Dig.size _)) ?_)))
  refine pm_two (ki := 2) (kj := 2) rfl rfl ?_ ?_
  ·go_wp2_with ((go_at_call 35; (try clear hnew); refine (HI.out _ (HT.out.of hst)).mono ?_; rintro e Wk5 ⟨rfl, hnew⟩; replace hst := hst.keep hnew)); refine ⟨fun _ => (by (exact hnew.below)), ?_⟩
   refine pm_q rfl rfl ?_; go_wp2_with ((refine L_buildE (d := some 11) rfl rfl rfl (ev_tmp rfl) (ev_tmp rfl) ?_))
   refine pm_two (ki := 2) (kj := 2) rfl rfl ?_ ?_
   ·go_wp2_with ((go_at_call 96; (try clear hnew); refine (HL.out _ (HT.out.of hst)).mono ?_; rintro e Wk6 ⟨rfl, hnew⟩; replace hst := hst.keep hnew)); refine ⟨fun _ => (by (exact hnew.below)), ?_⟩
    refine pm_p rfl rfl ?_; go_wp2_with fail
    refine pm_p rfl rfl ?_; go_wp2_with fail
    refine pm_p rfl rfl ?_; go_wp2_with fail
    refine pm_g rfl ?_; go_wp2_with ((refine L_allocA (d := some 5) rfl rfl rfl el_api_Digest ?_; (try clear hnew); intro g5 W5 hnew; replace hst := hst.trans hnew; simp only [List.cons_append, List.nil_append] at hst)); refine ⟨by (exact hnew.below), ?_⟩
    refine pm_e rfl ?_; go_wp2_with ((refine wpl_at (.store 32 (.tmp 5) (.tmp 13)) rfl ?_; (refine L_storeA rfl rfl hst rfl (by rfl) (ev_tmp rfl) (by (exact Dig.one _)) el_api_Digest (by (exact Dig.size _)) 0 rfl (by (rfl)) ?_; clear hst; intro WS9 hst; simp only [List.set_cons_zero, List.set_cons_succ] at hst)))
    refine pm_g rfl ?_; go_wp2_with fail; refine ⟨by (exact Below.refl _ _), ?_⟩
    refine pm_nil ?_
    go_wp2_with fail
    go_meet
    case rel => exact ⟨_, rfl, hst⟩
   ·go_wp2_with ((refine L_allocA (d := some 5) rfl rfl rfl el_api_Digest ?_; (try clear hnew); intro g5 W5 hnew; replace hst := hst.trans hnew; simp only [List.cons_append, List.nil_append] at hst)); refine ⟨fun _ => (by (exact hnew.below)), ?_⟩
    refine pm_g rfl ?_; go_wp2_with ((go_at_call 96; (try clear hnew); refine (HL.out _ (HT.out.of hst)).mono ?_; rintro e Wk6 ⟨rfl, hnew⟩; replace hst := hst.keep hnew)); refine ⟨by (exact hnew.below), ?_⟩
    refine pm_g rfl ?_; go_wp2_with fail; refine ⟨by (exact Below.refl _ _), ?_⟩
    refine pm_p rfl rfl ?_; go_wp2_with fail
    refine pm_p rfl rfl ?_; go_wp2_with fail
    refine pm_e rfl ?_; go_wp2_with ((refine wpl_at (.store 32 (.tmp 5) (.tmp 13)) rfl ?_; (refine L_storeA rfl rfl hst rfl (by rfl) (ev_tmp rfl) (by (exact Dig.one _)) el_api_Digest (by (exact Dig.size _)) 0 rfl (by (rfl)) ?_; clear hst; intro WS9 hst; simp only [List.set_cons_zero, List.set_cons_succ] at hst)))
    refine pm_g rfl ?_; go_wp2_with fail; refine ⟨by (exact Below.refl _ _), ?_⟩
    refine pm_nil ?_
    go_wp2_with fail
    go_meet
    case rel => exact ⟨_, rfl, hst⟩
  ·go_wp2_with ((refine L_allocA (d := some 5) rfl rfl rfl el_api_Digest ?_; (try clear hnew); intro g5 W5 hnew; replace hst := hst.trans hnew; simp only [List.cons_append, List.nil_append] at hst)); refine ⟨fun _ => (by (exact hnew.below)), ?_⟩
   refine pm_g rfl ?_; go_wp2_with ((go_at_call 35; (try clear hnew); refine (HI.out _ (HT.out.of hst)).mono ?_; rintro e Wk5 ⟨rfl, hnew⟩; replace hst := hst.keep hnew)); refine ⟨by (exact hnew.below), ?_⟩
   refine pm_g rfl ?_; go_wp2_with ((refine L_buildE (d := some 11) rfl rfl rfl (ev_tmp rfl) (ev_tmp rfl) ?_)); refine ⟨by (exact Below.refl _ _), ?_⟩
   refine pm_g rfl ?_; go_wp2_with ((go_at_call 96; (try clear hnew); refine (HL.out _ (HT.out.of hst)).mono ?_; rintro e Wk6 ⟨rfl, hnew⟩; replace hst := hst.keep hnew)); refine ⟨by (exact hnew.below), ?_⟩
   refine pm_g rfl ?_; go_wp2_with fail; refine ⟨by (exact Below.refl _ _), ?_⟩
   refine pm_p rfl rfl ?_; go_wp2_with fail
   refine pm_p rfl rfl ?_; go_wp2_with fail
   refine pm_e rfl ?_; go_wp2_with ((refine wpl_at (.store 32 (.tmp 5) (.tmp 13)) rfl ?_; (refine L_storeA rfl rfl hst rfl (by rfl) (ev_tmp rfl) (by (exact Dig.one _)) el_api_Digest (by (exact Dig.size _)) 0 rfl (by (rfl)) ?_; clear hst; intro WS9 hst; simp only [List.set_cons_zero, List.set_cons_succ] at hst)))
   refine pm_g rfl ?_; go_wp2_with fail; refine ⟨by (exact Below.refl _ _), ?_⟩
   refine pm_nil ?_
   go_wp2_with fail
   go_meet
   case rel => exact ⟨_, rfl, hst⟩
 case rest =>
  clear hst
  obtain ⟨g5, rfl, hst⟩ := hcut
  go_wp2_with (first | ((refine L_loadA (d := some 15) rfl rfl rfl (by rfl) Tryz.underlying32 rfl el_api_Digest (by (exact hst.get 0 rfl)) (by (exact Dig.size _)) ?_)) | (refine wpl_at (.store 32 (.tmp 4) (.tmp 15)) rfl ?_; (refine L_storeA rfl rfl hst rfl (by rfl) (ev_tmp rfl) (by (exact Dig.one _)) el_api_Digest (by (exact Dig.size _)) 1 rfl (by (rfl)) ?_; clear hst; intro WS1 hst; simp only [List.set_cons_zero, List.set_cons_succ] at hst)))
  refine bp_cell rfl rfl rfl (hst.get 1 rfl) Tryz.underlying32 rfl el_api_Digest (by (exact Dig.size _)) ?_
  exact ⟨rfl, hst.forget⟩
end Go.Proofs.YtaebeemnipafbaaGreatDoor

set_option maxRecDepth 20000
set_option linter.unusedSimpArgs false
set_option linter.unusedVariables false
namespace Go.Proofs.YtaebeemnipafbaaGreatDoor
open Go.RowKit
def mfE (ps : List Dig) : Nat := if ps.length = 32 then 0 else 3
def mfD (s : List UInt8) (l : Dig) (ps : List Dig) : Dig := if ps.length = 32 then mFold (idxN s) l ps else zeroD
theorem tfoldU_any (s : List UInt8) (l : Dig) (ps : List Dig) (A : Option Addr) (m c : Nat) (w : World) (hT : Tb w) (hx : SlR w A m c 32 (digsL ps)) :
  Calls Tryz.prog 57 #[.int .i64 (idxN s : Int), l.v, .slice A m c] w fun e w' => e = .returned (.tuple #[(mfD s l ps).v, errO (mfE ps)]) ∧ St w w' [] := by
 have hl : ps.length = m := by have := hx.1; rw [length_digsL] at this; omega
 unfold mfD mfE
 by_cases h : ps.length = 32
 ·rw [if_pos h, if_pos h]
  obtain rfl : m = 32 := by omega
  exact tfoldM_any (idxN s) l ps A c w hT hx (idxN_lt s)
 ·rw [if_neg h, if_neg h]
  exact tfoldM_len (idxN s) l A m c w (by omega) (idxN_lt s)
theorem mapTold_iff (y : Dig) (s : List UInt8) (l : Dig) (ps : List Dig) : mapTold y s l ps ↔ mfE ps = 0 ∧ mfD s l ps = y := by
 unfold mapTold mfE mfD
 by_cases h : ps.length = 32
 ·simp [h]
 ·simp [h]
def tfE (i n : Int) (m : Nat) : Nat := if n < 1 ∨ 256 < n ∨ i < 0 ∨ n ≤ i then 2 else if m = longN i.toNat n.toNat then 0 else 3
def tfD (l : Dig) (i n : Int) (p : List Dig) : Dig := if tfE i n p.length = 0 then foldedN l i.toNat n.toNat p else zeroD
theorem treeFoldU_any (l : Dig) (p : List Dig) (A : Option Addr) (m c : Nat) (i n : Int) (w : World) (hT : Tb w) (hx : SlR w A m c 32 (digsL p)) :
  Calls Tryz.prog 59 #[l.v, .int .i64 i, .int .i64 n, .slice A m c] w fun e w' => e = .returned (.tuple #[(tfD l i n p).v, errO (tfE i n p.length)]) ∧ St w w' [] := by
 have hl : p.length = m := by have := hx.1; rw [length_digsL] at this; omega
 unfold tfD
 by_cases h : n < 1 ∨ 256 < n ∨ i < 0 ∨ n ≤ i
 ·have e : tfE i n p.length = 2 := if_pos h
  rw [e]
  exact tFold_range l A m c i n w (by omega)
 ·obtain ⟨a, rfl⟩ := Int.eq_ofNat_of_zero_le (show 0 ≤ i by omega)
  obtain ⟨b, rfl⟩ := Int.eq_ofNat_of_zero_le (show 0 ≤ n by omega)
  by_cases h2 : p.length = longN a b
  ·have e : tfE (a : Int) (b : Int) p.length = 0 := by unfold tfE; rw [if_neg h, Int.toNat_natCast, Int.toNat_natCast, if_pos h2]
   rw [e, if_pos rfl, Int.toNat_natCast, Int.toNat_natCast]
   exact tFold_any l p A m c a b w hT hx (by omega) (by omega) (by omega)
  ·have e : tfE (a : Int) (b : Int) p.length = 3 := by unfold tfE; rw [if_neg h, Int.toNat_natCast, Int.toNat_natCast, if_neg h2]
   rw [e]
   exact tFold_length l A m c a b w (by omega) (by omega) (by omega)
theorem treeTold_iff (n : Int) (x l : Dig) (i : Int) (p : List Dig) : treeTold n x l i p ↔ tfE i n p.length = 0 ∧ tfD l i n p = x := by
 unfold treeTold tfD tfE
 by_cases h : n < 1 ∨ 256 < n ∨ i < 0 ∨ n ≤ i
 ·simp only [if_pos h]
  constructor
  ·rintro ⟨h1, h2, h3, h4, -⟩; omega
  ·rintro ⟨h1, -⟩; cases h1
 ·simp only [if_neg h]
  by_cases h2 : p.length = longN i.toNat n.toNat
  ·simp only [if_pos h2, if_true, true_and]
   exact ⟨fun h3 => h3.2.2.2.2.2, fun h3 => ⟨by omega, by omega, by omega, by omega, h2, h3⟩⟩
  ·simp only [if_neg h2]
   constructor
   ·rintro ⟨-, -, -, -, h3, -⟩; exact absurd h3 h2
   ·rintro ⟨h3, -⟩; cases h3
end Go.Proofs.YtaebeemnipafbaaGreatDoor
