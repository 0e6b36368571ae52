/-
  Proved here, ahead of several laws: contracts of the log, of its looks, of the reference.
-/
import Derived.Test.YtaebeemnipafbaaDoorLawC
import Derived.Test.YtaebeemnipafbaaDoorPkPinHonestA
import Derived.Test.YtaebeemnipafbaaDoorRefNum
import Derived.Test.YtaebeemnipafbaaDoorPkPinHonestB
import Derived.Test.YtaebeemnipafbaaDoorClone
import Derived.Test.YtaebeemnipafbaaDoorSha
import Derived.Test.YtaebeemnipafbaaDoorDigsL
import Derived.Test.YtaebeemnipafbaaDoorOpenH
set_option maxRecDepth 20000
set_option linter.unusedSimpArgs false
set_option linter.unusedVariables false
namespace Go.Proofs.YtaebeemnipafbaaDoor
open Go.RowKit
theorem L_strIx {P : Program} {ops : Array Oper} {rest : List Oper} {o : Oper} {a : Act} {W : World} {Q : Exit → Act → World → Prop} {d : Option Tmp} (hd : o.dst = d) (hw : Region.wanted o (yielded ops a.tmps) = true) {t : TypeId} {x y : Operand} (ho : o.op = .index t x y) (hu : P.underlying t = some .string) {s : ByteArray} (hx : a.eval x = .string s) {k : IntKind} {i : Int} (hy : a.eval y = .int k i) (j : Nat) (hj : i = (j : Int)) {b : UInt8} (hb : s[j]? = some b)
  (h : wpList P ops Q rest (a.put d (.int .u8 (b.toNat : Int))) W) : wpList P ops Q (o :: rest) a W := by
 subst hj
 refine L_val hd hw ?_ h
 unfold execOp
 simp only [ho, hx, hy]
 simp [Instr.index, asIntOf, run_underlying hu, hb]
end Go.Proofs.YtaebeemnipafbaaDoor

set_option maxRecDepth 20000
set_option linter.unusedSimpArgs false
set_option linter.unusedVariables false
namespace Go.Proofs.YtaebeemnipafbaaDoor
open Go.RowKit
theorem bs_at (l : List UInt8) (j : Nat) (h : j < l.length) : (bsOf l)[j]? = some (l.getD j 0) := by
 have h' : j < (bsOf l).size := by rw [bsOf_size]; exact h
 rw [List.getD_eq_getElem?_getD, List.getElem?_eq_getElem h]
 simp [h']
 rfl
theorem dig_slr {W : World} {g t : Nat} {fr : Nat × Nat} {d : Dig} {k : Nat} (hk : k ≤ 32) (h : W.heap[g]? = some (.cells d.arr t fr)) : SlR W (some ⟨g, 0, none⟩) k 32 1 (bytesL (d.l.take k)) :=
 ⟨by rw [length_bytesL, List.length_take, d.h]; omega, hk, by decide, fun _ => ⟨g, 0, rfl, rangeAt_of_cells h (fun j v hv => by
  rw [← Array.getElem?_toList, Dig.toList, Nat.zero_add]
  have hj : j < k := by have := (List.getElem?_eq_some_iff.1 hv).1; rw [length_bytesL, List.length_take, d.h] at this; omega
  rw [getElem?_bytesL] at hv ⊢
  rwa [List.getElem?_take, if_pos hj] at hv)⟩⟩
theorem dig_sl {W : World} {g t : Nat} {fr : Nat × Nat} {d : Dig} (h : W.heap[g]? = some (.cells d.arr t fr)) : SlR W (some ⟨g, 0, none⟩) 32 32 1 d.arr.toList :=
 ⟨by simp [Dig.size], Nat.le_refl _, by decide, fun _ => ⟨g, 0, rfl, rangeAt_of_cells h (fun j v hv => by
  rw [← Array.getElem?_toList, Nat.zero_add]
  exact hv)⟩⟩
theorem isNm_bad {l : List UInt8} {i : Nat} (h : i < l.length) (hb : okB (l.getD i 0) = false) : isNm l = false := by
 have : l.all okB = false := by
  rw [List.all_eq_false]
  refine ⟨l[i], List.getElem_mem h, ?_⟩
  rw [List.getD_eq_getElem?_getD, List.getElem?_eq_getElem h, Option.getD_some] at hb
  simp [hb]
 unfold isNm
 rw [this, Bool.and_false]
theorem all_step {l : List UInt8} {i : Nat} (h : i < l.length) (ha : (l.take i).all okB = true) (hb : okB (l.getD i 0) = true) : (l.take (i + 1)).all okB = true := by
 rw [List.getD_eq_getElem?_getD, List.getElem?_eq_getElem h, Option.getD_some] at hb
 rw [List.take_succ_eq_append_getElem h, List.all_append, ha]
 simp [hb]
set_option maxHeartbeats 2000000 in
theorem risname_any (l : List UInt8) (w : World) (hn : l.length ≤ 140737488355328) : Calls Tryd.prog 31 #[.string (bsOf l)] w fun e w' => e = .returned (.bool (isNm l)) ∧ St w w' [] := by
 have hst := St.refl w
 obtain ⟨n, hn'⟩ : ∃ n, n = l.length := ⟨_, rfl⟩
 have HL := Lib.hid hn'
 have hz : (bsOf l).size = n := by rw [bsOf_size, hn']
 rw [← hn'] at hn
 clear hn'
 go_enter Tryd.func31, Tryd.ntmps31
 go_wp2_with fail
 go_loopg [3, 4] n (fun gk s3 s4 wr => ∃ i : Nat, Hid (i + gk = n) ∧ Hid ((l.take i).all okB = true) ∧ s3 = .int .i64 (i : Int) ∧ St w wr [])
 case atStart => exact ⟨0, Lib.hid (by omega), Lib.hid (by simp), rfl, hst⟩
 case round =>
  clear hst
  obtain ⟨i, HI, HA, rfl, hst⟩ := hrel
  have hi := HI.out
  by_cases hin : i < n
  ·have hil : i < l.length := by rw [← HL.out]; exact hin
   have HC := Lib.hid (bs_at l i hil)
   have HB := Lib.hid (fun h => isNm_bad (l := l) (i := i) hil h)
   have HS := Lib.hid (fun h => all_step (l := l) (i := i) hil HA.out h)
   have HO := Lib.hid (show okB (l.getD i 0) = decide (97 ≤ (l.getD i 0).toNat ∧ (l.getD i 0).toNat ≤ 122 ∨ 48 ≤ (l.getD i 0).toNat ∧ (l.getD i 0).toNat ≤ 57 ∨ (l.getD i 0).toNat = 45) from rfl)
   generalize l.getD i 0 = b at *
   generalize okB b = ob at *
   obtain ⟨x, hx⟩ : ∃ x, x = b.toNat := ⟨_, rfl⟩
   rw [← hx] at HO
   have HX := Lib.hid hx
   clear hil hi hx
   by_cases hok : 97 ≤ x ∧ x ≤ 122 ∨ 48 ≤ x ∧ x ≤ 57 ∨ x = 45
   ·have HS := Lib.hid (HS.out (by rw [HO.out]; exact decide_eq_true hok))
    clear HO HB
    have hok' : (97 ≤ x ∧ x ≤ 122) ∨ (48 ≤ x ∧ x ≤ 57) ∨ x = 45 := by omega
    clear hok
    rcases hok' with ⟨h1, h2⟩ | ⟨h1, h2⟩ | h1
    ·have z1 : ¬ (x : Int) < 97 := by omega
     have z2 : (x : Int) ≤ 122 := by omega
     clear h1 h2
     go_wp2_with ((refine L_strIx (d := some 13) rfl rfl rfl Tryd.underlying9 rfl (by rfl) i rfl HC.out ?_; rw [← HX.out]))
     go_roundg (gk - 1)
     case measure => have hi := HI.out; omega
     case rel => exact ⟨i + 1, Lib.hid (by have := HI.out; omega), HS, by go_num, hst⟩
    ·have z1 : (x : Int) < 97 := by omega
     have z2 : ¬ (x : Int) < 48 := by omega
     have z3 : (x : Int) ≤ 57 := by omega
     clear h1 h2
     go_wp2_with ((refine L_strIx (d := some 13) rfl rfl rfl Tryd.underlying9 rfl (by rfl) i rfl HC.out ?_; rw [← HX.out]))
     go_roundg (gk - 1)
     case measure => have hi := HI.out; omega
     case rel => exact ⟨i + 1, Lib.hid (by have := HI.out; omega), HS, by go_num, hst⟩
    ·subst h1
     go_wp2_with ((refine L_strIx (d := some 13) rfl rfl rfl Tryd.underlying9 rfl (by rfl) i rfl HC.out ?_; rw [← HX.out]))
     go_roundg (gk - 1)
     case measure => have hi := HI.out; omega
     case rel => exact ⟨i + 1, Lib.hid (by have := HI.out; omega), HS, by go_num, hst⟩
   ·have HB := Lib.hid (HB.out (by rw [HO.out]; exact decide_eq_false hok))
    clear HO HS
    have hok' : (122 < x) ∨ (57 < x ∧ x < 97) ∨ (x < 48 ∧ x ≠ 45) := by omega
    clear hok
    rcases hok' with h1 | ⟨h1, h2⟩ | ⟨h1, h2⟩
    ·have z1 : ¬ (x : Int) < 97 := by omega
     have z2 : ¬ (x : Int) ≤ 122 := by omega
     have z3 : ¬ (x : Int) < 48 := by omega
     have z4 : ¬ (x : Int) ≤ 57 := by omega
     have z5 : ((x : Int) == 45) = false := by simp; omega
     clear h1
     go_wp2_with ((refine L_strIx (d := some 13) rfl rfl rfl Tryd.underlying9 rfl (by rfl) i rfl HC.out ?_; rw [← HX.out]))
     go_ret
     exact ⟨by rw [HB.out]; rfl, hst⟩
    ·have z1 : (x : Int) < 97 := by omega
     have z3 : ¬ (x : Int) < 48 := by omega
     have z4 : ¬ (x : Int) ≤ 57 := by omega
     have z5 : ((x : Int) == 45) = false := by simp; omega
     clear h1 h2
     go_wp2_with ((refine L_strIx (d := some 13) rfl rfl rfl Tryd.underlying9 rfl (by rfl) i rfl HC.out ?_; rw [← HX.out]))
     go_ret
     exact ⟨by rw [HB.out]; rfl, hst⟩
    ·have z1 : (x : Int) < 97 := by omega
     have z3 : (x : Int) < 48 := by omega
     have z5 : ((x : Int) == 45) = false := by simp; omega
     clear h1 h2
     go_wp2_with ((refine L_strIx (d := some 13) rfl rfl rfl Tryd.underlying9 rfl (by rfl) i rfl HC.out ?_; rw [← HX.out]))
     go_ret
     exact ⟨by rw [HB.out]; rfl, hst⟩
  ·obtain rfl : i = n := by omega
   have HE := Lib.hid (show isNm l = decide (0 < i ∧ i ≤ 30) by
    have := HA.out
    rw [HL.out, List.take_length] at this
    unfold isNm
    rw [this, Bool.and_true, ← HL.out])
   clear hi HI HA hin
   by_cases h0 : i = 0
   ·subst h0
    go_wp2_with (fail)
    go_ret
    exact ⟨by rw [HE.out]; rfl, hst⟩
   ·have z1 : (0 : Int) < (i : Int) := by omega
    by_cases h30 : i ≤ 30
    ·have z2 : (i : Int) ≤ 30 := by omega
     have HD := Lib.hid (show decide (0 < i ∧ i ≤ 30) = true from decide_eq_true ⟨by omega, h30⟩)
     clear h30 h0
     go_wp2_with (fail)
     go_ret
     exact ⟨by rw [HE.out, HD.out]; rfl, hst⟩
    ·have z2 : ¬ (i : Int) ≤ 30 := by omega
     have HD := Lib.hid (show decide (0 < i ∧ i ≤ 30) = false from decide_eq_false (fun h => h30 h.2))
     clear h30 h0
     go_wp2_with (fail)
     go_ret
     exact ⟨by rw [HE.out, HD.out]; rfl, hst⟩
set_option maxHeartbeats 2000000 in
theorem rindex_any (l : List UInt8) (w : World) (hn : l.length ≤ 140737488354000) : Calls Tryd.prog 21 #[.string (bsOf l)] w fun e w' => e = .returned (.int .i64 ((idxN l : Nat) : Int)) ∧ St w w' [] := by
 have hst := St.refl w
 have hz := bsOf_size l
 have HB := Lib.hid (show [Value.int .u8 12] ++ bytesL l = bytesL (List.cons 12 l) from rfl)
 have HR := Lib.hid (fun (A : Option Addr) (c : Nat) (w' : World) (h : SlR w' A (1 + l.length) c 1 (bytesL (List.cons 12 l))) => rsum_any (List.cons 12 l) A _ c w' h (by omega))
 have HN := Lib.hid (fun (A : Option Addr) (c : Nat) (w' : World) (h : SlR w' A 4 c 1 (bytesL ((sha (List.cons 12 l)).l.take 4))) => rnum_any _ A 4 c w' h (by decide) (by decide))
 have HE := Lib.hid (show natE ((sha (List.cons 12 l)).l.take 4) = idxN l from rfl)
 rw [HE.out] at HN
 generalize idxN l = ix at *
 generalize sha (List.cons 12 l) = dd at *
 generalize List.cons 12 l = all at *
 clear HE
 go_enter Tryd.func21, Tryd.ntmps21
 go_upto_region 1 with (go_big_may; fail)
 go_upto_region 2 with (go_big_may; first | (go_at_call 61; (try clear hnew); refine (HR.out _ _ _ (by rw [← HB.out]; exact hst.sl 1 rfl)).mono ?_; rintro e Wk1 ⟨rfl, hnew⟩; replace hst := hst.keep hnew) | (refine L_buildS (d := some 6) rfl rfl rfl [_] (bs_1 ev_const) rfl Tryd.underlying22 el_uint8 rfl (by (simp [Value.cells]; done)) (by decide) (by decide) ?_; (try clear hnew); intro g6 W6 hnew; replace hst := hst.trans hnew; simp only [List.cons_append, List.nil_append] at hst; simp only [List.flatMap_cons, List.flatMap_nil, List.append_nil, Value.cells, List.toList_toArray] at hst) | (refine L_convSB (d := some 8) rfl rfl rfl (ev_tmp rfl) Tryd.underlying22 Tryd.underlying9 Tryd.underlying5 (by (omega)) ?_; (try clear hnew); intro g8 cap8 ob8 W8 hnew hsb8; replace hst := hst.trans hnew; simp only [List.cons_append, List.nil_append] at hst) | (refine L_appendO (d := some 9) rfl rfl hst rfl (by rfl) (by rfl) Tryd.underlying22 el_uint8 rfl (by decide) (by decide) 1 rfl (by (rfl)) (by (exact hsb8 _ (hst.at_ 0 rfl))) (by (exact oneCell_bytes)) (by omega) ?_; clear hst; intro A9 c9 W9 hst; simp only [List.set_cons_zero, List.set_cons_succ, List.nil_append, Nat.zero_add] at hst) | (refine L_allocA (d := some 3) rfl rfl rfl el_api_Digest ?_; (try clear hnew); intro g3 W3 hnew; replace hst := hst.trans hnew; simp only [List.cons_append, List.nil_append] at hst) | (refine wpl_at (.store 30 (.tmp 3) (.tmp 10)) rfl ?_; (refine L_storeA rfl rfl hst rfl (by rfl) (ev_tmp rfl) (by (exact Dig.one _)) el_api_Digest (by (exact Dig.size _)) 0 rfl (by (rfl)) ?_; clear hst; intro WS6 hst; simp only [List.set_cons_zero, List.set_cons_succ] at hst)))
 clear hnew
 go_upto_region 3 with (go_big_may; (go_at_call 62; (try clear hnew); refine (HN.out _ _ _ (dig_slr (by decide) (hst.get 0 rfl))).mono ?_; rintro e Wk2 ⟨rfl, hnew⟩; replace hst := hst.keep hnew))
 go_wp2_with (fail)
 go_ret
 exact ⟨rfl, hst.forget⟩
set_option maxHeartbeats 1000000 in
theorem rnothing_any (w : World) : Calls Tryd.prog 28 #[] w fun e w' => e = .returned zeroD.v ∧ St w w' [] := by
 have hst := St.refl w
 go_enter Tryd.func28, Tryd.ntmps28
 go_wp2_with (first | (refine L_allocA (d := some 0) rfl rfl rfl el_api_Digest ?_; (try clear hnew); intro g0 W0 hnew; replace hst := hst.trans hnew; simp only [List.cons_append, List.nil_append] at hst) | (refine L_build0 (d := some 1) rfl rfl rfl Tryd.underlying30 el_uint8 el_api_Digest ?_) | (refine wpl_at (.store 30 (.tmp 0) (.tmp 1)) rfl ?_; (refine L_storeA rfl rfl hst rfl (by rfl) (ev_tmp rfl) (by (exact Dig.one _)) el_api_Digest (by (rfl)) 0 rfl (by (rfl)) ?_; clear hst; intro WS1 hst; simp only [List.set_cons_zero, List.set_cons_succ] at hst)))
 refine bp_cell rfl rfl rfl (hst.get 0 rfl) Tryd.underlying30 rfl el_api_Digest (by (rfl)) ?_
 exact ⟨rfl, hst.forget⟩
set_option maxHeartbeats 2000000 in
theorem rmapnode_any (l r : Dig) (w : World) : Calls Tryd.prog 59 #[l.v, r.v] w fun e w' => e = .returned (mNode l r).v ∧ St w w' [] := by
 have hst := St.refl w
 have HO := Lib.hid (fun (A : Option Addr) (c : Nat) (w' : World) (h : SlR w' A 2 c 32 (digsL [l, r])) => rof_any 10 [l, r] A 2 c w' h (by decide))
 have HD := Lib.hid (show digsL [l, r] = l.arr.toList ++ r.arr.toList by simp [digsL, Dig.toList])
 have HZ := Lib.hid (fun w => rnothing_any w)
 have HM := Lib.hid (show mNode l r = if l = zeroD ∧ r = zeroD then zeroD else ofN 10 [l, r] from rfl)
 obtain ⟨q, hq⟩ : ∃ q, q = mNode l r := ⟨_, rfl⟩
 rw [← hq]
 have HQ := Lib.hid hq
 generalize ofN 10 [l, r] = on at *
 generalize digsL [l, r] = dl at *
 clear hq
 by_cases hl : l = zeroD
 ·have HL := Lib.hid (show decide (l = zeroD) = true from decide_eq_true hl)
  by_cases hr : r = zeroD
  ·have HR := Lib.hid (show decide (r = zeroD) = true from decide_eq_true hr)
   have hq2 : q = zeroD := by rw [HQ.out, HM.out, if_pos ⟨hl, hr⟩]
   clear hl hr HO
   generalize zeroD = z0 at *
   go_enter Tryd.func59, Tryd.ntmps59
   go_upto_region 1 with (go_big_may; first | (refine L_boxA (d := some 2) rfl rfl rfl (ev_tmp rfl) ?_; (try clear hnew); intro g2 W2 hnew; replace hst := hst.trans hnew; simp only [List.cons_append, List.nil_append] at hst) | (refine L_boxA (d := some 3) rfl rfl rfl (ev_tmp rfl) ?_; (try clear hnew); intro g3 W3 hnew; replace hst := hst.trans hnew; simp only [List.cons_append, List.nil_append] at hst) | (refine L_allocA (d := some 4) rfl rfl rfl el_api_Digest ?_; (try clear hnew); intro g4 W4 hnew; replace hst := hst.trans hnew; simp only [List.cons_append, List.nil_append] at hst))
   refine wp_region_idx [(0, 0), (1, 2), (2, 2), (3, 2), (4, 0), (5, 2), (6, 2), (7, 2)] (by kernel_rfl) (by kernel_rfl) ?_
   replace hst := hst.drew
   refine idx_q rfl rfl ?_; go_wp2_with (((refine L_loadA (d := some 5) rfl rfl rfl (by rfl) Tryd.underlying30 rfl el_api_Digest (by (exact hst.get 2 rfl)) (by (exact Dig.size _)) ?_)))
   refine idx_g rfl ?_; go_wp2_with ((go_at_call 28; (try clear hnew); refine (HZ.out _).mono ?_; rintro e Wk3 ⟨rfl, hnew⟩; replace hst := hst.keep hnew)); refine ⟨by (exact hnew.below), ?_⟩
   refine idx_g rfl ?_; go_wp2_with ((refine L_eqD (d := some 7) rfl rfl rfl Tryd.underlying30 Tryd.underlying5 el_uint8 eqG_D (ev_tmp rfl) (ev_tmp rfl) ?_; (try rw [HL.out]))); refine ⟨by (exact Below.refl _ _), ?_⟩
   refine idx_g rfl ?_; go_wp2_with fail; refine ⟨by (exact Below.refl _ _), ?_⟩
   refine idx_q rfl rfl ?_; go_wp2_with (((refine L_loadA (d := some 9) rfl rfl rfl (by rfl) Tryd.underlying30 rfl el_api_Digest (by (exact hst.get 1 rfl)) (by (exact Dig.size _)) ?_)))
   refine idx_g rfl ?_; go_wp2_with ((go_at_call 28; (try clear hnew); refine (HZ.out _).mono ?_; rintro e Wk3 ⟨rfl, hnew⟩; replace hst := hst.keep hnew)); refine ⟨by (exact hnew.below), ?_⟩
   refine idx_g rfl ?_; go_wp2_with ((refine L_eqD (d := some 11) rfl rfl rfl Tryd.underlying30 Tryd.underlying5 el_uint8 eqG_D (ev_tmp rfl) (ev_tmp rfl) ?_; (try rw [HR.out]))); refine ⟨by (exact Below.refl _ _), ?_⟩
   refine idx_g rfl ?_; go_wp2_with fail; refine ⟨by (exact Below.refl _ _), ?_⟩
   refine idx_nil ?_
   go_wp2_with (first | (go_at_call 28; (try clear hnew); refine (HZ.out _).mono ?_; rintro e Wk4 ⟨rfl, hnew⟩; replace hst := hst.keep hnew) | (refine wpl_at (.store 30 (.tmp 4) (.tmp 13)) rfl ?_; (refine L_storeA rfl rfl hst rfl (by rfl) (ev_tmp rfl) (by (exact Dig.one _)) el_api_Digest (by (exact Dig.size _)) 0 rfl (by (rfl)) ?_; clear hst; intro WS1 hst; simp only [List.set_cons_zero, List.set_cons_succ] at hst)))
   refine bp_cell rfl rfl rfl (hst.get 0 rfl) Tryd.underlying30 rfl el_api_Digest (by (exact Dig.size _)) ?_
   exact ⟨by rw [hq2], hst.forget⟩
  ·have HR := Lib.hid (show decide (r = zeroD) = false from decide_eq_false hr)
   have hq2 : q = on := by rw [HQ.out, HM.out, if_neg (fun h => hr h.2)]
   clear hl hr
   generalize zeroD = z0 at *
   go_enter Tryd.func59, Tryd.ntmps59
   go_upto_region 1 with (go_big_may; first | (refine L_boxA (d := some 2) rfl rfl rfl (ev_tmp rfl) ?_; (try clear hnew); intro g2 W2 hnew; replace hst := hst.trans hnew; simp only [List.cons_append, List.nil_append] at hst) | (refine L_boxA (d := some 3) rfl rfl rfl (ev_tmp rfl) ?_; (try clear hnew); intro g3 W3 hnew; replace hst := hst.trans hnew; simp only [List.cons_append, List.nil_append] at hst) | (refine L_allocA (d := some 4) rfl rfl rfl el_api_Digest ?_; (try clear hnew); intro g4 W4 hnew; replace hst := hst.trans hnew; simp only [List.cons_append, List.nil_append] at hst))
   refine wp_region_idx [(0, 0), (1, 2), (2, 2), (3, 2), (4, 0), (5, 2), (6, 2), (7, 2)] (by kernel_rfl) (by kernel_rfl) ?_
   replace hst := hst.drew
   refine idx_q rfl rfl ?_; go_wp2_with (((refine L_loadA (d := some 5) rfl rfl rfl (by rfl) Tryd.underlying30 rfl el_api_Digest (by (exact hst.get 2 rfl)) (by (exact Dig.size _)) ?_)))
   refine idx_g rfl ?_; go_wp2_with ((go_at_call 28; (try clear hnew); refine (HZ.out _).mono ?_; rintro e Wk5 ⟨rfl, hnew⟩; replace hst := hst.keep hnew)); refine ⟨by (exact hnew.below), ?_⟩
   refine idx_g rfl ?_; go_wp2_with ((refine L_eqD (d := some 7) rfl rfl rfl Tryd.underlying30 Tryd.underlying5 el_uint8 eqG_D (ev_tmp rfl) (ev_tmp rfl) ?_; (try rw [HL.out]))); refine ⟨by (exact Below.refl _ _), ?_⟩
   refine idx_g rfl ?_; go_wp2_with fail; refine ⟨by (exact Below.refl _ _), ?_⟩
   refine idx_q rfl rfl ?_; go_wp2_with (((refine L_loadA (d := some 9) rfl rfl rfl (by rfl) Tryd.underlying30 rfl el_api_Digest (by (exact hst.get 1 rfl)) (by (exact Dig.size _)) ?_)))
   refine idx_g rfl ?_; go_wp2_with ((go_at_call 28; (try clear hnew); refine (HZ.out _).mono ?_; rintro e Wk5 ⟨rfl, hnew⟩; replace hst := hst.keep hnew)); refine ⟨by (exact hnew.below), ?_⟩
   refine idx_g rfl ?_; go_wp2_with ((refine L_eqD (d := some 11) rfl rfl rfl Tryd.underlying30 Tryd.underlying5 el_uint8 eqG_D (ev_tmp rfl) (ev_tmp rfl) ?_; (try rw [HR.out]))); refine ⟨by (exact Below.refl _ _), ?_⟩
   refine idx_g rfl ?_; go_wp2_with fail; refine ⟨by (exact Below.refl _ _), ?_⟩
   refine idx_nil ?_
   go_wp2_with (first | (go_at_call 86; (try clear hnew); refine (HO.out _ _ _ (by rw [HD.out]; exact hst.sl 0 rfl)).mono ?_; rintro e Wk6 ⟨rfl, hnew⟩; replace hst := hst.keep hnew) | ((refine L_loadA (d := some 14) rfl rfl rfl (by rfl) Tryd.underlying30 rfl el_api_Digest (by (exact hst.get 2 rfl)) (by (exact Dig.size _)) ?_)) | ((refine L_loadA (d := some 15) rfl rfl rfl (by rfl) Tryd.underlying30 rfl el_api_Digest (by (exact hst.get 1 rfl)) (by (exact Dig.size _)) ?_)) | (refine L_buildS (d := some 16) rfl rfl rfl [_, _] (bs_2 (ev_tmp rfl) (ev_tmp rfl)) rfl Tryd.underlying36 el_api_Digest rfl (by (simp [Value.cells, Dig.size]; done)) (by decide) (by decide) ?_; (try clear hnew); intro g16 W16 hnew; replace hst := hst.trans hnew; simp only [List.cons_append, List.nil_append] at hst; simp only [List.flatMap_cons, List.flatMap_nil, List.append_nil, Value.cells, List.toList_toArray] at hst) | (refine wpl_at (.store 30 (.tmp 4) (.tmp 17)) rfl ?_; (refine L_storeA rfl rfl hst rfl (by rfl) (ev_tmp rfl) (by (exact Dig.one _)) el_api_Digest (by (exact Dig.size _)) 1 rfl (by (rfl)) ?_; clear hst; intro WS4 hst; simp only [List.set_cons_zero, List.set_cons_succ] at hst)))
   refine bp_cell rfl rfl rfl (hst.get 1 rfl) Tryd.underlying30 rfl el_api_Digest (by (exact Dig.size _)) ?_
   exact ⟨by rw [hq2], hst.forget⟩
 ·have HL := Lib.hid (show decide (l = zeroD) = false from decide_eq_false hl)
  have hq2 : q = on := by rw [HQ.out, HM.out, if_neg (fun h => hl h.1)]
  clear hl
  generalize zeroD = z0 at *
  go_enter Tryd.func59, Tryd.ntmps59
  go_upto_region 1 with (go_big_may; first | (refine L_boxA (d := some 2) rfl rfl rfl (ev_tmp rfl) ?_; (try clear hnew); intro g2 W2 hnew; replace hst := hst.trans hnew; simp only [List.cons_append, List.nil_append] at hst) | (refine L_boxA (d := some 3) rfl rfl rfl (ev_tmp rfl) ?_; (try clear hnew); intro g3 W3 hnew; replace hst := hst.trans hnew; simp only [List.cons_append, List.nil_append] at hst) | (refine L_allocA (d := some 4) rfl rfl rfl el_api_Digest ?_; (try clear hnew); intro g4 W4 hnew; replace hst := hst.trans hnew; simp only [List.cons_append, List.nil_append] at hst))
  refine wp_region_idx [(0, 0), (1, 2), (2, 2), (3, 2), (4, 0), (5, 2), (6, 2), (7, 2)] (by kernel_rfl) (by kernel_rfl) ?_
  replace hst := hst.drew
  refine idx_q rfl rfl ?_; go_wp2_with (((refine L_loadA (d := some 5) rfl rfl rfl (by rfl) Tryd.underlying30 rfl el_api_Digest (by (exact hst.get 2 rfl)) (by (exact Dig.size _)) ?_)))
  refine idx_g rfl ?_; go_wp2_with ((go_at_call 28; (try clear hnew); refine (HZ.out _).mono ?_; rintro e Wk7 ⟨rfl, hnew⟩; replace hst := hst.keep hnew)); refine ⟨by (exact hnew.below), ?_⟩
  refine idx_g rfl ?_; go_wp2_with ((refine L_eqD (d := some 7) rfl rfl rfl Tryd.underlying30 Tryd.underlying5 el_uint8 eqG_D (ev_tmp rfl) (ev_tmp rfl) ?_; (try rw [HL.out]))); refine ⟨by (exact Below.refl _ _), ?_⟩
  refine idx_g rfl ?_; go_wp2_with fail; refine ⟨by (exact Below.refl _ _), ?_⟩
  refine idx_q rfl rfl ?_; go_wp2_with ((refine L_un (t := 9) rfl (by rfl) rfl ?_))
  refine idx_g rfl ?_; go_wp2_with ((refine L_un (t := 10) rfl (by rfl) rfl ?_)); refine ⟨by (exact Below.refl _ _), ?_⟩
  refine idx_g rfl ?_; go_wp2_with ((refine L_un (t := 11) rfl (by rfl) rfl ?_)); refine ⟨by (exact Below.refl _ _), ?_⟩
  refine idx_g rfl ?_; go_wp2_with fail; refine ⟨by (exact Below.refl _ _), ?_⟩
  refine idx_nil ?_
  go_wp2_with (first | (go_at_call 86; (try clear hnew); refine (HO.out _ _ _ (by rw [HD.out]; exact hst.sl 0 rfl)).mono ?_; rintro e Wk8 ⟨rfl, hnew⟩; replace hst := hst.keep hnew) | ((refine L_loadA (d := some 14) rfl rfl rfl (by rfl) Tryd.underlying30 rfl el_api_Digest (by (exact hst.get 2 rfl)) (by (exact Dig.size _)) ?_)) | ((refine L_loadA (d := some 15) rfl rfl rfl (by rfl) Tryd.underlying30 rfl el_api_Digest (by (exact hst.get 1 rfl)) (by (exact Dig.size _)) ?_)) | (refine L_buildS (d := some 16) rfl rfl rfl [_, _] (bs_2 (ev_tmp rfl) (ev_tmp rfl)) rfl Tryd.underlying36 el_api_Digest rfl (by (simp [Value.cells, Dig.size]; done)) (by decide) (by decide) ?_; (try clear hnew); intro g16 W16 hnew; replace hst := hst.trans hnew; simp only [List.cons_append, List.nil_append] at hst; simp only [List.flatMap_cons, List.flatMap_nil, List.append_nil, Value.cells, List.toList_toArray] at hst) | (refine wpl_at (.store 30 (.tmp 4) (.tmp 17)) rfl ?_; (refine L_storeA rfl rfl hst rfl (by rfl) (ev_tmp rfl) (by (exact Dig.one _)) el_api_Digest (by (exact Dig.size _)) 1 rfl (by (rfl)) ?_; clear hst; intro WS4 hst; simp only [List.set_cons_zero, List.set_cons_succ] at hst)))
  refine bp_cell rfl rfl rfl (hst.get 1 rfl) Tryd.underlying30 rfl el_api_Digest (by (exact Dig.size _)) ?_
  exact ⟨by rw [hq2], hst.forget⟩
set_option maxHeartbeats 2000000 in
theorem rentryleaf_any (k : Nat) (v : Dig) (w : World) (hk : k < 4294967296) : Calls Tryd.prog 58 #[.agg (prArr (k : Int) v)] w fun e w' => e = .returned (eLeaf k v).v ∧ St w w' [] := by
 have hst := St.refl w
 have HP := Lib.hid (fun w => rput_any k 4 w (by decide) (by decide) (by omega))
 have HB := Lib.hid (show [Value.int .u8 9] ++ bytesL (bigE 4 k) ++ v.arr.toList = bytesL (List.cons 9 (bigE 4 k ++ v.l)) by rw [show [Value.int .u8 9] = bytesL [9] from rfl, Dig.toList, ← bytesL_append, ← bytesL_append]; rfl)
 have HE := Lib.hid (show eLeaf k v = sha (List.cons 9 (bigE 4 k ++ v.l)) from rfl)
 have HS := Lib.hid (fun (A : Option Addr) (n c : Nat) (w' : World) (h : SlR w' A n c 1 (bytesL (List.cons 9 (bigE 4 k ++ v.l)))) (hn : n ≤ 100) => rsum_any _ A n c w' h (by omega))
 rw [← HE.out] at HS
 generalize eLeaf k v = el at *
 generalize List.cons 9 (bigE 4 k ++ v.l) = all at *
 generalize bigE 4 k = bk at *
 clear HE
 go_enter Tryd.func58, Tryd.ntmps58
 go_upto_region 1 with (go_big_may; first | (refine L_boxA (d := some 1) rfl rfl rfl (ev_tmp rfl) ?_; (try clear hnew); intro g1 W1 hnew; replace hst := hst.trans hnew; simp only [List.cons_append, List.nil_append] at hst) | (refine L_allocA (d := some 2) rfl rfl rfl el_api_Digest ?_; (try clear hnew); intro g2 W2 hnew; replace hst := hst.trans hnew; simp only [List.cons_append, List.nil_append] at hst))
 go_upto_region 2 with (go_big_may; first | (go_at_call 85; (try clear hnew); refine (HP.out _).mono ?_; rintro e Wp ⟨Op, rfl, hnew⟩; replace hst := hst.trans hnew; simp only [List.cons_append, List.nil_append] at hst) | (refine L_load1 (d := some 8) rfl rfl rfl (by rfl) Tryd.underlying3 rfl (by (exact cell_of (hst.get 1 rfl) prArr_0)) ?_))
 go_upto_region 3 with (go_big_may; first | ((refine L_loadM (d := some 13) rfl rfl rfl (by rfl) Tryd.underlying30 rfl el_api_Digest (by (exact prArr_range (hst.get 2 rfl))) (by (exact Dig.size _)) ?_)) | (refine L_allocA (d := some 5) rfl rfl rfl el_api_Digest ?_; (try clear hnew); intro g5 W5 hnew; replace hst := hst.trans hnew; simp only [List.cons_append, List.nil_append] at hst) | (refine wpl_at (.store 30 (.tmp 5) (.tmp 13)) rfl ?_; (refine L_storeA rfl rfl hst rfl (by rfl) (ev_tmp rfl) (by (exact Dig.one _)) el_api_Digest (by (exact Dig.size _)) 0 rfl (by (rfl)) ?_; clear hst; intro WS3 hst; simp only [List.set_cons_zero, List.set_cons_succ] at hst)))
 clear hnew
 refine wp_region_pm (.one 1 3 (.two 0 2 (.two 2 1 (.one 3 2 (.one 4 1 (.one 5 2 (.one 6 1 .nil)))) 3 2 (.one 2 1 (.one 4 1 (.one 5 2 (.one 6 1 .nil))))) 3 2 (.one 0 2 (.one 2 1 (.one 4 1 (.one 5 2 (.one 6 1 .nil))))))) (by kernel_rfl) (by kernel_rfl) ?_
 replace hst := hst.drew
 refine pm_p rfl rfl ?_; go_wp2_with fail
 refine pm_two (ki := 2) (kj := 2) rfl rfl ?_ ?_
 ·go_wp2_with ((refine L_buildS (d := some 14) rfl rfl rfl [_] (bs_1 ev_const) rfl Tryd.underlying22 el_uint8 rfl (by (simp [Value.cells]; done)) (by decide) (by decide) ?_; (try clear hnew); intro g14 W14 hnew; replace hst := hst.trans hnew; simp only [List.cons_append, List.nil_append] at hst; simp only [List.flatMap_cons, List.flatMap_nil, List.append_nil, Value.cells, List.toList_toArray] at hst)); refine ⟨fun _ => (by (exact hnew.below)), ?_⟩
  refine pm_two (ki := 1) (kj := 2) rfl rfl ?_ ?_
  ·go_wp2_with ((refine L_appendO (d := some 16) rfl rfl hst rfl (by rfl) (by rfl) Tryd.underlying22 el_uint8 rfl (by decide) (by decide) 0 rfl (by (rfl)) (by (exact hst.sl 2 rfl)) (by (exact oneCell_bytes)) (by omega) ?_; clear hst; intro A16 c16 W16 hst; simp only [List.set_cons_zero, List.set_cons_succ, List.nil_append, Nat.zero_add] at hst)); refine ⟨fun h => absurd h (by decide), ?_⟩
   refine pm_g rfl ?_; go_wp2_with ((refine L_sliceAll (d := some 17) rfl rfl rfl (by rfl) Tryd.underlying30 el_uint8 (by (exact hst.get 1 rfl)) (by (exact Dig.size _)) (by decide) ?_; intro hs17)); refine ⟨by (exact Below.refl _ _), ?_⟩
   refine pm_e rfl ?_; go_wp2_with ((refine L_appendO (d := some 18) rfl rfl hst rfl (by rfl) (by rfl) Tryd.underlying22 el_uint8 rfl (by decide) (by decide) 0 rfl (by (rfl)) (by (exact dig_sl (hst.get 1 rfl))) (by (exact oneCell_bytes)) (by omega) ?_; clear hst; intro A18 c18 W18 hst; simp only [List.set_cons_zero, List.set_cons_succ, List.nil_append, Nat.zero_add] at hst))
   refine pm_g rfl ?_; go_wp2_with ((go_at_call 61; (try clear hnew); refine (HS.out _ _ _ _ (by rw [← HB.out]; exact hst.sl 0 rfl) (by decide)).mono ?_; rintro e Wk9 ⟨rfl, hnew⟩; replace hst := hst.keep hnew)); refine ⟨by (exact hnew.below), ?_⟩
   refine pm_e rfl ?_; go_wp2_with ((refine wpl_at (.store 30 (.tmp 2) (.tmp 19)) rfl ?_; (refine L_storeA rfl rfl hst rfl (by rfl) (ev_tmp rfl) (by (exact Dig.one _)) el_api_Digest (by (exact Dig.size _)) 3 rfl (by (rfl)) ?_; clear hst; intro WS6 hst; simp only [List.set_cons_zero, List.set_cons_succ] at hst)))
   refine pm_nil ?_
   go_wp2_with fail
   refine bp_cell rfl rfl rfl (hst.get 3 rfl) Tryd.underlying30 rfl el_api_Digest (by (exact Dig.size _)) ?_
   exact ⟨rfl, hst.forget⟩
  ·go_wp2_with ((refine L_sliceAll (d := some 17) rfl rfl rfl (by rfl) Tryd.underlying30 el_uint8 (by (exact hst.get 1 rfl)) (by (exact Dig.size _)) (by decide) ?_; intro hs17)); refine ⟨fun _ => (by (exact Below.refl _ _)), ?_⟩
   refine pm_e rfl ?_; go_wp2_with ((refine L_appendO (d := some 16) rfl rfl hst rfl (by rfl) (by rfl) Tryd.underlying22 el_uint8 rfl (by decide) (by decide) 0 rfl (by (rfl)) (by (exact hst.sl 2 rfl)) (by (exact oneCell_bytes)) (by omega) ?_; clear hst; intro A16 c16 W16 hst; simp only [List.set_cons_zero, List.set_cons_succ, List.nil_append, Nat.zero_add] at hst))
   refine pm_e rfl ?_; go_wp2_with ((refine L_appendO (d := some 18) rfl rfl hst rfl (by rfl) (by rfl) Tryd.underlying22 el_uint8 rfl (by decide) (by decide) 0 rfl (by (rfl)) (by (exact dig_sl (hst.get 1 rfl))) (by (exact oneCell_bytes)) (by omega) ?_; clear hst; intro A18 c18 W18 hst; simp only [List.set_cons_zero, List.set_cons_succ, List.nil_append, Nat.zero_add] at hst))
   refine pm_g rfl ?_; go_wp2_with ((go_at_call 61; (try clear hnew); refine (HS.out _ _ _ _ (by rw [← HB.out]; exact hst.sl 0 rfl) (by decide)).mono ?_; rintro e Wk9 ⟨rfl, hnew⟩; replace hst := hst.keep hnew)); refine ⟨by (exact hnew.below), ?_⟩
   refine pm_e rfl ?_; go_wp2_with ((refine wpl_at (.store 30 (.tmp 2) (.tmp 19)) rfl ?_; (refine L_storeA rfl rfl hst rfl (by rfl) (ev_tmp rfl) (by (exact Dig.one _)) el_api_Digest (by (exact Dig.size _)) 3 rfl (by (rfl)) ?_; clear hst; intro WS6 hst; simp only [List.set_cons_zero, List.set_cons_succ] at hst)))
   refine pm_nil ?_
   go_wp2_with fail
   refine bp_cell rfl rfl rfl (hst.get 3 rfl) Tryd.underlying30 rfl el_api_Digest (by (exact Dig.size _)) ?_
   exact ⟨rfl, hst.forget⟩
 ·go_wp2_with ((refine L_sliceAll (d := some 17) rfl rfl rfl (by rfl) Tryd.underlying30 el_uint8 (by (exact hst.get 0 rfl)) (by (exact Dig.size _)) (by decide) ?_; intro hs17)); refine ⟨fun _ => (by (exact Below.refl _ _)), ?_⟩
  refine pm_g rfl ?_; go_wp2_with ((refine L_buildS (d := some 14) rfl rfl rfl [_] (bs_1 ev_const) rfl Tryd.underlying22 el_uint8 rfl (by (simp [Value.cells]; done)) (by decide) (by decide) ?_; (try clear hnew); intro g14 W14 hnew; replace hst := hst.trans hnew; simp only [List.cons_append, List.nil_append] at hst; simp only [List.flatMap_cons, List.flatMap_nil, List.append_nil, Value.cells, List.toList_toArray] at hst)); refine ⟨by (exact hnew.below), ?_⟩
  refine pm_e rfl ?_; go_wp2_with ((refine L_appendO (d := some 16) rfl rfl hst rfl (by rfl) (by rfl) Tryd.underlying22 el_uint8 rfl (by decide) (by decide) 0 rfl (by (rfl)) (by (exact hst.sl 2 rfl)) (by (exact oneCell_bytes)) (by omega) ?_; clear hst; intro A16 c16 W16 hst; simp only [List.set_cons_zero, List.set_cons_succ, List.nil_append, Nat.zero_add] at hst))
  refine pm_e rfl ?_; go_wp2_with ((refine L_appendO (d := some 18) rfl rfl hst rfl (by rfl) (by rfl) Tryd.underlying22 el_uint8 rfl (by decide) (by decide) 0 rfl (by (rfl)) (by (exact dig_sl (hst.get 1 rfl))) (by (exact oneCell_bytes)) (by omega) ?_; clear hst; intro A18 c18 W18 hst; simp only [List.set_cons_zero, List.set_cons_succ, List.nil_append, Nat.zero_add] at hst))
  refine pm_g rfl ?_; go_wp2_with ((go_at_call 61; (try clear hnew); refine (HS.out _ _ _ _ (by rw [← HB.out]; exact hst.sl 0 rfl) (by decide)).mono ?_; rintro e Wk9 ⟨rfl, hnew⟩; replace hst := hst.keep hnew)); refine ⟨by (exact hnew.below), ?_⟩
  refine pm_e rfl ?_; go_wp2_with ((refine wpl_at (.store 30 (.tmp 2) (.tmp 19)) rfl ?_; (refine L_storeA rfl rfl hst rfl (by rfl) (ev_tmp rfl) (by (exact Dig.one _)) el_api_Digest (by (exact Dig.size _)) 3 rfl (by (rfl)) ?_; clear hst; intro WS6 hst; simp only [List.set_cons_zero, List.set_cons_succ] at hst)))
  refine pm_nil ?_
  go_wp2_with fail
  refine bp_cell rfl rfl rfl (hst.get 3 rfl) Tryd.underlying30 rfl el_api_Digest (by (exact Dig.size _)) ?_
  exact ⟨rfl, hst.forget⟩
set_option maxHeartbeats 4000000 in
set_option maxRecDepth 100000 in
theorem rnoteB_any (n : NoteN) (w : World) (h : noteOk n = true) :
  Calls Tryd.prog 46 #[.agg (ntArr n.name n.key n.turn)] w fun e w' => ∃ A c, e = .returned (.tuple #[.slice A (noteB n).length c, .int .i64 0]) ∧ St w w' [.row A (noteB n).length c 5 1 (bytesL (noteB n))] := by
 have hst := St.refl w
 have h' := h
 unfold noteOk at h'
 rw [Bool.and_eq_true] at h'
 obtain ⟨h1, h3⟩ := h'
 have h2 := of_decide_eq_true h3
 clear h3
 have hl := isNm_len h1
 have HN := Lib.hid (fun w => by have := risname_any n.name w (by omega); rw [h1] at this; exact this)
 obtain ⟨t, ht⟩ := Int.eq_ofNat_of_zero_le h2.1
 have hB := length_noteB n
 have HBB := Lib.hid (show bytesL (noteB n) = bytesL (UInt8.ofNat n.name.length :: n.name) ++ n.key.arr.toList ++ bytesL (bigE 4 t) by rw [noteB, ht, Dig.toList, ← bytesL_append, ← bytesL_append]; simp)
 have HP := Lib.hid (fun w : World => by
  have := rput_any t 4 w (by decide) (by decide) (by omega)
  rw [show (((t >>> (8 * 4) : Nat) : Int) == 0) = true by rw [Nat.shiftRight_eq_div_pow, Nat.div_eq_of_lt (by omega)]; rfl] at this
  exact this)
 generalize noteB n = bs at *
 obtain ⟨s, k, m⟩ := n
 simp only at *
 obtain ⟨z, hz'⟩ : ∃ z, z = s.length := ⟨_, rfl⟩
 have HZ := Lib.hid hz'
 have HL := Lib.hid (len_byte s.length (by omega))
 have hz : (bsOf s).size = z := by rw [bsOf_size, hz']
 rw [← hz'] at hl hB
 have HBl := Lib.hid hB
 clear hB hz'
 subst ht
 clear h h1 h2
 go_enter Tryd.func46, Tryd.ntmps46
 go_upto_region 1 with (go_big_may; (refine L_boxA (d := some 1) rfl rfl rfl (ev_tmp rfl) ?_; (try clear hnew); intro g1 W1 hnew; replace hst := hst.trans hnew; simp only [List.cons_append, List.nil_append] at hst))
 go_upto_region 3 with (go_big_may; first | (go_at_call 31; (try clear hnew); refine (HN.out _).mono ?_; rintro e Wk10 ⟨rfl, hnew⟩; replace hst := hst.keep hnew) | (refine L_load1 (d := some 10) rfl rfl rfl (by rfl) Tryd.underlying9 rfl (by (exact cell_of (hst.get 0 rfl) ntArr_0)) ?_))
 go_upto_region 4 with (go_big_may; first | (go_at_call 85; (try clear hnew); refine (HP.out _).mono ?_; rintro e Wp ⟨Op, rfl, hnew⟩; replace hst := hst.trans hnew; simp only [List.cons_append, List.nil_append] at hst; clear hnew) | (refine L_load1 (d := some 15) rfl rfl rfl (by rfl) Tryd.underlying3 rfl (by (exact cell_of (hst.get 0 rfl) ntArr_33)) ?_))
 go_upto_region 6 with (go_big_may; fail)
 go_upto_region 7 with (go_big_may; first | (refine L_load1 (d := some 22) rfl rfl rfl (by rfl) Tryd.underlying9 rfl (by (exact cell_of (hst.get 1 rfl) ntArr_0)) ?_) | (refine L_buildS (d := some 25) rfl rfl rfl [_] (bs_1 (ev_tmp rfl)) rfl Tryd.underlying22 el_uint8 rfl (by (simp [Value.cells]; done)) (by decide) (by decide) ?_; (try clear hnew); intro g25 W25 hnew; replace hst := hst.trans hnew; simp only [List.cons_append, List.nil_append] at hst; simp only [List.flatMap_cons, List.flatMap_nil, List.append_nil, Value.cells, List.toList_toArray] at hst))
 have HU := Lib.hid (show [Value.int .u8 (z : Int)] = bytesL (UInt8.ofNat s.length :: s.take 0) from by
  have h1 : (UInt8.ofNat s.length).toNat = z := by rw [UInt8.toNat_ofNat', ← HZ.out]; omega
  simp [bytesL, byteV, h1])
 rw [HU.out] at hst
 clear hnew HU HP HN
 go_wp2_with fail
 go_loopg [6, 7] z (fun gk s6 s7 wr => ∃ (i : Nat) (O : Option Addr) (oc : Nat), Hid (i + gk = z) ∧ s6 = .slice O (1 + i) oc ∧ s7 = .int .i64 (i : Int) ∧ St w wr [.row O (1 + i) oc 5 1 (bytesL (UInt8.ofNat s.length :: s.take i)), .row Op 4 4 5 1 (bytesL (bigE 4 t)), .blk g1 35 (ntArr s k (t : Int))])
 case atStart => exact ⟨0, g25, 1, Lib.hid (by omega), rfl, rfl, hst⟩
 case round =>
  clear hst
  obtain ⟨i, O, oc, HI, rfl, rfl, hst⟩ := hrel
  have hi := HI.out
  by_cases hin : i < z
  ·have hil : i < s.length := by rw [← HZ.out]; exact hin
   have HC := Lib.hid (bs_at s i hil)
   have HE := Lib.hid (show bytesL (UInt8.ofNat s.length :: s.take i) ++ [Value.int .u8 ((s.getD i 0).toNat : Int)] = bytesL (UInt8.ofNat s.length :: s.take (i + 1)) by
    rw [List.take_succ_eq_append_getElem hil, List.getD_eq_getElem?_getD, List.getElem?_eq_getElem hil, Option.getD_some, ← List.cons_append, bytesL_append]
    rfl)
   generalize s.getD i 0 = b at *
   have hi30 : i ≤ 30 := by omega
   clear hil hi
   go_upto_region 10 with (go_big_may; (refine L_load1 (d := some 28) rfl rfl rfl (by rfl) Tryd.underlying9 rfl (by (exact cell_of (hst.get 2 rfl) ntArr_0)) ?_))
   go_upto_region 9 with (go_big_may; first | (refine L_strIx (d := some 37) rfl rfl rfl Tryd.underlying9 rfl (by rfl) i rfl HC.out ?_) | (refine L_load1 (d := some 35) rfl rfl rfl (by rfl) Tryd.underlying9 rfl (by (exact cell_of (hst.get 2 rfl) ntArr_0)) ?_) | (refine L_buildS (d := some 38) rfl rfl rfl [_] (bs_1 (ev_tmp rfl)) rfl Tryd.underlying22 el_uint8 rfl (by (simp [Value.cells]; done)) (by decide) (by decide) ?_; (try clear hnew); intro g38 W38 hnew; replace hst := hst.trans hnew; simp only [List.cons_append, List.nil_append] at hst; simp only [List.flatMap_cons, List.flatMap_nil, List.append_nil, Value.cells, List.toList_toArray] at hst) | (refine L_appendO (d := some 39) rfl rfl hst rfl (by rfl) (by rfl) Tryd.underlying22 el_uint8 rfl (by decide) (by decide) 1 rfl (by (rfl)) (by (exact hst.sl 0 rfl)) (by (simp [Value.oneCell']; done)) (by omega) ?_; clear hst; intro A39 c39 W39 hst; simp only [List.set_cons_zero, List.set_cons_succ, List.nil_append, Nat.zero_add] at hst))
   go_wp2_with (fail)
   rw [HE.out] at hst
   go_roundg (gk - 1)
   case measure => have := HI.out; omega
   case rel => exact ⟨i + 1, _, _, Lib.hid (by have := HI.out; omega), rfl, by go_num, hst.pick [1, 2, 3] (by decide)⟩
  ·obtain rfl : i = z := by omega
   have HE := Lib.hid (show s.take i = s by rw [HZ.out, List.take_length])
   rw [HE.out] at hst
   clear hi HI hin HE
   go_upto_region 11 with (go_big_may; (refine L_load1 (d := some 28) rfl rfl rfl (by rfl) Tryd.underlying9 rfl (by (exact cell_of (hst.get 2 rfl) ntArr_0)) ?_))
   go_upto_region 12 with (go_big_may; first | ((refine L_loadM (d := some 41) rfl rfl rfl (by rfl) Tryd.underlying30 rfl el_api_Digest (by (exact ntArr_key (hst.get 2 rfl))) (by (exact Dig.size _)) ?_)) | (refine L_allocA (d := some 8) rfl rfl rfl el_api_Digest ?_; (try clear hnew); intro g8 W8 hnew; replace hst := hst.trans hnew; simp only [List.cons_append, List.nil_append] at hst) | (refine wpl_at (.store 30 (.tmp 8) (.tmp 41)) rfl ?_; (refine L_storeA rfl rfl hst rfl (by rfl) (ev_tmp rfl) (by (exact Dig.one _)) el_api_Digest (by (exact Dig.size _)) 0 rfl (by (rfl)) ?_; clear hst; intro WS3 hst; simp only [List.set_cons_zero, List.set_cons_succ] at hst)))
   go_upto_region 13 with (go_big_may; first | (refine L_sliceAll (d := some 43) rfl rfl rfl (by rfl) Tryd.underlying30 el_uint8 (by (exact hst.get 0 rfl)) (by (exact Dig.size _)) (by decide) ?_; intro hs43) | (refine L_appendO (d := some 44) rfl rfl hst rfl (by rfl) (by rfl) Tryd.underlying22 el_uint8 rfl (by decide) (by decide) 1 rfl (by (rfl)) (by (assumption)) (by (exact oneCell_bytes)) (by omega) ?_; clear hst; intro A44 c44 W44 hst; simp only [List.set_cons_zero, List.set_cons_succ, List.nil_append, Nat.zero_add] at hst))
   go_wp2_with ((refine L_appendO (d := some 47) rfl rfl hst rfl (by rfl) (by rfl) Tryd.underlying22 el_uint8 rfl (by decide) (by decide) 1 rfl (by (rfl)) (by (exact hst.sl 2 rfl)) (by (exact oneCell_bytes)) (by omega) ?_; clear hst; intro A47 c47 W47 hst; simp only [List.set_cons_zero, List.set_cons_succ, List.nil_append, Nat.zero_add] at hst))
   go_ret2
   rw [HBl.out, show i + 37 = 1 + i + 32 + 4 by omega, HBB.out]
   exact ⟨_, _, rfl, hst.pick [1] (by decide)⟩
end Go.Proofs.YtaebeemnipafbaaDoor

set_option maxRecDepth 20000
set_option linter.unusedSimpArgs false
set_option linter.unusedVariables false
namespace Go.Proofs.YtaebeemnipafbaaDoor
open Go.RowKit
section
variable {P : Program} {t td e8 : TypeId} {zd : Value} {bd : Nat} {z8 : Value} {b8 : Nat}
theorem run_eqStrD (dd : Nat) {t : TypeId} (ht : P.underlying t = some .string) (s u : List UInt8) (W : World) : (Op.equalIn (dd + 1) t (.string (bsOf s)) (.string (bsOf u))).run P W = .ok (decide (s = u)) W := by
 have := run_equalIn_string (P := P) W dd t (bsOf s) (bsOf u) ht
 rw [bsOf_toList, bsOf_toList] at this
 rw [this]
 congr 1
 by_cases h : s = u <;> simp [h]
theorem run_eqNote {f0 f1 f2 : Field} (hS0 : P.underlying t = some (.struct #[f0, f1, f2])) (hp : P.stoodInHeld t = false) (n0 : f0.name ≠ "_") (n1 : f1.name ≠ "_") (n2 : f2.name ≠ "_")
  (hs : P.underlying f0.type = some .string) (h1 : f1.type = td) (hi : P.underlying f2.type = some (.int .i64)) (o0 : f0.offset = 0) (o1 : f1.offset = 1) (o2 : f2.offset = 33)
  (ht : P.underlying td = some (.array 32 e8)) (hd : ElemIs P td zd 32 bd) (he : P.underlying e8 = some (.int .u8)) (h8 : ElemIs P e8 z8 1 b8) (s u : List UInt8) (k d : Dig) (n m : Int) (w : World) :
  (Op.equalIn 10000 t (.agg (ntArr s k n)) (.agg (ntArr u d m))).run P w = .ok (decide (s = u ∧ k = d ∧ n = m)) w := by
 have hFo : P.fieldsOf t = #[f0, f1, f2] := by unfold Program.fieldsOf; rw [hS0]
 rw [show (10000 : Nat) = 9999 + 1 from rfl, run_equalIn_agg w 9999 t _ _ (by rw [hFo]; exact hS0) hp, hFo]
 have i0 := run_part1 (P := P) (d := .string) hs rfl (ntArr_0 (s := s) (k := k) (n := n)) w
 have j0 := run_part1 (P := P) (d := .string) hs rfl (ntArr_0 (s := u) (k := d) (n := m)) w
 have i1 := run_partD ht hd (ntArr_part s k n) w
 have j1 := run_partD ht hd (ntArr_part u d m) w
 have i2 := run_part1 (P := P) (d := .int .i64) hi rfl (ntArr_33 (s := s) (k := k) (n := n)) w
 have j2 := run_part1 (P := P) (d := .int .i64) hi rfl (ntArr_33 (s := u) (k := d) (n := m)) w
 have e0 : (Op.equalIn 9999 f0.type (.string (bsOf s)) (.string (bsOf u))).run P w = .ok (decide (s = u)) w := run_eqStrD (P := P) 9998 hs s u w
 have e1 : (Op.equalIn 9999 td (.agg k.arr) (.agg d.arr)).run P w = .ok (decide (k = d)) w := run_eqDig (P := P) 9997 ht he h8 k d w
 have e2 : (Op.equalIn 9999 f2.type (.int .i64 n) (.int .i64 m)).run P w = .ok (n == m) w := run_equalIn_int w 9998 f2.type .i64 .i64 n m hi
 simp only [Op.eqFields, n0, n1, n2, ne_eq, not_false_eq_true, if_true, h1, o0, o1, o2, Sem.run_bind, i0, i1, i2, j0, j1, j2, e0, Result.andThen_ok, e1, e2]
 by_cases a0 : s = u
 ·rw [decide_eq_true a0]
  simp only [Bool.not_true, Bool.false_eq_true, if_false, Sem.run_bind, i1, j1, i2, j2, Result.andThen_ok, e1, e2]
  by_cases a1 : k = d
  ·rw [decide_eq_true a1]
   simp only [Bool.not_true, Bool.false_eq_true, if_false, Sem.run_bind, i2, j2, Result.andThen_ok, e2]
   by_cases a2 : n = m <;> simp [a0, a1, a2]
  ·rw [decide_eq_false a1]
   simp [a1]
 ·rw [decide_eq_false a0]
  simp [a0]
end
theorem eqG_Note : Tryd.prog.eqGuardType Tryd.prog.depth 35 = false := by kernel_rfl
theorem eqNote (s u : List UInt8) (k d : Dig) (n m : Int) (w : World) : (Op.equalIn 10000 35 (.agg (ntArr s k n)) (.agg (ntArr u d m))).run Tryd.prog w = .ok (decide (s = u ∧ k = d ∧ n = m)) w :=
 run_eqNote Tryd.underlying35 (by kernel_rfl) (by decide) (by decide) (by decide) Tryd.underlying9 rfl Tryd.underlying3 rfl rfl rfl Tryd.underlying30 el_api_Digest Tryd.underlying5 el_uint8 s u k d n m w
theorem eqG_Contact : Tryd.prog.eqGuardType Tryd.prog.depth 138 = false := by kernel_rfl
theorem eqContact (s u : List UInt8) (k d : Dig) (n m : Int) (w : World) : (Op.equalIn 10000 138 (.agg (ntArr s k n)) (.agg (ntArr u d m))).run Tryd.prog w = .ok (decide (s = u ∧ k = d ∧ n = m)) w :=
 run_eqNote Tryd.underlying138 (by kernel_rfl) (by decide) (by decide) (by decide) Tryd.underlying9 rfl Tryd.underlying3 rfl rfl rfl Tryd.underlying30 el_api_Digest Tryd.underlying5 el_uint8 s u k d n m w
end Go.Proofs.YtaebeemnipafbaaDoor

set_option maxRecDepth 20000
set_option linter.unusedSimpArgs false
set_option linter.unusedVariables false
namespace Go.Proofs.YtaebeemnipafbaaDoor
open Go.RowKit
theorem St.oldR {w0 W : World} {L : List Res} {b o : Nat} {xs : List Value} (h : St w0 W L) (hr : w0.rangeAt b o xs) (hx : xs ≠ []) : W.rangeAt b o xs := rangeAt_of_block hr (h.below.block b (rangeAt_lt hr hx))
theorem hdArr_ne (n : Int) (x y z : Dig) : (hdArr n x y z).toList ≠ [] := by rw [hdArr_list]; exact List.cons_ne_nil _ _
def pinArr (A : Option Addr) (m c : Nat) (n : Int) (x y z : Dig) : Array Value := (.slice A m c :: (hdArr n x y z).toList).toArray
theorem pinArr_size (A : Option Addr) (m c : Nat) (n : Int) (x y z : Dig) : (pinArr A m c n x y z).size = 98 := by simp [pinArr, hdArr_size]
theorem pinArr_list (A : Option Addr) (m c : Nat) (n : Int) (x y z : Dig) : (pinArr A m c n x y z).toList = .slice A m c :: (hdArr n x y z).toList := rfl
theorem pinArr_0 {A : Option Addr} {m c : Nat} {n : Int} {x y z : Dig} : (pinArr A m c n x y z)[0]? = some (.slice A m c) := rfl
theorem pinArr_1 {A : Option Addr} {m c : Nat} {n : Int} {x y z : Dig} : (pinArr A m c n x y z)[1]? = some (.int .i64 n) := rfl
theorem pinArr_head {W : World} {g t : Nat} {A : Option Addr} {m c : Nat} {n : Int} {x y z : Dig} {fr : Nat × Nat} (h : W.heap[g]? = some (.cells (pinArr A m c n x y z) t fr)) : W.rangeAt g 1 (hdArr n x y z).toList :=
 range_of_list h (fun j v hv => by rw [pinArr_list, Nat.add_comm, List.getElem?_cons_succ]; exact hv)
theorem pinArr_all (A : Option Addr) (m c : Nat) (n : Int) (x y z : Dig) : (pinArr A m c n x y z).all (·.oneCell') = true := Array.all_eq_true_iff_forall_mem.2 fun u hu => by
 rw [← Array.mem_toList_iff, pinArr_list] at hu
 rcases List.mem_cons.1 hu with rfl | hu
 ·rfl
 ·exact hdArr_one _ _ _ _ u hu
theorem pinArr_put (A : Option Addr) (m c : Nat) (n n' : Int) (x y z x' y' z' : Dig) : putAt (pinArr A m c n x y z) 1 (hdArr n' x' y' z').toList = pinArr A m c n' x' y' z' := by
 unfold putAt
 rw [pinArr_list]
 apply Array.ext'
 have h1 := hdArr_size n x y z
 have h2 := hdArr_size n' x' y' z'
 rw [List.take_succ_cons, List.take_zero, Array.length_toList, h2, show 1 + 97 = 97 + 1 from rfl, List.drop_succ_cons, List.drop_of_length_le (by rw [Array.length_toList, h1]; exact Nat.le_refl _), List.append_nil]
 rfl
theorem hdArr_putRoot (n : Int) (x y z d : Dig) : putAt (hdArr n x y z) 1 d.arr.toList = hdArr n d y z := by
 have l : ∀ d : Dig, d.arr.toList.length = 32 := fun d => by simp [Dig.size]
 unfold putAt
 rw [hdArr_list]
 apply Array.ext'
 rw [List.take_succ_cons, List.take_zero, l, show 1 + 32 = 32 + 1 from rfl, List.drop_succ_cons, List.drop_left' (l x)]
 rfl
section
variable {P : Program} {ops : Array Oper} {rest : List Oper} {o : Oper} {a : Act} {W : World} {Q : Exit → Act → World → Prop} {d : Option Tmp}
theorem L_buildG (hd : o.dst = d) (hw : Region.wanted o (yielded ops a.tmps) = true) {T : TypeId} {x : Operand} (ho : o.op = .build T #[(1, x)]) {f0 f1 f2 f3 : Field} (hu : P.underlying T = some (.struct #[f0, f1, f2, f3])) {z0 z1 z2 z3 : Value} {s0 s2 s3 b0 b1 b2 b3 : Nat} (h0 : ElemIs P f0.type z0 s0 b0) (h1 : ElemIs P f1.type z1 32 b1) (h2 : ElemIs P f2.type z2 s2 b2) (h3 : ElemIs P f3.type z3 s3 b3) (o1 : f1.offset = 1)
  {cs : Array Value} {s b : Nat} (he : ElemIs P T (.agg cs) s b) (hcs : 33 ≤ cs.size) {q : Dig} (hx : a.eval x = .agg q.arr)
  (h : wpList P ops Q rest (a.put d (.agg (putAt cs 1 q.arr.toList))) W) : wpList P ops Q (o :: rest) a W := by
 refine L_val hd hw ?_ h
 have hq : q.arr.size = 32 := Dig.size q
 have hf := fold_put q.arr.toList 0 1 cs (by simp [hq]; omega)
 have hz : (q.arr.zipIdx.foldl (fun cs x => cs.setIfInBounds (1 + x.2) x.1) cs) = putAt cs 1 q.arr.toList := by
  rw [← Array.foldl_toList, Array.toList_zipIdx]
  simpa using hf
 rw [show q.arr.zipIdx.size = 32 by simp [hq]] at hz
 unfold execOp
 simp only [ho]
 have hfill : Instr.fill (fun x => ([(f0.offset, s0), (1, 32), (f2.offset, s2), (f3.offset, s3)] : List (Nat × Nat))[x]?) cs [(1, .agg q.arr)] = some (putAt cs 1 q.arr.toList) := by
  have e1 : ¬ (cs.size < 33) := by omega
  simp [Instr.fill, Value.cells, hq, hcs, hz]
 simp [Instr.build, he.run_zero, run_underlying hu, Value.cells, hx, h0.run_size, h1.run_size, h2.run_size, h3.run_size, o1]
 rw [hfill]
 rfl
end
theorem el_pin_Pin : ElemIs Tryd.prog 121 (.agg (pinArr none 0 0 0 zeroD zeroD zeroD)) 98 128 := by unfold ElemIs; kernel_rfl
section
variable {ops : Array Oper} {rest : List Oper} {o : Oper} {a : Act} {W : World} {Q : Exit → Act → World → Prop} {d : Option Tmp}
theorem L_buildPin (hd : o.dst = d) (hw : Region.wanted o (yielded ops a.tmps) = true) {x y : Operand} (ho : o.op = .build 121 #[(0, x), (1, y)]) {A : Option Addr} {m c : Nat} (hx : a.eval x = .slice A m c) {n : Int} {p q r : Dig} (hy : a.eval y = .agg (hdArr n p q r))
  (h : wpList Tryd.prog ops Q rest (a.put d (.agg (pinArr A m c n p q r))) W) : wpList Tryd.prog ops Q (o :: rest) a W := by
 refine L_val hd hw ?_ h
 unfold execOp
 simp only [ho]
 have hs := hdArr_size n p q r
 have hz := el_pin_Pin.run_zero W
 have h1 := el_S_uint8.run_size W
 have h2 := el_api_Head.run_size W
 have hf := fold_put (hdArr n p q r).toList 0 1 (pinArr A m c 0 zeroD zeroD zeroD) (by simp [hs, pinArr_size])
 have h3 : Array.foldl (fun (cs : Array Value) (x : Value × Nat) => cs.setIfInBounds (1 + x.snd) x.fst) (pinArr A m c 0 zeroD zeroD zeroD) (hdArr n p q r).zipIdx 0 97 = pinArr A m c n p q r := by
  have e1 : 97 = (hdArr n p q r).zipIdx.size := by simp [hs]
  rw [e1, ← Array.foldl_toList, Array.toList_zipIdx]
  rw [show (1 + 0) = 1 from rfl, pinArr_put] at hf
  simpa using hf
 have h4 : (pinArr none 0 0 0 zeroD zeroD zeroD).setIfInBounds 0 (.slice A m c) = pinArr A m c 0 zeroD zeroD zeroD := rfl
 have h5 : pinArr none 0 0 0 zeroD zeroD zeroD ≠ #[] := fun e => by have := pinArr_size none 0 0 0 zeroD zeroD zeroD; rw [e] at this; exact absurd this (by decide)
 simp [Instr.build, hz, run_underlying Tryd.underlying121, h1, h2, hx, hy, Value.cells, Instr.fill, hs, h3, h4, h5, pinArr_size]
end
set_option maxHeartbeats 1000000 in
theorem pnew_any (key : List UInt8) (K : Option Addr) (m mc : Nat) (w : World) (hT : Tb w) (hk : SlR w K m mc 1 (bytesL key)) (hm : m ≤ 140737488355000) :
  Calls Tryd.prog 23 #[.slice K m mc] w fun e w' => ∃ g O oc, e = .returned (.pointer (some ⟨g, 0, none⟩)) ∧ St w w' [.blk g 121 (pinArr O m oc 0 (sha []) zeroD zeroD), .row O m oc 5 1 (bytesL key)] := by
 have hst := St.refl w
 have HT := Lib.hid hT
 clear hT
 go_enter Tryd.func23, Tryd.ntmps23
 go_wp2_with (first
  | (go_at_call 63; refine (cloneB_any key _ _ _ _ (hst.old (by decide) hk) (by omega)).mono ?_; rintro e W4 ⟨O4, c4, rfl, hnew⟩; replace hst := hst.trans hnew; simp only [List.cons_append, List.nil_append] at hst; clear hnew)
  | (go_at_call 64; refine (ssum_any [] none 0 0 _ (HT.out.of hst) (by simp [SlR, bytesL]) (by decide)).mono ?_; rintro e W5 ⟨rfl, hnew⟩; replace hst := hst.keep hnew; clear hnew)
  | (refine L_buildG (d := some 6) rfl rfl rfl Tryd.underlying32 el_int el_api_Digest el_api_Digest el_api_Digest rfl el_api_Head (by rw [hdArr_size]; decide) (ev_tmp rfl) ?_; rw [hdArr_putRoot])
  | (refine L_buildPin (d := some 7) rfl rfl rfl (ev_tmp rfl) (ev_tmp rfl) ?_)
  | (refine L_boxA (d := some 8) rfl rfl rfl (ev_tmp rfl) ?_; (try clear hnew); intro g8 W8 hnew; replace hst := hst.trans hnew; simp only [List.cons_append, List.nil_append] at hst)
  | fail)
 go_ret
 exact ⟨_, _, _, rfl, hst⟩
set_option maxHeartbeats 1000000 in
theorem held_any (g t m c : Nat) (A : Option Addr) (n : Int) (x y z : Dig) (fr : Nat × Nat) (w : World) (hg : w.heap[g]? = some (.cells (pinArr A m c n x y z) t fr)) :
  Calls Tryd.prog 25 #[.pointer (some ⟨g, 0, none⟩)] w fun e w' => e = .returned (.agg (hdArr n x y z)) ∧ St w w' [] := by
 have hst := St.refl w
 have hr := pinArr_head hg
 clear hg
 go_enter Tryd.func25, Tryd.ntmps25
 go_wp2_with (first
  | (refine L_allocA (d := some 2) rfl rfl rfl el_api_Head ?_; (try clear hnew); intro g2 W2 hnew; replace hst := hst.trans hnew; simp only [List.cons_append, List.nil_append] at hst)
  | (first | (refine L_loadA (d := some 6) rfl rfl rfl (by rfl) Tryd.underlying32 rfl el_api_Head (by first | exact hst.get 0 rfl) (by first | exact Dig.size _ | exact hdArr_size _ _ _ _ | rfl | (simp; done)) ?_) | (refine L_loadM (d := some 6) rfl rfl rfl (by rfl) Tryd.underlying32 rfl el_api_Head (by first | assumption | exact hst.oldR hr (hdArr_ne _ _ _ _)) (by first | exact Dig.size _ | exact hdArr_size _ _ _ _ | rfl | (simp; done)) ?_))
  | (refine wpl_at (.store 32 (.tmp 2) (.tmp 6)) rfl ?_; first | (refine L_storeA rfl rfl hst rfl (by rfl) (ev_tmp rfl) (by first | rfl | exact Dig.one _ | exact hdArr_all _ _ _ _ | (simp; done)) el_api_Head (by first | rfl | exact Dig.size _ | exact hdArr_size _ _ _ _ | (simp; done)) 0 rfl (by first | rfl | exact Dig.size _ | exact hdArr_size _ _ _ _ | (simp; done)) ?_; clear hst; intro WS4 hst; simp only [List.set_cons_zero, List.set_cons_succ] at hst) | (refine L_storeM rfl rfl hst rfl (by rfl) (ev_tmp rfl) (by first | rfl | exact Dig.one _ | exact hdArr_all _ _ _ _ | (simp; done)) el_api_Head (by first | rfl | exact Dig.size _ | exact hdArr_size _ _ _ _ | (simp; done)) 0 rfl (by first | exact of_decide_eq_true rfl | (simp; done)) ?_; clear hst; intro WS4 hst; simp only [List.set_cons_zero, List.set_cons_succ] at hst))
  | fail)
 refine bp_cell rfl rfl rfl (hst.get 0 rfl) Tryd.underlying32 rfl el_api_Head (hdArr_size _ _ _ _) ?_
 exact ⟨rfl, hst.forget⟩
end Go.Proofs.YtaebeemnipafbaaDoor

set_option maxRecDepth 20000
set_option linter.unusedSimpArgs false
set_option linter.unusedVariables false
namespace Go.Proofs.YtaebeemnipafbaaDoor
open Go.RowKit
def fL (nm : List (List UInt8 × (NoteN × Nat × Dig))) (s : List UInt8) : Dig := ((lookA s nm).map fun x => x.2.2).getD zeroD
def enN (nm : List (List UInt8 × (NoteN × Nat × Dig))) (am : List (Nat × List UInt8)) (i : Nat) : Nat × Dig := match am[i]? with | some p => (p.1, fL nm p.2) | none => (0, zeroD)
theorem enN_all (nm : List (List UInt8 × (NoteN × Nat × Dig))) (am : List (Nat × List UInt8)) : (List.range am.length).map (enN nm am) = am.map fun p => (p.1, fL nm p.2) := by
 apply List.ext_getElem?
 intro i
 rw [List.getElem?_map, List.getElem?_map]
 by_cases h : i < am.length
 ·rw [List.getElem?_range h, List.getElem?_eq_getElem h]
  simp [enN, h]
 ·rw [List.getElem?_eq_none (by simpa using h), List.getElem?_eq_none (by omega)]
  rfl
theorem ent_snoc (es : List (Nat × Dig)) (k : Nat) (d : Dig) : entL es ++ (prArr (k : Int) d).toList = entL (es ++ [(k, d)]) := by
 rw [entL_app]
 congr 1
 rw [entL, entI, List.map_cons, List.map_nil, pairsL_one]
attribute [local simp] prArr_size
set_option maxHeartbeats 8000000 in
set_option maxRecDepth 100000 in
theorem entries_any (key : List UInt8) (ns : List NoteN) (p : LgP) (w0 w : World) (L : List Res) (hst : St w0 w (lgL p key ns ++ L)) (hm : MapsOf ns p.nm p.am) (hl : Logged ns) :
  Calls Tryd.prog 45 #[.pointer (some ⟨p.g, 0, none⟩)] w fun e w' => ∃ (es : List (Nat × Dig)) (O : Option Addr) (oc : Nat), e = .returned (.slice O es.length oc) ∧ es.length ≤ 64 ∧ (∀ e ∈ es, e.1 < 4294967296) ∧ (es.map (·.1)).Nodup ∧ leafAt es = lgF ns ∧
   St w0 w' (.row O es.length oc 115 33 (entL es) :: (lgL p key ns ++ L)) := by
 have HO := Lib.hid hm.ksO
 have HD := Lib.hid hm.nd
 have HM := Lib.hid hm
 have HLg := Lib.hid hl
 have hlen : p.am.length ≤ 64 := by rw [hm.lenA, hm.len]; exact hl.names
 have HAt := Lib.hid (fun (i : Nat) (q : Nat × List UInt8) (h : p.am[i]? = some q) => show ∃ x, lookA q.2 p.nm = some x ∧ enN p.nm p.am i = (q.1, x.2.2) ∧ KeyOk Tryd.prog 9 sV q.2 from by
  have hmem := List.mem_of_getElem? h
  obtain ⟨x, hx⟩ := hm.total (k := q.1) (s := q.2) hmem
  exact ⟨x, hx, by unfold enN fL; rw [h]; simp only [hx]; rfl, sV_ok (hm.ksA q hmem).2⟩)
 simp only [lgL, List.cons_append, List.nil_append] at hst
 obtain ⟨g, m, c, lc, Mn, Ma, A, O0, nm, am⟩ := p
 simp only at *
 obtain ⟨n, hn⟩ : ∃ n, n = am.length := ⟨_, rfl⟩
 have HN := Lib.hid hn
 rw [← hn] at hlen
 clear hm hl hn
 go_enter Tryd.func45, Tryd.ntmps45
 go_upto_region 1 with (go_big_may; first
  | fail)
 go_upto_region 2 with (go_big_may; first
  | fail)
 go_wp2_with (first
  | (refine L_load1 (d := some 9) rfl rfl rfl (by rfl) Tryd.underlying94 rfl (cell_of (hst.get 0 rfl) lgArr_3) ?_)
  | (refine L_range (fk := kInt) (fv := sV) (l := am) (d := some 10) rfl rfl rfl Tryd.underlying94 (ev_tmp rfl) (hst.obj 4 rfl) ?_; intro r W10 hnew; replace hst := hst.trans hnew; simp only [List.cons_append, List.nil_append] at hst)
  | fail)
 (try simp only [Act.put, List.setIfInBounds_toArray, List.set_cons_succ, List.set_cons_zero])
 rw [← HN.out] at hst
 clear hnew
 have hst := hst.nilRow 115 33
 go_loopg [3] n (fun gk s3 wr => ∃ (dn : List Nat) (O : Option Addr) (k oc : Nat), Hid (dn.length + gk = n ∧ dn.Nodup ∧ (∀ i ∈ dn, i < n) ∧ k = dn.length) ∧ s3 = .slice O k oc ∧
  St w0 wr (.row O k oc 115 33 (entL (dn.map (enN nm am))) :: .obj r (.mapIter (some Ma) n dn.toArray n) :: .blk g 96 (lgArr A m c O0 ns.length lc Mn Ma) :: .row A m c 5 1 (bytesL key) :: .row O0 ns.length lc 30 32 (digsL (lvN ns)) :: .obj Mn (mpO sV lsV nm) :: .obj Ma (mpO kInt sV am) :: L))
 case atStart => exact ⟨[], none, 0, 0, Lib.hid ⟨by simp, List.nodup_nil, by simp, rfl⟩, rfl, hst⟩
 case round =>
  clear hst
  obtain ⟨dn, O, k, oc, HG, rfl, hst⟩ := hrel
  go_wp2_with (first
   | (refine L_next (fk := kInt) (fv := sV) (l := am) (d := some 11) rfl rfl hst rfl (ev_tmp rfl) HN.out (Nat.le_refl _) (hst.obj 6 rfl) 1 rfl ?_ ?_)
   | fail)
  ·intro hall
   go_wp2_with fail
   go_ret
   obtain ⟨g1, g2, g3, rfl⟩ := HG.out
   have hn := HN.out
   have hp := range_perm g2 g3 hall
   have hpm : (dn.map (enN nm am)).Perm (am.map fun p => (p.1, fL nm p.2)) := by
    rw [← enN_all, ← hn]
    exact hp.map _
   have hM := HM.out
   have hnd : ((am.map fun p => (p.1, fL nm p.2)).map (·.1)).Nodup := by
    rw [List.map_map]
    exact hM.ndA
   have hlen2 : (dn.map (enN nm am)).length = dn.length := by simp
   refine ⟨dn.map (enN nm am), O, oc, by rw [hlen2]; rfl, by rw [hpm.length_eq, List.length_map, ← hn]; exact hlen, ?_, ((hpm.map _).nodup_iff).2 hnd, ?_, ?_⟩
   ·intro e he
    obtain ⟨q, hq, rfl⟩ := List.mem_map.1 (hpm.mem_iff.1 he)
    exact (hM.ksA q hq).1
   ·funext k
    rw [leafAt_perm (((hpm.map _).nodup_iff).2 hnd) hpm]
    exact hM.entries HLg.out (fL nm) (fun q _ x hx => by unfold fL; rw [hx]; rfl) k
   ·simp only [lgL, List.cons_append, List.nil_append]
    rw [hlen2]
    exact hst.drop ((List.sublist_cons_self _ _).cons_cons _)
  ·intro i q W11 hq hi hst'
   clear hst
   have hst := hst'
   clear hst'
   simp only [List.set_cons_zero, List.set_cons_succ] at hst
   obtain ⟨x, hx, he, hko⟩ := HAt.out i q hq
   obtain ⟨k1, s1⟩ := q
   obtain ⟨⟨a1, a2, a3⟩, a4, a5⟩ := x
   simp only at hx he hko
   have HX := Lib.hid hx
   have HK := Lib.hid hko
   have HQ := Lib.hid hq
   have HIn := Lib.hid hi
   have HSn := Lib.hid (show entL (dn.map (enN nm am)) ++ (prArr (k1 : Int) a5).toList = entL ((dn ++ [i]).map (enN nm am)) by
    rw [ent_snoc, List.map_append, List.map_singleton, he])
   have hk64 : k ≤ 64 := by
    obtain ⟨g1, g2, g3, g4⟩ := HG.out
    omega
   clear hx hko hq he hi
   generalize entL (dn.map (enN nm am)) = e0 at *
   go_wp2_with (first
    | (refine L_entry (fk := kInt) (fv := sV) (l := am) (i := i) (d := some 13) rfl rfl rfl (ev_tmp rfl) HN.out (hst.obj 6 rfl) (hst.obj 1 rfl) HQ.out ?_)
    | (refine L_look1s (fk := sV) (fv := lsV) (y := s1) (l := nm) (d := some 23) rfl rfl rfl keyed_str Tryd.underlying93 el_log_last (ev_tmp rfl) (ev_tmp rfl) sV_inj HO.out HD.out HK.out (hst.obj 5 rfl) HX.out ?_)
    | (refine L_fieldD (d := some 24) rfl rfl rfl Tryd.underlying123 rfl (ev_tmp rfl) Tryd.underlying30 el_api_Digest lsArr_leaf ?_)
    | (refine L_buildE (d := some 25) rfl rfl rfl (ev_tmp rfl) (ev_tmp rfl) ?_)
    | (refine L_load1 (d := some 21) rfl rfl rfl (by rfl) Tryd.underlying93 rfl (by first | assumption | exact cell_of (hst.get 0 rfl) lgArr_2 | exact cell_of (hst.get 0 rfl) rfl | exact cell_of (hst.get 1 rfl) lgArr_2 | exact cell_of (hst.get 1 rfl) rfl | exact cell_of (hst.get 2 rfl) lgArr_2 | exact cell_of (hst.get 2 rfl) rfl | exact cell_of (hst.get 3 rfl) lgArr_2 | exact cell_of (hst.get 3 rfl) rfl | exact cell_of (hst.get 4 rfl) lgArr_2 | exact cell_of (hst.get 4 rfl) rfl | exact cell_of (hst.get 5 rfl) lgArr_2 | exact cell_of (hst.get 5 rfl) rfl | exact cell_of (hst.get 6 rfl) lgArr_2 | exact cell_of (hst.get 6 rfl) rfl | exact cell_of (hst.get 7 rfl) lgArr_2 | exact cell_of (hst.get 7 rfl) rfl) ?_)
    | (refine L_buildS (d := some 26) rfl rfl rfl [_] (bs_1 (ev_tmp rfl)) rfl Tryd.underlying100 el_api_Entry rfl (by first | (simp [Value.cells]; done) | (simp [Value.cells, Dig.size]; done)) (by decide) (by decide) ?_; (try clear hnew); intro g26 W26 hnew; replace hst := hst.trans hnew; simp only [List.cons_append, List.nil_append] at hst; simp only [List.flatMap_cons, List.flatMap_nil, List.append_nil, Value.cells, List.toList_toArray] at hst)
    | (refine L_appendO (d := some 27) rfl rfl hst rfl (by rfl) (by rfl) Tryd.underlying100 el_api_Entry rfl (by decide) (by decide) 0 rfl (by first | rfl | omega) (by first | exact hst.sl 0 rfl | exact hst.sl 1 rfl | exact hst.sl 2 rfl | exact hst.sl 3 rfl | exact hst.sl 4 rfl | exact hst.sl 5 rfl | exact hst.sl 6 rfl | exact hst.sl 7 rfl | assumption | exact hst.old (by decide) (by assumption)) (by first | exact oneCell_bytes | (simp [Value.oneCell']; done) | exact prArr_one _ _) (by omega) ?_; clear hst; intro A27 c27 W27 hst; simp only [List.set_cons_zero, List.set_cons_succ, List.nil_append, Nat.zero_add] at hst)
    | (refine L_appendO (d := some 27) rfl rfl hst rfl (by rfl) (by rfl) Tryd.underlying100 el_api_Entry rfl (by decide) (by decide) 1 rfl (by first | rfl | omega) (by first | exact hst.sl 0 rfl | exact hst.sl 1 rfl | exact hst.sl 2 rfl | exact hst.sl 3 rfl | exact hst.sl 4 rfl | exact hst.sl 5 rfl | exact hst.sl 6 rfl | exact hst.sl 7 rfl | assumption | exact hst.old (by decide) (by assumption)) (by first | exact oneCell_bytes | (simp [Value.oneCell']; done) | exact prArr_one _ _) (by omega) ?_; clear hst; intro A27 c27 W27 hst; simp only [List.set_cons_zero, List.set_cons_succ, List.nil_append, Nat.zero_add] at hst)
    | (refine L_appendO (d := some 27) rfl rfl hst rfl (by rfl) (by rfl) Tryd.underlying100 el_api_Entry rfl (by decide) (by decide) 2 rfl (by first | rfl | omega) (by first | exact hst.sl 0 rfl | exact hst.sl 1 rfl | exact hst.sl 2 rfl | exact hst.sl 3 rfl | exact hst.sl 4 rfl | exact hst.sl 5 rfl | exact hst.sl 6 rfl | exact hst.sl 7 rfl | assumption | exact hst.old (by decide) (by assumption)) (by first | exact oneCell_bytes | (simp [Value.oneCell']; done) | exact prArr_one _ _) (by omega) ?_; clear hst; intro A27 c27 W27 hst; simp only [List.set_cons_zero, List.set_cons_succ, List.nil_append, Nat.zero_add] at hst)
    | (refine L_appendO (d := some 27) rfl rfl hst rfl (by rfl) (by rfl) Tryd.underlying100 el_api_Entry rfl (by decide) (by decide) 3 rfl (by first | rfl | omega) (by first | exact hst.sl 0 rfl | exact hst.sl 1 rfl | exact hst.sl 2 rfl | exact hst.sl 3 rfl | exact hst.sl 4 rfl | exact hst.sl 5 rfl | exact hst.sl 6 rfl | exact hst.sl 7 rfl | assumption | exact hst.old (by decide) (by assumption)) (by first | exact oneCell_bytes | (simp [Value.oneCell']; done) | exact prArr_one _ _) (by omega) ?_; clear hst; intro A27 c27 W27 hst; simp only [List.set_cons_zero, List.set_cons_succ, List.nil_append, Nat.zero_add] at hst)
    | (refine L_appendO (d := some 27) rfl rfl hst rfl (by rfl) (by rfl) Tryd.underlying100 el_api_Entry rfl (by decide) (by decide) 4 rfl (by first | rfl | omega) (by first | exact hst.sl 0 rfl | exact hst.sl 1 rfl | exact hst.sl 2 rfl | exact hst.sl 3 rfl | exact hst.sl 4 rfl | exact hst.sl 5 rfl | exact hst.sl 6 rfl | exact hst.sl 7 rfl | assumption | exact hst.old (by decide) (by assumption)) (by first | exact oneCell_bytes | (simp [Value.oneCell']; done) | exact prArr_one _ _) (by omega) ?_; clear hst; intro A27 c27 W27 hst; simp only [List.set_cons_zero, List.set_cons_succ, List.nil_append, Nat.zero_add] at hst)
    | (refine L_appendO (d := some 27) rfl rfl hst rfl (by rfl) (by rfl) Tryd.underlying100 el_api_Entry rfl (by decide) (by decide) 5 rfl (by first | rfl | omega) (by first | exact hst.sl 0 rfl | exact hst.sl 1 rfl | exact hst.sl 2 rfl | exact hst.sl 3 rfl | exact hst.sl 4 rfl | exact hst.sl 5 rfl | exact hst.sl 6 rfl | exact hst.sl 7 rfl | assumption | exact hst.old (by decide) (by assumption)) (by first | exact oneCell_bytes | (simp [Value.oneCell']; done) | exact prArr_one _ _) (by omega) ?_; clear hst; intro A27 c27 W27 hst; simp only [List.set_cons_zero, List.set_cons_succ, List.nil_append, Nat.zero_add] at hst)
    | (refine L_appendO (d := some 27) rfl rfl hst rfl (by rfl) (by rfl) Tryd.underlying100 el_api_Entry rfl (by decide) (by decide) 6 rfl (by first | rfl | omega) (by first | exact hst.sl 0 rfl | exact hst.sl 1 rfl | exact hst.sl 2 rfl | exact hst.sl 3 rfl | exact hst.sl 4 rfl | exact hst.sl 5 rfl | exact hst.sl 6 rfl | exact hst.sl 7 rfl | assumption | exact hst.old (by decide) (by assumption)) (by first | exact oneCell_bytes | (simp [Value.oneCell']; done) | exact prArr_one _ _) (by omega) ?_; clear hst; intro A27 c27 W27 hst; simp only [List.set_cons_zero, List.set_cons_succ, List.nil_append, Nat.zero_add] at hst)
    | (refine L_appendO (d := some 27) rfl rfl hst rfl (by rfl) (by rfl) Tryd.underlying100 el_api_Entry rfl (by decide) (by decide) 7 rfl (by first | rfl | omega) (by first | exact hst.sl 0 rfl | exact hst.sl 1 rfl | exact hst.sl 2 rfl | exact hst.sl 3 rfl | exact hst.sl 4 rfl | exact hst.sl 5 rfl | exact hst.sl 6 rfl | exact hst.sl 7 rfl | assumption | exact hst.old (by decide) (by assumption)) (by first | exact oneCell_bytes | (simp [Value.oneCell']; done) | exact prArr_one _ _) (by omega) ?_; clear hst; intro A27 c27 W27 hst; simp only [List.set_cons_zero, List.set_cons_succ, List.nil_append, Nat.zero_add] at hst)
    | (refine L_appendF (d := some 27) rfl rfl rfl (by rfl) (by rfl) Tryd.underlying100 el_api_Entry rfl (by decide) (by assumption) (by first | assumption | exact hst.sl 0 rfl | exact hst.sl 1 rfl | exact hst.sl 2 rfl | exact hst.sl 3 rfl | exact hst.sl 4 rfl | exact hst.sl 5 rfl | exact hst.sl 6 rfl | exact hst.sl 7 rfl | assumption | exact hst.old (by decide) (by assumption)) (by omega) (by omega) (by omega) ?_; (try clear hnew); intro A27 c27 W27 hnew; replace hst := hst.trans hnew; simp only [List.cons_append, List.nil_append] at hst)
    | fail)
   have hG2 : (dn ++ [i]).length + (gk - 1) = n ∧ (dn ++ [i]).Nodup ∧ (∀ j ∈ dn ++ [i], j < n) ∧ k + 1 = (dn ++ [i]).length ∧ 0 < gk := by
    obtain ⟨g1, g2, g3, g4⟩ := HG.out
    have hin : i < n := by rw [HN.out]; exact (List.getElem?_eq_some_iff.1 HQ.out).1
    have hnd : (dn ++ [i]).Nodup := by
     rw [List.nodup_append]
     refine ⟨g2, by simp, fun a ha b hb => ?_⟩
     rw [List.mem_singleton.1 hb]
     intro e
     exact HIn.out (e ▸ ha)
    have hlt : ∀ j ∈ dn ++ [i], j < n := fun j hj => by
     rcases List.mem_append.1 hj with hj | hj
     ·exact g3 j hj
     ·rw [List.mem_singleton.1 hj]; exact hin
    have hle := nodup_le n _ hnd hlt
    rw [List.length_append, List.length_singleton] at hle
    refine ⟨?_, hnd, hlt, ?_, ?_⟩
    ·rw [List.length_append, List.length_singleton]; omega
    ·rw [List.length_append, List.length_singleton]; omega
    ·omega
   obtain ⟨q1, q2, q3, q4, q5⟩ := hG2
   go_roundg (gk - 1)
   case measure => omega
   case rel =>
    refine ⟨dn ++ [i], A27, k + 1, c27, Lib.hid ⟨q1, q2, q3, q4⟩, rfl, ?_⟩
    rw [← HSn.out]
    exact hst.tail
end Go.Proofs.YtaebeemnipafbaaDoor

set_option maxRecDepth 20000
set_option linter.unusedSimpArgs false
set_option linter.unusedVariables false
namespace Go.Proofs.YtaebeemnipafbaaDoor
open Go.RowKit Go.Shelf
theorem nodup_perm {ss es : List (Nat × Dig)} (hs : ss.Pairwise fun a b => a.1 < b.1) (hp : ss.Perm es) : leafAt ss = leafAt es := by
 funext k
 exact leafAt_perm (pw_nodup hs) hp k
theorem troot32 (es ss : List (Nat × Dig)) (O : Option Addr) (n oc : Nat) (w' : World) (ht : Tb w') (h : SlR w' O n oc 33 (entL ss)) (hs : ss.Pairwise fun a b => a.1 < b.1) (hp : ss.Perm es) (hk : ∀ e ∈ es, e.1 < 4294967296) :
  Calls Tryd.prog 84 #[.slice O n oc, .int .i64 32] w' fun e w'' => e = .returned (mRoot (leafAt es) 32 0).v ∧ St w' w'' [] := by
 obtain ⟨b, hb⟩ : ∃ b : Nat, b = 32 := ⟨_, rfl⟩
 have hbi : (32 : Int) = ((b : Nat) : Int) := by rw [hb]; rfl
 have h1 := troot_any b ss O n oc 0 w' ht h (by omega) hs (fun e he => ⟨by omega, by
  have := hk e (hp.mem_iff.1 he)
  have e2 : 2 ^ b = 4294967296 := by rw [hb]
  omega⟩) (by
  have e2 : 2 ^ b = 4294967296 := by rw [hb]
  omega)
 rw [nodup_perm hs hp, Nat.zero_mul] at h1
 rw [hbi, ← hb]
 exact h1
set_option maxHeartbeats 1000000 in
theorem tRootM_any (es : List (Nat × Dig)) (A : Option Addr) (n c : Nat) (w : World) (hT : Tb w) (hx : SlR w A n c 33 (entL es)) (hn : n ≤ 64) (hk : ∀ e ∈ es, e.1 < 4294967296) (hd : (es.map (·.1)).Nodup) :
  Calls Tryd.prog 44 #[.slice A n c] w fun e w' => e = .returned (.tuple #[(mRoot (leafAt es) 32 0).v, .nilIface]) ∧ St w w' [] := by
 have hst := St.refl w
 have HT := Lib.hid hT
 have HS := Lib.hid (fun (w' : World) (h : SlR w' A n c 33 (entL es)) => tsorted_any es A n c w' h hn hk hd)
 have HR := Lib.hid (fun (ss : List (Nat × Dig)) (O : Option Addr) (oc : Nat) (w' : World) (ht : Tb w') (hs : ss.Pairwise fun a b => a.1 < b.1) (hp : ss.Perm es) (h : SlR w' O n oc 33 (entL ss)) =>
  troot32 es ss O n oc w' ht h hs hp hk)
 generalize mRoot (leafAt es) 32 0 = r at *
 clear hT hk hd
 go_enter Tryd.func44, Tryd.ntmps44
 go_upto_region 1 with (go_big_may; (refine L_allocA (d := some 2) rfl rfl rfl el_api_Digest ?_; (try clear hnew); intro g2 W2 hnew; replace hst := hst.trans hnew; simp only [List.cons_append, List.nil_append] at hst))
 go_upto_region 2 with (go_big_may; (go_at_call 83; (try clear hnew); refine (HS.out _ (hst.old (by decide) hx)).mono ?_; rintro e Ws ⟨ss, O, oc, rfl, hs, hp, hnew⟩; have HSP := Lib.hid (And.intro hs hp); clear hs hp; replace hst := hst.trans hnew; simp only [List.cons_append, List.nil_append] at hst))
 go_upto_region 4 with (go_big_may; fail)
 go_wp2_with (first | (go_at_call 84; (try clear hnew); refine (HR.out ss _ _ _ (HT.out.of hst) HSP.out.1 HSP.out.2 (hst.sl 0 rfl)).mono ?_; rintro e Wr ⟨rfl, hnew⟩; replace hst := hst.keep hnew) | (refine wpl_at (.store 30 (.tmp 2) (.tmp 16)) rfl ?_; (refine L_storeA rfl rfl hst rfl (by rfl) (ev_tmp rfl) (by (exact Dig.one _)) el_api_Digest (by (exact Dig.size _)) 1 rfl (by (rfl)) ?_; clear hst; intro WS2 hst; simp only [List.set_cons_zero, List.set_cons_succ] at hst)))
 refine bp_cell_tmp rfl rfl rfl rfl (hst.get 1 rfl) Tryd.underlying30 rfl el_api_Digest (by (exact Dig.size _)) ?_
 exact ⟨rfl, hst.forget⟩
def pthN (f : Nat → Dig) (k j : Nat) : List Dig := (List.range 32).map fun i => if i < j then zeroD else mRoot f i (sibN i k)
theorem pthN_len (f : Nat → Dig) (k j : Nat) : (pthN f k j).length = 32 := by simp [pthN]
theorem pthN_0 (f : Nat → Dig) (k : Nat) : pthN f k 0 = mPath f k 32 := by simp [pthN, mPath]
theorem pthN_32 (f : Nat → Dig) (k : Nat) : pthN f k 32 = List.replicate 32 zeroD := by
 unfold pthN
 apply List.ext_getElem?
 intro i
 rw [List.getElem?_map]
 by_cases h : i < 32
 ·rw [List.getElem?_range h, List.getElem?_replicate, if_pos h]
  simp [h]
 ·rw [List.getElem?_eq_none (by simpa using h), List.getElem?_eq_none (by simpa using h)]; rfl
theorem pthN_set (f : Nat → Dig) (k j : Nat) (h : j < 32) : (pthN f k (j + 1)).set j (mRoot f j (sibN j k)) = pthN f k j := by
 apply List.ext_getElem?
 intro i
 rw [List.getElem?_set]
 unfold pthN
 by_cases hi : i < 32
 ·by_cases hj : j = i
  ·subst hj
   simp [h]
  ·rw [if_neg hj, List.getElem?_map, List.getElem?_map, List.getElem?_range hi]
   simp only [Option.map_some]
   congr 1
   by_cases h1 : i < j
   ·rw [if_pos (by omega), if_pos h1]
   ·rw [if_neg (by omega), if_neg h1]
 ·have : ¬ j = i := by omega
  simp [this, hi]
theorem digsL_putD (ds : List Dig) (j : Nat) (d : Dig) (h : j < ds.length) : (digsL ds).take (j * 32) ++ d.arr.toList ++ (digsL ds).drop (j * 32 + 32) = digsL (ds.set j d) := by
 have e : ds.set j d = ds.take j ++ ([d] ++ ds.drop (j + 1)) := by rw [List.set_eq_take_append_cons_drop, if_pos h]; rfl
 have h1 := digsL_cut ds 0 j
 have h2 := digsL_cut ds (j + 1) (ds.length - (j + 1))
 rw [Nat.zero_mul, List.drop_zero, List.drop_zero] at h1
 rw [show j * 32 + 32 = (j + 1) * 32 by omega, h1, e]
 have h3 : (digsL ds).drop ((j + 1) * 32) = digsL (ds.drop (j + 1)) := by
  rw [List.take_of_length_le (by rw [List.length_drop, length_digsL, ← Nat.sub_mul]; exact Nat.le_refl _), List.take_of_length_le (by rw [List.length_drop]; exact Nat.le_refl _)] at h2
  exact h2
 rw [h3]
 simp [digsL, Dig.toList]
theorem under_step {es : List (Nat × Dig)} {b q k : Nat} {f : Nat → Dig} (hs : es.Pairwise fun x y => x.1 < y.1) (hr : ∀ e ∈ es, q * 2 ^ (b + 1) ≤ e.1 ∧ e.1 < q * 2 ^ (b + 1) + 2 ^ (b + 1)) (hq : q = k / 2 ^ (b + 1))
  (hf : ∀ x, q * 2 ^ (b + 1) ≤ x → x < q * 2 ^ (b + 1) + 2 ^ (b + 1) → leafAt es x = f x) :
  ∀ own oth : List (Nat × Dig), (own, oth) = (if k / 2 ^ b % 2 = 1 then (es.drop (cutI b es), es.take (cutI b es)) else (es.take (cutI b es), es.drop (cutI b es))) →
  (own.Pairwise fun x y => x.1 < y.1) ∧ (∀ e ∈ own, k / 2 ^ b * 2 ^ b ≤ e.1 ∧ e.1 < k / 2 ^ b * 2 ^ b + 2 ^ b) ∧ (∀ x, k / 2 ^ b * 2 ^ b ≤ x → x < k / 2 ^ b * 2 ^ b + 2 ^ b → leafAt own x = f x) ∧
  (oth.Pairwise fun x y => x.1 < y.1) ∧ (∀ e ∈ oth, sibN b k ≤ e.1 ∧ e.1 < sibN b k + 2 ^ b) ∧ (∀ x, sibN b k ≤ x → x < sibN b k + 2 ^ b → leafAt oth x = f x) := by
 have hcut := cutI_mid hr
 have hlow : es.take (cutI b es) = es.filter fun e => decide (e.1 < q * 2 ^ (b + 1) + 2 ^ b) := by rw [hcut]; exact cut_low es _ hs
 have hhigh : es.drop (cutI b es) = es.filter fun e => decide (q * 2 ^ (b + 1) + 2 ^ b ≤ e.1) := by rw [hcut]; exact cut_high es _ hs
 have e1 : 2 ^ (b + 1) = 2 ^ b + 2 ^ b := by rw [Nat.pow_succ]; omega
 have hp := Nat.two_pow_pos b
 have e2 : k / 2 ^ (b + 1) = k / 2 ^ b / 2 := half_step k b
 rw [e2] at hq
 have e3 : q * 2 ^ (b + 1) = 2 * q * 2 ^ b := by rw [Nat.pow_succ, Nat.mul_comm (2 ^ b) 2, ← Nat.mul_assoc, Nat.mul_comm q 2]
 have e4 : (2 * q + 1) * 2 ^ b = 2 * q * 2 ^ b + 2 ^ b := by rw [Nat.add_mul, Nat.one_mul]
 have pl : (es.take (cutI b es)).Pairwise fun x y => x.1 < y.1 := hs.sublist (List.take_sublist _ _)
 have ph : (es.drop (cutI b es)).Pairwise fun x y => x.1 < y.1 := hs.sublist (List.drop_sublist _ _)
 have rl : ∀ e ∈ es.take (cutI b es), 2 * q * 2 ^ b ≤ e.1 ∧ e.1 < 2 * q * 2 ^ b + 2 ^ b := fun e he => by
  have h1 := hr e ((List.take_sublist _ _).subset he)
  rw [hlow] at he
  have h2 := of_decide_eq_true (List.mem_filter.1 he).2
  omega
 have rh : ∀ e ∈ es.drop (cutI b es), (2 * q + 1) * 2 ^ b ≤ e.1 ∧ e.1 < (2 * q + 1) * 2 ^ b + 2 ^ b := fun e he => by
  have h1 := hr e ((List.drop_sublist _ _).subset he)
  rw [hhigh] at he
  have h2 := of_decide_eq_true (List.mem_filter.1 he).2
  omega
 have fl : ∀ x, 2 * q * 2 ^ b ≤ x → x < 2 * q * 2 ^ b + 2 ^ b → leafAt (es.take (cutI b es)) x = f x := fun x h1 h2 => by
  rw [hlow, leafAt_filter es (fun y => decide (y < q * 2 ^ (b + 1) + 2 ^ b)) (decide_eq_true (by omega))]
  exact hf x (by omega) (by omega)
 have fh : ∀ x, (2 * q + 1) * 2 ^ b ≤ x → x < (2 * q + 1) * 2 ^ b + 2 ^ b → leafAt (es.drop (cutI b es)) x = f x := fun x h1 h2 => by
  rw [hhigh, leafAt_filter es (fun y => decide (q * 2 ^ (b + 1) + 2 ^ b ≤ y)) (decide_eq_true (by omega))]
  exact hf x (by omega) (by omega)
 intro own oth ho
 unfold sibN
 by_cases hb : k / 2 ^ b % 2 = 1
 ·rw [if_pos hb] at ho ⊢
  obtain ⟨rfl, rfl⟩ := Prod.mk.inj ho
  have hk : k / 2 ^ b = 2 * q + 1 := by omega
  rw [hk, Nat.add_sub_cancel]
  exact ⟨ph, rh, fh, pl, rl, fl⟩
 ·rw [if_neg hb] at ho ⊢
  obtain ⟨rfl, rfl⟩ := Prod.mk.inj ho
  have hk : k / 2 ^ b = 2 * q := by omega
  rw [hk]
  exact ⟨pl, rl, fl, ph, rh, fh⟩
theorem par_le {k b : Nat} (hk : k < 4294967296) (hb : b ≤ 31) : k / 2 ^ (b + 1) * 2 ^ (b + 1) + 2 ^ (b + 1) ≤ 4294967296 := by
 have e : (4294967296 : Nat) = 2 ^ (31 - b) * 2 ^ (b + 1) := by rw [← Nat.pow_add, show 31 - b + (b + 1) = 32 by omega]
 have h1 : k / 2 ^ (b + 1) < 2 ^ (31 - b) := (Nat.div_lt_iff_lt_mul (Nat.two_pow_pos _)).2 (by rw [← e]; exact hk)
 have h2 := Nat.mul_le_mul_right (2 ^ (b + 1)) h1
 rw [Nat.succ_mul, ← e] at h2
 exact h2
theorem sib_form {k b : Nat} (hk : k < 4294967296) (hb : b ≤ 31) : ∃ q, sibN b k = q * 2 ^ b ∧ q * 2 ^ b + 2 ^ b ≤ 4294967296 := by
 have h := par_le hk hb
 have hp := Nat.two_pow_pos b
 have e1 : 2 ^ (b + 1) = 2 ^ b + 2 ^ b := by rw [Nat.pow_succ]; omega
 have e2 : k / 2 ^ (b + 1) = k / 2 ^ b / 2 := half_step k b
 have e3 : k / 2 ^ (b + 1) * 2 ^ (b + 1) = 2 * (k / 2 ^ (b + 1)) * 2 ^ b := by rw [Nat.pow_succ, Nat.mul_comm (2 ^ b) 2, ← Nat.mul_assoc, Nat.mul_comm (k / (2 * 2 ^ b)) 2]
 unfold sibN
 by_cases hb1 : k / 2 ^ b % 2 = 1
 ·rw [if_pos hb1]
  refine ⟨_, rfl, ?_⟩
  have : k / 2 ^ b - 1 = 2 * (k / 2 ^ (b + 1)) := by omega
  rw [this]
  omega
 ·rw [if_neg hb1]
  refine ⟨_, rfl, ?_⟩
  have : k / 2 ^ b + 1 = 2 * (k / 2 ^ (b + 1)) + 1 := by omega
  rw [this, Nat.add_mul, Nat.one_mul]
  omega
section
variable {P : Program} {ops : Array Oper} {rest : List Oper} {o : Oper} {a : Act} {W : World} {Q : Exit → Act → World → Prop} {d : Option Tmp}
theorem zero_cells : ∀ v ∈ zeroD.arr.toList, v = .int .u8 0 := by
 intro v hv
 rw [Dig.toList] at hv
 obtain ⟨b, hb, rfl⟩ := List.mem_map.1 hv
 rw [show b = 0 from List.eq_of_mem_replicate hb]
 rfl
theorem digs_zero (n : Nat) : digsL (List.replicate n zeroD) = List.replicate (n * 32) (.int .u8 0) := by
 rw [List.eq_replicate_iff]
 refine ⟨by rw [length_digsL, List.length_replicate], fun v hv => ?_⟩
 unfold digsL at hv
 obtain ⟨d, hd, hv⟩ := List.mem_flatMap.1 hv
 rw [List.eq_of_mem_replicate hd, ← Dig.toList] at hv
 exact zero_cells v hv
theorem L_makeD (hd : o.dst = d) (hw : Region.wanted o (yielded ops a.tmps) = true) {T : TypeId} {x y : Operand} (ho : o.op = .makeSlice T x y) {n : Nat} (hx : a.eval x = .int .i64 (n : Int)) (hy : a.eval y = .int .i64 (n : Int))
  {e : TypeId} (hu : P.underlying T = some (.slice e)) {b : Nat} (he : ElemIs P e (.agg zeroD.arr) 32 b) (hb : n * b ≤ 281474976710656) (hn : n ≤ maxLen)
  (h : ∀ (g : Option Addr) (W' : World), St W W' [.row g n n e 32 (digsL (List.replicate n zeroD))] → wpList P ops Q rest (a.put d (.slice g n n)) W') : wpList P ops Q (o :: rest) a W := by
 obtain ⟨i, hi, hiz, his, hib⟩ := he.parts
 have hn' : (n : Int) ≤ 9223372036854775807 := by simp only [maxLen] at hn; omega
 have hr := run_make (P := P) W T e i (.agg zeroD.arr) hu hi hiz .i64 .i64 n n (by omega) (Int.le_refl _) (by rw [hib, Int.mul_comm]; omega) hn'
 simp only [Int.toNat_natCast] at hr
 have hsz := size_madeCells (Value.agg zeroD.arr).cells (n * i.size)
 have hcells : (madeCells (Value.agg zeroD.arr).cells (n * i.size)).toList = digsL (List.replicate n zeroD) := by
  rw [digs_zero, List.eq_replicate_iff]
  refine ⟨by rw [Array.length_toList, hsz, his], fun v hv => ?_⟩
  rw [Array.mem_toList_iff] at hv
  unfold madeCells at hv
  simp only [Value.cells] at hv
  obtain ⟨j, hj, rfl⟩ := Array.mem_map.1 hv
  have hlt : j % zeroD.arr.size < zeroD.arr.size := Nat.mod_lt _ (by rw [Dig.size]; decide)
  have h5 : zeroD.arr[j % zeroD.arr.size]! = zeroD.arr[j % zeroD.arr.size]'hlt := getElem!_pos zeroD.arr _ hlt
  rw [h5]
  exact zero_cells _ (Array.mem_toList_iff.2 (Array.getElem_mem hlt))
 have hrow := St.newRow (W := W) e (n := n) (s := 32) (cs := madeCells (Value.agg zeroD.arr).cells (n * i.size)) (by rw [hsz, his]) hn
 rw [hcells] at hrow
 refine L_val hd hw ?_ (h _ _ hrow)
 unfold execOp
 simp only [ho, hx, hy]
 simp [hr]
end
attribute [local simp] prArr_size
set_option maxHeartbeats 8000000 in
set_option maxRecDepth 100000 in
theorem tPathM_any (es : List (Nat × Dig)) (A : Option Addr) (n c k : Nat) (w : World) (hT : Tb w) (hx : SlR w A n c 33 (entL es)) (hn : n ≤ 64) (hk : ∀ e ∈ es, e.1 < 4294967296) (hd : (es.map (·.1)).Nodup) (hk2 : k < 4294967296) :
  Calls Tryd.prog 69 #[.slice A n c, .int .i64 (k : Int)] w fun e w' => ∃ O oc, e = .returned (.tuple #[.slice O 32 oc, .nilIface]) ∧ St w w' [.row O 32 oc 30 32 (digsL (mPath (leafAt es) k 32))] := by
 have hst := St.refl w
 have HT := Lib.hid hT
 have HS := Lib.hid (fun (w' : World) (h : SlR w' A n c 33 (entL es)) => tsorted_any es A n c w' h hn hk hd)
 have HK := Lib.hid (fun w : World => by have h := tkey_any (k : Int) w; rw [decide_eq_true (show 0 ≤ (k : Int) ∧ (k : Int) < 4294967296 by omega)] at h; exact h)
 have HE := Lib.hid (fun (ss : List (Nat × Dig)) (hs : ss.Pairwise fun a b => a.1 < b.1) (hp : ss.Perm es) => nodup_perm hs hp)
 have HB := Lib.hid (fun (ss : List (Nat × Dig)) (hp : ss.Perm es) (e : Nat × Dig) (he : e ∈ ss) => hk e (hp.mem_iff.1 he))
 generalize hf : leafAt es = f at *
 have Hk2 := Lib.hid hk2
 have hZ := Lib.hid (show digsL (List.replicate 32 zeroD) = digsL (pthN f k 32) from by rw [pthN_32])
 have h0Z := Lib.hid (pthN_0 f k)
 clear hT hk hd hf hk2
 go_enter Tryd.func69, Tryd.ntmps69
 go_upto_region 1 with (go_big_may; fail)
 go_upto_region 2 with (go_big_may; (go_at_call 83; (try clear hnew); refine (HS.out _ (hst.old (by decide) hx)).mono ?_; rintro e Ws ⟨ss, O, oc, rfl, hs, hp, hnew⟩; have HSP := Lib.hid (And.intro hs hp); clear hs hp; replace hst := hst.trans hnew; simp only [List.cons_append, List.nil_append] at hst))
 go_upto_region 4 with (go_big_may; fail)
 go_upto_region 6 with (go_big_may; (go_at_call 89; (try clear hnew); refine (HK.out _).mono ?_; rintro e Wk1 ⟨rfl, hnew⟩; replace hst := hst.keep hnew))
 (try clear hnew)
 go_upto_region 7 with (go_big_may; (refine L_makeD (d := some 24) (n := 32) rfl rfl rfl (by rfl) (by rfl) Tryd.underlying36 el_api_Digest (by decide) (by decide) ?_; intro Pp W24 hnew; replace hst := hst.trans hnew; simp only [List.cons_append, List.nil_append] at hst; rw [hZ.out] at hst))
 go_upto_region 8 with (go_big_may; fail)
 (try clear hnew)
 go_loopg [6, 9] 32 (fun gk s6 s9 wr => ∃ (own : List (Nat × Dig)) (A' : Option Addr) (n' c' : Nat), Hid (gk ≤ 32 ∧ (own.Pairwise fun x y => x.1 < y.1) ∧ (∀ e ∈ own, k / 2 ^ gk * 2 ^ gk ≤ e.1 ∧ e.1 < k / 2 ^ gk * 2 ^ gk + 2 ^ gk) ∧ (∀ x, k / 2 ^ gk * 2 ^ gk ≤ x → x < k / 2 ^ gk * 2 ^ gk + 2 ^ gk → leafAt own x = f x)) ∧
  Hid (∀ V, SlR V O n oc 33 (entL ss) → SlR V A' n' c' 33 (entL own)) ∧ s9 = .int .i64 ((gk : Int) - 1) ∧ s6 = .slice A' n' c' ∧ St w wr [.row Pp 32 32 30 32 (digsL (pthN f k gk)), .row O n oc 115 33 (entL ss)])
 case atStart =>
  refine ⟨ss, O, n, oc, Lib.hid ⟨Nat.le_refl _, HSP.out.1, ?_, ?_⟩, Lib.hid (fun V h => h), rfl, rfl, hst⟩
  ·intro e he
   have := HB.out ss HSP.out.2 e he
   have hk := Hk2.out
   rw [Nat.div_eq_of_lt (by omega)]
   omega
  ·intro x _ _
   rw [HE.out ss HSP.out.1 HSP.out.2]
 case round =>
  clear hst
  obtain ⟨es', A', n', c', HG, HO, rfl, rfl, hst⟩ := hrel
  cases gk with
  | zero =>
   rw [h0Z.out] at hst
   go_wp2_with (fail)
   go_ret2
   exact ⟨Pp, 32, rfl, hst.pick [0] (by decide)⟩
  | succ b =>
   obtain ⟨hb32, g1, g2, g3⟩ := HG.out
   have hk := Hk2.out
   have hb31 : b ≤ 31 := by omega
   have e1 : ((b + 1 : Nat) : Int) - 1 = (b : Int) := by omega
   rw [e1]
   have hus := under_step (b := b) (k := k) g1 g2 rfl g3
   obtain ⟨q, hq1, hq2⟩ := sib_form hk hb31
   have hps := pthN_set f k b (by omega)
   have hds := digsL_putD (pthN f k (b + 1)) b (mRoot f b (sibN b k)) (by rw [pthN_len]; omega)
   rw [hps] at hds
   have HSET := Lib.hid (show List.take (((b : Nat) : Int).toNat * 32) (digsL (pthN f k (b + 1))) ++ (mRoot f b (sibN b k)).arr.toList ++ List.drop (((b : Nat) : Int).toNat * 32 + 32) (digsL (pthN f k (b + 1))) = digsL (pthN f k b) from hds)
   have HH := Lib.hid (fun (w' : World) (h : SlR w' A' n' c' 33 (entL es')) => halves_any es' A' n' c' b w' h hb31 (fun e he => by
    have h1 := g2 e he
    have h2 := par_le hk hb31
    omega))
   have HRT0 := fun (oth : List (Nat × Dig)) (ho1 : oth.Pairwise fun x y => x.1 < y.1) (ho2 : ∀ e ∈ oth, sibN b k ≤ e.1 ∧ e.1 < sibN b k + 2 ^ b) (ho3 : ∀ x, sibN b k ≤ x → x < sibN b k + 2 ^ b → leafAt oth x = f x) (A1 : Option Addr) (n1 c1 : Nat) (w' : World) (ht : Tb w') (h : SlR w' A1 n1 c1 33 (entL oth)) =>
    show Calls Tryd.prog 84 #[.slice A1 n1 c1, .int .i64 (b : Int)] w' fun e w'' => e = .returned (mRoot f b (sibN b k)).v ∧ St w' w'' [] from by
     have h1 := troot_any b oth A1 n1 c1 q w' ht h (by omega) ho1 (fun e he => by rw [← hq1]; exact ho2 e he) hq2
     rw [← hq1, mRoot_congr b (sibN b k) ho3] at h1
     exact h1
   have hq : k / 2 ^ b < 2 ^ 63 := Nat.lt_of_le_of_lt (Nat.div_le_self _ _) (by omega)
   by_cases hb1 : k / 2 ^ b % 2 = 1
   ·obtain ⟨own, hown0⟩ : ∃ own, own = es'.drop (cutI b es') := ⟨_, rfl⟩
    obtain ⟨oth, hoth0⟩ : ∃ oth, oth = es'.take (cutI b es') := ⟨_, rfl⟩
    obtain ⟨u1, u2, u3, u4, u5, u6⟩ := hus own oth (by rw [if_pos hb1, hown0, hoth0])
    have HU := Lib.hid (And.intro u1 (And.intro u2 u3))
    have HRT := Lib.hid (HRT0 oth u4 u5 u6)
    have HB2 := Lib.hid hb1
    rw [← hown0, ← hoth0] at HH
    clear u1 u2 u3 u4 u5 u6 hus HRT0 hb1 hown0 hoth0 g1 g2 g3 hq1 hq2 hps hds e1 HG hk
    generalize mRoot f b (sibN b k) = rt at *
    generalize digsL (pthN f k (b + 1)) = x1 at *
    generalize hx00 : digsL (pthN f k b) = x0 at *
    have HX0 := Lib.hid hx00
    clear hx00
    generalize entL oth = eo at *
    generalize entL es' = e' at *
    go_wp2_with (first | (go_at_call 103; (try clear hnew); refine (HH.out _ (HO.out _ (hst.sl 1 rfl))).mono ?_; rintro e Wh ⟨A1, n1, c1, A2, n2, c2, rfl, hx1, hx2, hnew⟩; have HX1 := Lib.hid hx1; have HX2 := Lib.hid hx2; clear hx1 hx2; replace hst := hst.keep hnew; clear hnew) | (refine L_shrN (d := some 37) rfl rfl rfl (ev_tmp rfl) (ev_tmp rfl) (by omega) ?_) | (refine L_and1 (d := some 38) rfl rfl rfl (ev_tmp rfl) ev_const hq ?_; rw [HB2.out]) | (go_at_call 84; (try clear hnew); refine (HRT.out _ _ _ _ (HT.out.of hst) (HX1.out _ (HO.out _ (hst.sl 1 rfl)))).mono ?_; rintro e Wr ⟨rfl, hnew⟩; replace hst := hst.keep hnew) | ((refine L_idxO (d := some 48) rfl rfl hst rfl (by rfl) (by rfl) Tryd.underlying36 el_api_Digest 0 rfl (by (rfl)) (by omega) (by omega) ?_; intro o48 p48 ha48; ((subst ha48)))) | (refine wpl_at (.store 30 (.tmp 48) (.tmp 47)) rfl ?_; (refine L_storeRM rfl rfl hst rfl (by rfl) (ev_tmp rfl) (by (exact Dig.one _)) el_api_Digest (by (exact Dig.size _)) 0 rfl (by (omega)) ?_; clear hst; intro WS6 hst; simp only [List.set_cons_zero, List.set_cons_succ, HSET.out] at hst)))
    go_roundg b
    case measure => exact Nat.lt_succ_self b
    case rel =>
     refine ⟨own, A2, n2, c2, Lib.hid ⟨by omega, HU.out⟩, Lib.hid (fun V hV => HX2.out V (HO.out V hV)), by go_num, rfl, ?_⟩
     rw [HX0.out]
     exact hst
   ·obtain ⟨own, hown0⟩ : ∃ own, own = es'.take (cutI b es') := ⟨_, rfl⟩
    obtain ⟨oth, hoth0⟩ : ∃ oth, oth = es'.drop (cutI b es') := ⟨_, rfl⟩
    obtain ⟨u1, u2, u3, u4, u5, u6⟩ := hus own oth (by rw [if_neg hb1, hown0, hoth0])
    have HU := Lib.hid (And.intro u1 (And.intro u2 u3))
    have HRT := Lib.hid (HRT0 oth u4 u5 u6)
    have HB2 := Lib.hid (show k / 2 ^ b % 2 = 0 by omega)
    rw [← hown0, ← hoth0] at HH
    clear u1 u2 u3 u4 u5 u6 hus HRT0 hb1 hown0 hoth0 g1 g2 g3 hq1 hq2 hps hds e1 HG hk
    generalize mRoot f b (sibN b k) = rt at *
    generalize digsL (pthN f k (b + 1)) = x1 at *
    generalize hx00 : digsL (pthN f k b) = x0 at *
    have HX0 := Lib.hid hx00
    clear hx00
    generalize entL oth = eo at *
    generalize entL es' = e' at *
    go_wp2_with (first | (go_at_call 103; (try clear hnew); refine (HH.out _ (HO.out _ (hst.sl 1 rfl))).mono ?_; rintro e Wh ⟨A1, n1, c1, A2, n2, c2, rfl, hx1, hx2, hnew⟩; have HX1 := Lib.hid hx1; have HX2 := Lib.hid hx2; clear hx1 hx2; replace hst := hst.keep hnew; clear hnew) | (refine L_shrN (d := some 37) rfl rfl rfl (ev_tmp rfl) (ev_tmp rfl) (by omega) ?_) | (refine L_and1 (d := some 38) rfl rfl rfl (ev_tmp rfl) ev_const hq ?_; rw [HB2.out]) | (go_at_call 84; (try clear hnew); refine (HRT.out _ _ _ _ (HT.out.of hst) (HX2.out _ (HO.out _ (hst.sl 1 rfl)))).mono ?_; rintro e Wr ⟨rfl, hnew⟩; replace hst := hst.keep hnew) | ((refine L_idxO (d := some 48) rfl rfl hst rfl (by rfl) (by rfl) Tryd.underlying36 el_api_Digest 0 rfl (by (rfl)) (by omega) (by omega) ?_; intro o48 p48 ha48; ((subst ha48)))) | (refine wpl_at (.store 30 (.tmp 48) (.tmp 47)) rfl ?_; (refine L_storeRM rfl rfl hst rfl (by rfl) (ev_tmp rfl) (by (exact Dig.one _)) el_api_Digest (by (exact Dig.size _)) 0 rfl (by (omega)) ?_; clear hst; intro WS6 hst; simp only [List.set_cons_zero, List.set_cons_succ, HSET.out] at hst)))
    go_roundg b
    case measure => exact Nat.lt_succ_self b
    case rel =>
     refine ⟨own, A1, n1, c1, Lib.hid ⟨by omega, HU.out⟩, Lib.hid (fun V hV => HX1.out V (HO.out V hV)), by go_num, rfl, ?_⟩
     rw [HX0.out]
     exact hst
end Go.Proofs.YtaebeemnipafbaaDoor

set_option maxRecDepth 20000
set_option linter.unusedSimpArgs false
set_option linter.unusedVariables false
namespace Go.Proofs.YtaebeemnipafbaaDoor
open Go.RowKit
theorem St.swap {w0 W : World} {X Y L : List Res} (h : St w0 W (X ++ (Y ++ L))) : St w0 W (Y ++ (X ++ L)) :=
 h.perm (by
  rw [← List.append_assoc, ← List.append_assoc]
  exact (List.perm_append_comm).append_right L)
theorem hdArr_putMap (n : Int) (x y z d : Dig) : putAt (hdArr n x y z) 33 d.arr.toList = hdArr n x d z :=
 put_part (cs := hdArr n x y z) (ds := hdArr n x d z) (.int .i64 n :: x.arr.toList) y.arr.toList d.arr.toList z.arr.toList (by rw [hdArr_list]; simp) (by rw [hdArr_list]; simp) (by rw [dig_len, dig_len]) (by simp [Dig.size])
section
variable {ops : Array Oper} {rest : List Oper} {o : Oper} {a : Act} {W : World} {Q : Exit → Act → World → Prop} {d : Option Tmp}
theorem L_buildHd (hd : o.dst = d) (hw : Region.wanted o (yielded ops a.tmps) = true) {x : Operand} (ho : o.op = .build 32 #[(0, x)]) {n : Int} (hx : a.eval x = .int .i64 n)
  (h : wpList Tryd.prog ops Q rest (a.put d (.agg (hdArr n zeroD zeroD zeroD))) W) : wpList Tryd.prog ops Q (o :: rest) a W :=
 L_buildT hd hw ho Tryd.underlying32 el_api_Head [(0, 1), (1, 32), (33, 32), (65, 32)] (by kernel_rfl) (ps := [(0, .int .i64 n)]) (by simp [hx]) (qs := [(0, [.int .i64 n])])
  ⟨rfl, rfl, by simp [hdArr_size], trivial⟩
  (put_part (cs := hdArr 0 zeroD zeroD zeroD) (ds := hdArr n zeroD zeroD zeroD) [] [.int .i64 0] [.int .i64 n] (zeroD.arr.toList ++ (zeroD.arr.toList ++ zeroD.arr.toList)) rfl rfl rfl rfl) h
end
def headR (key : List UInt8) (ns : List NoteN) : Dig := tagN key (ns.length : Int) (rootN (lvN ns)) (mapN ns)
def headA (key : List UInt8) (ns : List NoteN) : Array Value := hdArr (ns.length : Int) (rootN (lvN ns)) (mapN ns) (headR key ns)
attribute [local simp] hdArr_size
set_option maxHeartbeats 8000000 in
set_option maxRecDepth 100000 in
theorem head_any (key : List UInt8) (ns : List NoteN) (p : LgP) (w0 w : World) (L : List Res) (hT : Tb w0) (hst : St w0 w (lgL p key ns ++ L)) (hm : MapsOf ns p.nm p.am) (hl : Logged ns) (hpm : p.m ≤ 140737488355000) :
  Calls Tryd.prog 14 #[.pointer (some ⟨p.g, 0, none⟩)] w fun e w' => e = .returned (.agg (headA key ns)) ∧ St w0 w' (lgL p key ns ++ L) := by
 have HT := Lib.hid hT
 have hn := hl.len
 have HE := Lib.hid (fun (w' : World) (X : List Res) (h : St w0 w' (X ++ (lgL p key ns ++ L))) => entries_any key ns p w0 w' (X ++ L) (St.swap h) hm hl)
 have HRt := Lib.hid (fun (es : List (Nat × Dig)) (O : Option Addr) (oc : Nat) (w' : World) (ht : Tb w') (h1 : es.length ≤ 64) (h2 : ∀ e ∈ es, e.1 < 4294967296) (h3 : (es.map (·.1)).Nodup) (h4 : leafAt es = lgF ns) (h : SlR w' O es.length oc 33 (entL es)) => by
  have := tRootM_any es O es.length oc w' ht h h1 h2 h3
  rw [h4] at this
  exact this)
 have HTg := Lib.hid (show headR key ns = tagN key (ns.length : Int) (rootN (lvN ns)) (mapN ns) from rfl)
 have HMp := Lib.hid (show mRoot (lgF ns) 32 0 = mapN ns from rfl)
 rw [HMp.out] at HRt
 unfold headA
 have HP := Lib.hid (show ∀ (X : List Res) (w' : World), St w0 w' (lgL p key ns ++ (X ++ L)) → St w0 w' (X ++ (lgL p key ns ++ L)) from fun X w' h => St.swap h)
 obtain ⟨g, m, c, lc, Mn, Ma, A, O0, nm, am⟩ := p
 simp only at *
 have hst0 := hst
 simp only [lgL, List.cons_append, List.nil_append] at hst
 have HTt := Lib.hid (fun (w' : World) (x y : Dig) (ht : Tb w') (hk : SlR w' A m c 1 (bytesL key)) => tag_any key A m c (ns.length : Int) x y zeroD w' (by omega) (by omega) ht hk hpm)
 generalize headR key ns = tg at *
 generalize mapN ns = mp at *
 clear hT hm hl hst0 hpm
 go_enter Tryd.func14, Tryd.ntmps14
 go_upto_region 1 with (go_big_may; (refine L_allocA (d := some 2) rfl rfl rfl el_api_Head ?_; (try clear hnew); intro g2 W2 hnew; replace hst := hst.trans hnew; simp only [List.cons_append, List.nil_append] at hst))
 go_upto_region 2 with (go_big_may; first | (refine L_buildHd (d := some 9) rfl rfl rfl (ev_tmp rfl) ?_) | (refine L_load1 (d := some 7) rfl rfl rfl (by rfl) Tryd.underlying36 rfl (by (exact cell_of (hst.get 1 rfl) lgArr_1)) ?_) | (refine L_allocA (d := some 3) rfl rfl rfl el_api_Head ?_; (try clear hnew); intro g3 W3 hnew; replace hst := hst.trans hnew; simp only [List.cons_append, List.nil_append] at hst) | (refine wpl_at (.store 32 (.tmp 3) (.tmp 9)) rfl ?_; (refine L_storeA rfl rfl hst rfl (by rfl) (ev_tmp rfl) (by (exact hdArr_all _ _ _ _)) el_api_Head (by (rfl)) 0 rfl (by (rfl)) ?_; clear hst; intro WS7 hst; simp only [List.set_cons_zero, List.set_cons_succ, hdArr_putRoot _ _ _ _ _] at hst)))
 go_upto_region 3 with (go_big_may; first | (go_at_call 43; (try clear hnew); refine (tRoot_any (lvN ns) _ _ _ _ (HT.out.of hst) (by (exact hst.sl 4 rfl)) hn).mono ?_; rintro e Wk1 ⟨rfl, hnew⟩; replace hst := hst.keep hnew) | (refine L_load1 (d := some 14) rfl rfl rfl (by rfl) Tryd.underlying36 rfl (by (exact cell_of (hst.get 2 rfl) lgArr_1)) ?_) | (refine wpl_at (.store 30 (.tmp 18) (.tmp 16)) rfl ?_; (refine L_storeM rfl rfl hst rfl (by rfl) (ev_tmp rfl) (by (exact Dig.one _)) el_api_Digest (by (exact Dig.size _)) 0 rfl (by (exact of_decide_eq_true rfl)) ?_; clear hst; intro WS9 hst; simp only [List.set_cons_zero, List.set_cons_succ, hdArr_putRoot _ _ _ _ _] at hst)))
 go_upto_region 4 with (go_big_may; first | (go_at_call 45; refine (HE.out _ [_, _] hst).mono ?_; rintro e We ⟨es, Oe, oe, rfl, h1, h2, h3, h4, hst'⟩; clear hst; have hst := hst'; clear hst'; have H1 := Lib.hid h1; have H2 := Lib.hid h2; have H3 := Lib.hid h3; have H4 := Lib.hid h4; clear h1 h2 h3 h4; simp only [lgL, List.cons_append, List.nil_append] at hst) | (go_at_call 44; (try clear hnew); refine (HRt.out es _ _ _ (HT.out.of hst) H1.out H2.out H3.out H4.out (hst.sl 0 rfl)).mono ?_; rintro e Wk2 ⟨rfl, hnew⟩; replace hst := hst.keep hnew) | (refine wpl_at (.store 30 (.tmp 25) (.tmp 23)) rfl ?_; (refine L_storeM rfl rfl hst rfl (by rfl) (ev_tmp rfl) (by (exact Dig.one _)) el_api_Digest (by (exact Dig.size _)) 6 rfl (by (simp; done)) ?_; clear hst; intro WS7 hst; simp only [List.set_cons_zero, List.set_cons_succ, hdArr_putMap _ _ _ _ _] at hst)))
 refine wp_region_idx [(0, 0), (1, 0), (2, 0), (3, 0), (4, 2), (5, 2), (6, 2), (7, 1)] (by kernel_rfl) (by kernel_rfl) ?_
 replace hst := hst.drew
 refine idx_q rfl rfl ?_; go_wp2_with fail
 refine idx_q rfl rfl ?_; go_wp2_with fail
 refine idx_qf rfl rfl (by kernel_rfl) ?_; go_wp2_with fail
 refine idx_q rfl rfl ?_; go_wp2_with ((refine L_load1 (d := some 29) rfl rfl rfl (by rfl) Tryd.underlying22 rfl (by (exact cell_of (hst.get 1 rfl) lgArr_0)) ?_))
 refine idx_g rfl ?_; go_wp2_with (((refine L_loadA (d := some 30) rfl rfl rfl (by rfl) Tryd.underlying32 rfl el_api_Head (by (exact hst.get 6 rfl)) (by (exact hdArr_size _ _ _ _)) ?_))); refine ⟨by (exact Below.refl _ _), ?_⟩
 refine idx_g rfl ?_; go_wp2_with ((go_at_call 29; (try clear hnew); refine (HTt.out _ _ _ (HT.out.of hst) (hst.sl 2 rfl)).mono ?_; rintro e Wk3 ⟨rfl, hnew⟩; replace hst := hst.keep hnew)); refine ⟨by (exact hnew.below), ?_⟩
 refine idx_g rfl ?_; go_wp2_with fail; refine ⟨by (exact Below.refl _ _), ?_⟩
 refine idx_e rfl ?_; go_wp2_with ((refine wpl_at (.store 30 (.tmp 32) (.tmp 31)) rfl ?_; (refine L_storeM rfl rfl hst rfl (by rfl) (ev_tmp rfl) (by (exact Dig.one _)) el_api_Digest (by (rfl)) 6 rfl (by (simp; done)) ?_; clear hst; intro WS7 hst; simp only [List.set_cons_zero, List.set_cons_succ, hdArr_putTag _ _ _ _ _] at hst)))
 refine idx_nil ?_
 go_wp2_with (first | ((refine L_loadA (d := some 33) rfl rfl rfl (by rfl) Tryd.underlying32 rfl el_api_Head (by (exact hst.get 6 rfl)) (by (exact hdArr_size _ _ _ _)) ?_)) | (refine wpl_at (.store 32 (.tmp 2) (.tmp 33)) rfl ?_; (refine L_storeA rfl rfl hst rfl (by rfl) (ev_tmp rfl) (by (exact hdArr_all _ _ _ _)) el_api_Head (by (exact hdArr_size _ _ _ _)) 7 rfl (by (rfl)) ?_; clear hst; intro WS1 hst; simp only [List.set_cons_zero, List.set_cons_succ] at hst)))
 refine bp_cell rfl rfl rfl (hst.get 7 rfl) Tryd.underlying32 rfl el_api_Head (by (simp; done)) ?_
 rw [HTg.out]
 simp only [lgL, List.cons_append, List.nil_append]
 exact ⟨trivial, hst.drop (.cons _ (.cons_cons _ (.cons_cons _ (.cons_cons _ (.cons_cons _ (.cons_cons _ (.cons _ (.cons _ (List.Sublist.refl L)))))))))⟩
def sinceA (ns : List NoteN) (m : Int) : Option (List Dig) := if 256 < ns.length then none else if m < 1 ∨ (ns.length : Int) < m then none else some (gpN (lvN ns) m.toNat true)
theorem since_any (key : List UInt8) (ns : List NoteN) (p : LgP) (m : Int) (w0 w : World) (L : List Res) (hT : Tb w0) (hst : St w0 w (lgL p key ns ++ L)) (hl : Logged ns) (h1 : 1 ≤ m) (h2 : m ≤ (ns.length : Int)) :
  Calls Tryd.prog 26 #[.pointer (some ⟨p.g, 0, none⟩), .int .i64 m] w fun e w' => ∃ O oc, e = .returned (.tuple #[.slice O (plN ns.length m.toNat true) oc, .nilIface]) ∧
   St w0 w' (.row O (plN ns.length m.toNat true) oc 30 32 (digsL (gpN (lvN ns) m.toNat true)) :: (lgL p key ns ++ L)) := by
 have hn := hl.len
 obtain ⟨k, rfl⟩ := Int.eq_ofNat_of_zero_le (show 0 ≤ m by omega)
 rw [Int.toNat_natCast]
 obtain ⟨g, mm, c, lc, Mn, Ma, A, O0, nm, am⟩ := p
 have hst0 := hst
 simp only [lgL, List.cons_append, List.nil_append] at hst
 have HP := Lib.hid (gProof_any (lvN ns) O0 ns.length lc k w (hT.of hst) (hst.sl 2 rfl) (by omega) (by omega) hn)
 go_enter Tryd.func26, Tryd.ntmps26
 go_wp2_with (first | (go_at_call 65; refine HP.out.mono ?_; rintro e W21 ⟨O, oc, rfl, hnew⟩; replace hst := hst0.trans hnew) | (refine L_load1 (d := some 9) rfl rfl rfl (by rfl) Tryd.underlying36 rfl (by (exact cell_of (hst.get 0 rfl) lgArr_1)) ?_))
 exact bp_two rfl rfl rfl rfl ⟨_, _, rfl, hst⟩
theorem since_no (key : List UInt8) (ns : List NoteN) (p : LgP) (m : Int) (w0 w : World) (L : List Res) (hst : St w0 w (lgL p key ns ++ L)) (hl : Logged ns) (hi : m < 1 ∨ (ns.length : Int) < m) :
  Calls Tryd.prog 26 #[.pointer (some ⟨p.g, 0, none⟩), .int .i64 m] w fun e w' => e = .returned (.tuple #[.slice none 0 0, errV 2]) ∧ St w0 w' (lgL p key ns ++ L) := by
 have hn := hl.len
 obtain ⟨g, mm, c, lc, Mn, Ma, A, O0, nm, am⟩ := p
 have hst0 := hst
 simp only [lgL, List.cons_append, List.nil_append] at hst
 have HP := Lib.hid (gProof_range O0 ns.length lc m w hn hi)
 go_enter Tryd.func26, Tryd.ntmps26
 go_wp2_with (first | (go_at_call 65; refine HP.out.mono ?_; rintro e W21 ⟨rfl, hnew⟩; replace hst := hst0.keep hnew) | (refine L_load1 (d := some 9) rfl rfl rfl (by rfl) Tryd.underlying36 rfl (by (exact cell_of (hst.get 0 rfl) lgArr_1)) ?_))
 exact bp_two rfl rfl rfl rfl ⟨rfl, hst⟩
end Go.Proofs.YtaebeemnipafbaaDoor

set_option maxRecDepth 20000
set_option linter.unusedSimpArgs false
set_option linter.unusedVariables false
namespace Go.Proofs.YtaebeemnipafbaaDoor
open Go.RowKit
def growsB (m s : Int) (old now : Dig) (p : List Dig) : Bool :=
 decide (1 ≤ m ∧ m ≤ s ∧ s ≤ 256 ∧ p.length = plN s.toNat m.toNat true) && (decide ((grN s.toNat m.toNat true old p).1 = old) && decide ((grN s.toNat m.toNat true old p).2 = now))
theorem check_all (m s : Int) (old now : Dig) (p : List Dig) (P : Option Addr) (k pc : Nat) (w : World) (hT : Tb w) (hs : SlR w P k pc 32 (digsL p)) :
  Calls Tryd.prog 32 #[.int .i64 m, .int .i64 s, old.v, now.v, .slice P k pc] w fun e w' => e = .returned (.bool (growsB m s old now p)) ∧ St w w' [] := by
 have hl : p.length = k := by have := hs.1; rw [length_digsL] at this; omega
 by_cases hr : s < 1 ∨ 256 < s ∨ m < 1 ∨ s < m
 ·rw [show growsB m s old now p = false by
   unfold growsB
   rw [decide_eq_false (by omega), Bool.false_and]]
  exact gCheck_no s m old now P k pc 2 w (fun w' _ => gFold_range s m old P k pc w' (by omega))
 ·have em : ((m.toNat : Nat) : Int) = m := by omega
  have es : ((s.toNat : Nat) : Int) = s := by omega
  by_cases hk : k = plN s.toNat m.toNat true
  ·have := gCheck_any s.toNat m.toNat old now p P k pc w hT hs hk (by omega) (by omega) (by omega)
   rw [em, es] at this
   rw [show growsB m s old now p = (decide ((grN s.toNat m.toNat true old p).1 = old) && decide ((grN s.toNat m.toNat true old p).2 = now)) by
    unfold growsB
    rw [decide_eq_true ⟨by omega, by omega, by omega, by omega⟩, Bool.true_and]]
   exact this
  ·rw [show growsB m s old now p = false by
    unfold growsB
    rw [decide_eq_false (by omega), Bool.false_and]]
   refine gCheck_no s m old now P k pc 3 w (fun w' hst => ?_)
   have := gFold_length s.toNat m.toNat old p P k pc w' (Tb.of hT hst) (hst.old (by decide) hs) hk (by omega) (by omega) (by omega)
   rwa [em, es] at this
def takeN (key : List UInt8) (n0 : Int) (x0 y0 : Dig) (n : Int) (x y z : Dig) (p : List Dig) : Nat :=
 if z = tagN key n x y then
  if n < 0 ∨ 256 < n then 2
  else if n < n0 then 8
  else if n = n0 then (if x = x0 ∧ y = y0 then 0 else 9)
  else if n0 = 0 then (if p = [] then 0 else 9)
  else if growsB n0 n x0 x p then 0 else 9
 else 1
def errO (r : Nat) : Value := if r = 0 then .nilIface else errV r
end Go.Proofs.YtaebeemnipafbaaDoor

set_option maxRecDepth 20000
set_option linter.unusedSimpArgs false
set_option linter.unusedVariables false
namespace Go.Proofs.YtaebeemnipafbaaDoor
structure FoundN where
 note : NoteN
 at_ : Int
 path : List Dig
 mpath : List Dig
def zeroNt : NoteN := ⟨[], zeroD, 0⟩
def zeroFd : FoundN := ⟨zeroNt, 0, [], []⟩
def findN (ns : List NoteN) (s : List UInt8) : FoundN :=
 if isNm s = true then
  match lastI ns s with
  | some i => ⟨ns[i]?.getD zeroNt, (i : Int), pathN (lvN ns) i, mPath (lgF ns) (idxN s) 32⟩
  | none => ⟨zeroNt, 0, [], mPath (lgF ns) (idxN s) 32⟩
 else zeroFd
def findE (s : List UInt8) : Nat := if isNm s = true then 0 else 1
def mapTold (y : Dig) (s : List UInt8) (l : Dig) (p : List Dig) : Prop := p.length = 32 ∧ mFold (idxN s) l p = y
def treeTold (n : Int) (x : Dig) (l : Dig) (i : Int) (p : List Dig) : Prop := 1 ≤ n ∧ n ≤ 256 ∧ 0 ≤ i ∧ i < n ∧ p.length = longN i.toNat n.toNat ∧ foldedN l i.toNat n.toNat p = x
instance (y : Dig) (s : List UInt8) (l : Dig) (p : List Dig) : Decidable (mapTold y s l p) := by unfold mapTold; exact inferInstance
instance (n : Int) (x : Dig) (l : Dig) (i : Int) (p : List Dig) : Decidable (treeTold n x l i p) := by unfold treeTold; exact inferInstance
def lookN (n : Int) (x y : Dig) (s : List UInt8) (f : FoundN) : Nat × Option NoteN :=
 if isNm s = true then
  if f.note.name = [] then
   (if f.note.key = zeroD ∧ f.note.turn = 0 ∧ f.at_ = 0 ∧ f.path = [] ∧ mapTold y s zeroD f.mpath then (0, none) else (9, none))
  else if noteOk f.note = true ∧ f.note.name = s then
   (if mapTold y s (eLeaf (idxN s) (ntLeaf f.note)) f.mpath ∧ treeTold n x (ntLeaf f.note) f.at_ f.path then (0, some f.note) else (9, none))
  else (9, none)
 else (1, none)
theorem length_lvN (ns : List NoteN) : (lvN ns).length = ns.length := by simp [lvN]
theorem lvN_at {ns : List NoteN} {i : Nat} {n : NoteN} (h : ns[i]? = some n) : ∃ hi : i < (lvN ns).length, (lvN ns)[i] = ntLeaf n := by
 have hi := (List.getElem?_eq_some_iff.1 h).1
 refine ⟨by rw [length_lvN]; exact hi, ?_⟩
 simp only [lvN, List.getElem_map]
 rw [(List.getElem?_eq_some_iff.1 h).2]
theorem idxN_lt' (s : List UInt8) : idxN s < 2 ^ 32 := idxN_lt s
theorem look_find {ns : List NoteN} (h : Logged ns) {s : List UInt8} (hs : isNm s = true) (hf : lastN? ns s = none → ∀ n ∈ ns, idxN n.name ≠ idxN s) :
  lookN (ns.length : Int) (rootN (lvN ns)) (mapN ns) s (findN ns s) = (0, lastN? ns s) := by
 unfold lookN findN
 rw [if_pos hs, if_pos hs]
 have hp : ∀ l, lgF ns (idxN s) = l → mapTold (mapN ns) s l (mPath (lgF ns) (idxN s) 32) := fun l hl => by
  refine ⟨length_mPath _ _ _, ?_⟩
  rw [← hl]
  exact mFold_root (lgF ns) (idxN_lt' s)
 cases hl : lastI ns s with
 | none =>
  have h0 : lastN? ns s = none := by unfold lastN?; rw [hl]; rfl
  rw [h0]
  simp only
  rw [if_pos (show zeroNt.name = [] from rfl), if_pos ⟨rfl, rfl, trivial, trivial, hp _ (lgF_none (hf h0))⟩]
 | some i =>
  obtain ⟨n, h1, h2⟩ := lastI_some hl
  have h0 : lastN? ns s = some n := by unfold lastN?; rw [hl]; exact h1
  have hm := List.mem_of_getElem? h1
  have hi := lastI_lt hl
  have hn := h.ok n hm
  have hle := h.len
  obtain ⟨hi', hv⟩ := lvN_at h1
  rw [h0]
  simp only [h1, Option.getD_some]
  have hne : n.name ≠ [] := fun e => by
   have := (isNm_len hs).1
   rw [← h2, e] at this
   exact absurd this (by decide)
  rw [if_neg hne, if_pos ⟨hn, h2⟩, if_pos]
  refine ⟨hp _ (h.lgF_at h0), by omega, by omega, by omega, by omega, ?_, ?_⟩
  ·rw [Int.toNat_natCast, Int.toNat_natCast]
   exact length_pathN _ _ _ (length_lvN ns)
  ·rw [Int.toNat_natCast, Int.toNat_natCast, ← hv]
   exact folded_path ns.length (lvN ns) i (length_lvN ns) hi
theorem lvN_take (ns : List NoteN) (m : Nat) : lvN (ns.take m) = (lvN ns).take m := by simp [lvN, List.map_take]
theorem grows_honest {ns : List NoteN} {m : Nat} (h1 : 1 ≤ m) (hm : m ≤ ns.length) (hl : ns.length ≤ 256) :
  growsB (m : Int) (ns.length : Int) (rootN (lvN (ns.take m))) (rootN (lvN ns)) (gpN (lvN ns) m true) = true := by
 have hg := grow_proves ns.length (lvN ns) m true (rootN (lvN (ns.take m))) (length_lvN ns) h1 hm (fun _ => by rw [lvN_take])
 unfold growsB
 rw [Int.toNat_natCast, Int.toNat_natCast, hg, lvN_take]
 have := length_gpN ns.length (lvN ns) m true (length_lvN ns)
 rw [this]
 simp
 omega
def prfN (ns : List NoteN) (m : Nat) : List Dig := if m = 0 then [] else gpN (lvN ns) m true
theorem take_honest (key : List UInt8) {ns : List NoteN} {m : Nat} (hm : m ≤ ns.length) (hl : ns.length ≤ 256) :
  takeN key (m : Int) (rootN (lvN (ns.take m))) (mapN (ns.take m)) (ns.length : Int) (rootN (lvN ns)) (mapN ns) (tagN key (ns.length : Int) (rootN (lvN ns)) (mapN ns)) (prfN ns m) = 0 := by
 unfold takeN
 rw [if_pos rfl, if_neg (by omega), if_neg (by omega)]
 by_cases c1 : (ns.length : Int) = (m : Int)
 ·have : m = ns.length := by omega
  subst this
  rw [if_pos rfl, List.take_length, if_pos ⟨rfl, rfl⟩]
 rw [if_neg c1]
 by_cases c2 : m = 0
 ·subst c2
  rw [if_pos (show ((0 : Nat) : Int) = 0 from rfl)]
  simp [prfN]
 ·rw [if_neg (by omega), if_pos]
  unfold prfN
  rw [if_neg c2]
  exact grows_honest (by omega) hm hl
def mClash : Nat → Dig → List Dig → Dig → List Dig → Bool
 | k, a, p :: ps, b, q :: qs =>
  let x := if k % 2 = 1 then (p, a) else (a, p)
  let y := if k % 2 = 1 then (q, b) else (b, q)
  if x ≠ y ∧ mNode x.1 x.2 = mNode y.1 y.2 then true else mClash (k / 2) (mNode x.1 x.2) ps (mNode y.1 y.2) qs
 | _, _, _, _, _ => false
theorem mClash_of : ∀ (ps qs : List Dig) (k : Nat) (a b : Dig), a ≠ b → ps.length = qs.length → mFold k a ps = mFold k b qs → mClash k a ps b qs = true
 | [], [], k, a, b, hne, _, h => absurd h hne
 | p :: ps, q :: qs, k, a, b, hne, hl, h => by
  rw [mFold, mFold] at h
  rw [mClash]
  by_cases hk : k % 2 = 1
  ·rw [if_pos hk, if_pos hk] at h
   simp only [hk, if_true]
   by_cases he : mNode p a = mNode q b
   ·rw [if_pos ⟨fun e => hne (Prod.mk.inj e).2, he⟩]
   ·rw [if_neg (fun e => he e.2)]
    exact mClash_of ps qs (k / 2) _ _ he (by simpa using hl) h
  ·rw [if_neg hk, if_neg hk] at h
   simp only [hk, if_false]
   by_cases he : mNode a p = mNode b q
   ·rw [if_pos ⟨fun e => hne (Prod.mk.inj e).1, he⟩]
   ·rw [if_neg (fun e => he e.2)]
    exact mClash_of ps qs (k / 2) _ _ he (by simpa using hl) h
 | [], _ :: _, _, _, _, _, hl, _ => by simp at hl
 | _ :: _, [], _, _, _, _, hl, _ => by simp at hl
end Go.Proofs.YtaebeemnipafbaaDoor

set_option maxRecDepth 20000
set_option linter.unusedSimpArgs false
set_option linter.unusedVariables false
namespace Go.Proofs.YtaebeemnipafbaaDoor
open Go.RowKit
theorem find_no (key : List UInt8) (ns : List NoteN) (s : List UInt8) (p : LgP) (w0 w : World) (L : List Res) (hst : St w0 w (lgL p key ns ++ L)) (hs : isNm s = false) :
  Calls Tryd.prog 30 #[.pointer (some ⟨p.g, 0, none⟩), .string (bsOf s)] w fun e w' => e = .returned (.tuple #[.agg (fdArr [] zeroD 0 0 none 0 0 none 0 0), errV 1]) ∧ St w0 w' (lgL p key ns ++ L) := by
 have HN := Lib.hid (fun w => by have := named_any s w; rw [hs] at this; exact this)
 generalize lgL p key ns ++ L = L0 at *
 clear hs
 go_enter Tryd.func30, Tryd.ntmps30
 go_upto_region 1 with (go_big_may; (refine L_allocA (d := some 4) rfl rfl rfl el_api_Found ?_; (try clear hnew); intro g4 W4 hnew; replace hst := hst.trans hnew; simp only [List.cons_append, List.nil_append] at hst))
 go_upto_region 2 with (go_big_may; (go_at_call 52; (try clear hnew); refine (HN.out _).mono ?_; rintro e Wk1 ⟨rfl, hnew⟩; replace hst := hst.keep hnew))
 go_wp2_with (first | (refine L_buildFz (d := some 12) rfl rfl rfl ?_) | (refine wpl_at (.store 44 (.tmp 4) (.tmp 12)) rfl ?_; (refine L_storeA rfl rfl hst rfl (by rfl) (ev_tmp rfl) (by (exact fdArr_all _ _ _ _ _ _ _ _ _ _)) el_api_Found (by (rfl)) 0 rfl (by (rfl)) ?_; clear hst; intro WS2 hst; simp only [List.set_cons_zero, List.set_cons_succ] at hst)))
 refine bp_cell_tmp rfl rfl rfl rfl (hst.get 0 rfl) Tryd.underlying44 rfl el_api_Found (by (rfl)) ?_
 exact ⟨rfl, hst.tail⟩
def FindEnd (key : List UInt8) (ns : List NoteN) (s : List UInt8) (p : LgP) (w0 : World) (L : List Res) : Ending → World → Prop := fun e w' =>
 ∃ A c B q, e = .returned (.tuple #[.agg (fdArr (findN ns s).note.name (findN ns s).note.key (findN ns s).note.turn (findN ns s).at_ A (findN ns s).path.length c B (findN ns s).mpath.length q), .nilIface]) ∧
  St w0 w' (.row A (findN ns s).path.length c 30 32 (digsL (findN ns s).path) :: .row B (findN ns s).mpath.length q 30 32 (digsL (findN ns s).mpath) :: (lgL p key ns ++ L))
set_option maxHeartbeats 8000000 in
set_option maxRecDepth 100000 in
theorem find_none (key : List UInt8) (ns : List NoteN) (s : List UInt8) (p : LgP) (w0 w : World) (L : List Res) (hT : Tb w0) (hst : St w0 w (lgL p key ns ++ L)) (hm : MapsOf ns p.nm p.am) (hl : Logged ns) (hs : isNm s = true) (hi : lastI ns s = none) :
  Calls Tryd.prog 30 #[.pointer (some ⟨p.g, 0, none⟩), .string (bsOf s)] w (FindEnd key ns s p w0 L) := by
 have HT := Lib.hid hT
 have HF := Lib.hid (show findN ns s = ⟨zeroNt, 0, [], mPath (lgF ns) (idxN s) 32⟩ by unfold findN; rw [if_pos hs, hi])
 have HN := Lib.hid (fun w => by have := named_any s w; rw [hs] at this; exact this)
 have HI := Lib.hid (fun (w' : World) (h : Tb w') => index_any s w' h (by have := isNm_len hs; omega))
 have HE := Lib.hid (fun (w' : World) (X : List Res) (h : St w0 w' (X ++ (lgL p key ns ++ L))) => entries_any key ns p w0 w' (X ++ L) (St.swap h) hm hl)
 have HPt := Lib.hid (fun (es : List (Nat × Dig)) (O : Option Addr) (oc : Nat) (w' : World) (ht : Tb w') (h1 : es.length ≤ 64) (h2 : ∀ e ∈ es, e.1 < 4294967296) (h3 : (es.map (·.1)).Nodup) (h4 : leafAt es = lgF ns) (h : SlR w' O es.length oc 33 (entL es)) => by
  have := tPathM_any es O es.length oc (idxN s) w' ht h h1 h2 h3 (idxN_lt s)
  rw [h4] at this
  exact this)
 have HO := Lib.hid hm.ksO
 have HD := Lib.hid hm.nd
 have HS := Lib.hid (sV_ok hs)
 have HL := Lib.hid (show lookA s p.nm = none by rw [hm.look, atName, hi]; rfl)
 have HML := Lib.hid (length_mPath (lgF ns) (idxN s) 32)
 unfold FindEnd
 rw [HF.out]
 simp only [HML.out, List.length_nil]
 generalize mPath (lgF ns) (idxN s) 32 = mp at *
 generalize idxN s = ix at *
 obtain ⟨g, m, c, lc, Mn, Ma, A, O0, nm, am⟩ := p
 simp only at *
 have hst0 := hst
 simp only [lgL, List.cons_append, List.nil_append] at hst
 clear hT hm hl hst0 hs hi
 go_enter Tryd.func30, Tryd.ntmps30
 go_upto_region 1 with (go_big_may; (refine L_allocA (d := some 4) rfl rfl rfl el_api_Found ?_; (try clear hnew); intro g4 W4 hnew; replace hst := hst.trans hnew; simp only [List.cons_append, List.nil_append] at hst))
 go_upto_region 3 with (go_big_may; (go_at_call 52; (try clear hnew); refine (HN.out _).mono ?_; rintro e Wk2 ⟨rfl, hnew⟩; replace hst := hst.keep hnew))
 go_upto_region 4 with (go_big_may; (refine L_allocA (d := some 6) rfl rfl rfl el_api_Found ?_; (try clear hnew); intro g6 W6 hnew; replace hst := hst.trans hnew; simp only [List.cons_append, List.nil_append] at hst))
 go_upto_region 5 with (go_big_may; first | (go_at_call 54; (try clear hnew); refine (HI.out _ (HT.out.of hst)).mono ?_; rintro e Wk3 ⟨rfl, hnew⟩; replace hst := hst.keep hnew) | (go_at_call 45; refine (HE.out _ [_, _] hst).mono ?_; rintro e We ⟨es, Oe, oe, rfl, h1, h2, h3, h4, hst'⟩; clear hst; have hst := hst'; clear hst'; have H1 := Lib.hid h1; have H2 := Lib.hid h2; have H3 := Lib.hid h3; have H4 := Lib.hid h4; clear h1 h2 h3 h4; simp only [lgL, List.cons_append, List.nil_append] at hst) | (go_at_call 69; (try clear hnew); refine (HPt.out es _ _ _ (HT.out.of hst) H1.out H2.out H3.out H4.out (hst.sl 0 rfl)).mono ?_; rintro e Wp ⟨Op, op, rfl, hnew⟩; replace hst := hst.trans hnew; clear hnew; simp only [List.cons_append, List.nil_append] at hst) | (refine wpl_at (.store 36 (.tmp 22) (.tmp 20)) rfl ?_; (refine L_store1 rfl rfl hst rfl (by rfl) (ev_tmp rfl) rfl el_S_api_Digest 7 rfl (by (exact of_decide_eq_true rfl)) ?_; clear hst; intro WS9 hst; simp only [List.set_cons_zero, List.set_cons_succ, fdArr_put36 _ _ _] at hst)))
 go_upto_region 6 with (go_big_may; first | (refine L_look2n (fk := sV) (fv := lsV) (y := s) (l := nm) (d := some 29) rfl rfl rfl keyed_str Tryd.underlying93 el_log_last (ev_tmp rfl) (ev_tmp rfl) sV_inj HO.out HD.out HS.out (hst.obj 5 rfl) HL.out ?_) | (refine L_load1 (d := some 27) rfl rfl rfl (by rfl) Tryd.underlying93 rfl (by (exact cell_of (hst.get 2 rfl) lgArr_2)) ?_) | (refine L_allocA (d := some 7) rfl rfl rfl el_log_last ?_; (try clear hnew); intro g7 W7 hnew; replace hst := hst.trans hnew; simp only [List.cons_append, List.nil_append] at hst) | (refine wpl_at (.store 123 (.tmp 7) (.tmp 30)) rfl ?_; (refine L_storeA rfl rfl hst rfl (by rfl) (ev_tmp rfl) (by (exact lsArr_all _ _ _ _ _)) el_log_last (by (rfl)) 0 rfl (by (rfl)) ?_; clear hst; intro WS10 hst; simp only [List.set_cons_zero, List.set_cons_succ] at hst)))
 go_upto_region 9 with (go_big_may; fail)
 go_wp2_with (first | ((refine L_loadA (d := some 50) rfl rfl rfl (by rfl) Tryd.underlying44 rfl el_api_Found (by (exact hst.get 8 rfl)) (by (exact fdArr_size _ _ _ _ _ _ _ _ _ _)) ?_)) | (refine wpl_at (.store 44 (.tmp 4) (.tmp 50)) rfl ?_; (refine L_storeA rfl rfl hst rfl (by rfl) (ev_tmp rfl) (by (exact fdArr_all _ _ _ _ _ _ _ _ _ _)) el_api_Found (by (rfl)) 9 rfl (by (rfl)) ?_; clear hst; intro WS1 hst; simp only [List.set_cons_zero, List.set_cons_succ] at hst)))
 refine bp_cell_tmp rfl rfl rfl rfl (hst.get 9 rfl) Tryd.underlying44 rfl el_api_Found (by (rfl)) ?_
 refine ⟨none, 0, Op, op, rfl, ?_⟩
 simp only [lgL, List.cons_append, List.nil_append]
 exact (hst.drop (.cons _ (.cons_cons _ (.cons _ (.cons_cons _ (.cons_cons _ (.cons_cons _ (.cons_cons _ (.cons_cons _ (.cons _ (.cons _ (List.Sublist.refl L))))))))))) : St w0 _ (_ :: (_ :: _ :: _ :: _ :: _ :: L))).nilRow 30 32
set_option maxHeartbeats 8000000 in
set_option maxRecDepth 100000 in
theorem find_has (key : List UInt8) (ns : List NoteN) (s : List UInt8) (p : LgP) (w0 w : World) (L : List Res) (hT : Tb w0) (hst : St w0 w (lgL p key ns ++ L)) (hm : MapsOf ns p.nm p.am) (hl : Logged ns) (hs : isNm s = true) (i : Nat) (hi : lastI ns s = some i) :
  Calls Tryd.prog 30 #[.pointer (some ⟨p.g, 0, none⟩), .string (bsOf s)] w (FindEnd key ns s p w0 L) := by
 have HT := Lib.hid hT
 obtain ⟨nt, h1, h2⟩ := lastI_some hi
 have hn := hl.len
 have hin := lastI_lt hi
 have hpl : (pathN (lvN ns) i).length = longN i ns.length := length_pathN _ _ _ (length_lvN ns)
 have HTP := Lib.hid (fun (w' : World) (O : Option Addr) (c : Nat) (ht : Tb w') (hx : SlR w' O ns.length c 32 (digsL (lvN ns))) => by
  have := tPath_any (lvN ns) O ns.length c i w' ht hx hn hin
  rw [← hpl] at this
  exact this)
 have HF := Lib.hid (show findN ns s = ⟨nt, (i : Int), pathN (lvN ns) i, mPath (lgF ns) (idxN s) 32⟩ by unfold findN; rw [if_pos hs, hi]; simp only [h1, Option.getD_some])
 have HN := Lib.hid (fun w => by have := named_any s w; rw [hs] at this; exact this)
 have HI := Lib.hid (fun (w' : World) (h : Tb w') => index_any s w' h (by have := isNm_len hs; omega))
 have HE := Lib.hid (fun (w' : World) (X : List Res) (h : St w0 w' (X ++ (lgL p key ns ++ L))) => entries_any key ns p w0 w' (X ++ L) (St.swap h) hm hl)
 have HPt := Lib.hid (fun (es : List (Nat × Dig)) (O : Option Addr) (oc : Nat) (w' : World) (ht : Tb w') (h1 : es.length ≤ 64) (h2 : ∀ e ∈ es, e.1 < 4294967296) (h3 : (es.map (·.1)).Nodup) (h4 : leafAt es = lgF ns) (h : SlR w' O es.length oc 33 (entL es)) => by
  have := tPathM_any es O es.length oc (idxN s) w' ht h h1 h2 h3 (idxN_lt s)
  rw [h4] at this
  exact this)
 have HO := Lib.hid hm.ksO
 have HD := Lib.hid hm.nd
 have HS := Lib.hid (sV_ok hs)
 have HL := Lib.hid (show lookA s p.nm = some (nt, i, ntLeaf nt) by rw [hm.look, atName, hi]; simp only [Option.bind_some, h1, Option.map_some])
 have HML := Lib.hid (length_mPath (lgF ns) (idxN s) 32)
 unfold FindEnd
 rw [HF.out]
 simp only [HML.out]
 generalize mPath (lgF ns) (idxN s) 32 = mp at *
 generalize idxN s = ix at *
 generalize pathN (lvN ns) i = tp at *
 generalize ntLeaf nt = df at *
 obtain ⟨a1, a2, a3⟩ := nt
 obtain ⟨g, m, c, lc, Mn, Ma, A, O0, nm, am⟩ := p
 simp only at *
 have hst0 := hst
 simp only [lgL, List.cons_append, List.nil_append] at hst
 clear hT hm hl hst0 hs hi h1 h2 hin hpl hn
 go_enter Tryd.func30, Tryd.ntmps30
 go_upto_region 1 with (go_big_may; (refine L_allocA (d := some 4) rfl rfl rfl el_api_Found ?_; (try clear hnew); intro g4 W4 hnew; replace hst := hst.trans hnew; simp only [List.cons_append, List.nil_append] at hst))
 go_upto_region 3 with (go_big_may; (go_at_call 52; (try clear hnew); refine (HN.out _).mono ?_; rintro e Wk4 ⟨rfl, hnew⟩; replace hst := hst.keep hnew))
 go_upto_region 4 with (go_big_may; (refine L_allocA (d := some 6) rfl rfl rfl el_api_Found ?_; (try clear hnew); intro g6 W6 hnew; replace hst := hst.trans hnew; simp only [List.cons_append, List.nil_append] at hst))
 go_upto_region 5 with (go_big_may; first | (go_at_call 54; (try clear hnew); refine (HI.out _ (HT.out.of hst)).mono ?_; rintro e Wk5 ⟨rfl, hnew⟩; replace hst := hst.keep hnew) | (go_at_call 45; refine (HE.out _ [_, _] hst).mono ?_; rintro e We ⟨es, Oe, oe, rfl, h1, h2, h3, h4, hst'⟩; clear hst; have hst := hst'; clear hst'; have H1 := Lib.hid h1; have H2 := Lib.hid h2; have H3 := Lib.hid h3; have H4 := Lib.hid h4; clear h1 h2 h3 h4; simp only [lgL, List.cons_append, List.nil_append] at hst) | (go_at_call 69; (try clear hnew); refine (HPt.out es _ _ _ (HT.out.of hst) H1.out H2.out H3.out H4.out (hst.sl 0 rfl)).mono ?_; rintro e Wp ⟨Op, op, rfl, hnew⟩; replace hst := hst.trans hnew; clear hnew; simp only [List.cons_append, List.nil_append] at hst) | (refine wpl_at (.store 36 (.tmp 22) (.tmp 20)) rfl ?_; (refine L_store1 rfl rfl hst rfl (by rfl) (ev_tmp rfl) rfl el_S_api_Digest 7 rfl (by (exact of_decide_eq_true rfl)) ?_; clear hst; intro WS9 hst; simp only [List.set_cons_zero, List.set_cons_succ, fdArr_put36 _ _ _] at hst)))
 go_upto_region 6 with (go_big_may; first | (refine L_look2s (fk := sV) (fv := lsV) (y := s) (l := nm) (d := some 29) rfl rfl rfl keyed_str Tryd.underlying93 el_log_last (ev_tmp rfl) (ev_tmp rfl) sV_inj HO.out HD.out HS.out (hst.obj 5 rfl) HL.out ?_) | (refine L_load1 (d := some 27) rfl rfl rfl (by rfl) Tryd.underlying93 rfl (by (exact cell_of (hst.get 2 rfl) lgArr_2)) ?_) | (refine L_allocA (d := some 7) rfl rfl rfl el_log_last ?_; (try clear hnew); intro g7 W7 hnew; replace hst := hst.trans hnew; simp only [List.cons_append, List.nil_append] at hst) | (refine wpl_at (.store 123 (.tmp 7) (.tmp 30)) rfl ?_; (refine L_storeA rfl rfl hst rfl (by rfl) (ev_tmp rfl) (by (exact lsArr_all _ _ _ _ _)) el_log_last (by (exact lsArr_size _ _ _ _ _)) 0 rfl (by (rfl)) ?_; clear hst; intro WS10 hst; simp only [List.set_cons_zero, List.set_cons_succ] at hst)))
 go_upto_region 7 with (go_big_may; fail)
 clear hnew
 refine wp_region_pm (.one 0 3 (.one 2 3 (.one 1 0 (.one 4 3 (.two 3 2 (.one 5 1 (.one 6 2 (.one 7 1 .nil))) 5 1 (.one 3 2 (.one 6 2 (.one 7 1 .nil)))))))) (by kernel_rfl) (by kernel_rfl) ?_
 replace hst := hst.drew
 refine pm_pv rfl (pureV_fieldAddr rfl (by rfl) Tryd.underlying123 rfl (by kernel_rfl)) ?_; go_wp2_with fail
 refine pm_pv rfl (pureV_fieldAddr rfl (by rfl) Tryd.underlying123 rfl (by kernel_rfl)) ?_; go_wp2_with fail
 refine pm_q rfl rfl ?_; go_wp2_with (((refine L_loadM (d := some 34) rfl rfl rfl (by rfl) Tryd.underlying35 rfl el_api_Note (by (exact lsArr_note (hst.get 0 rfl))) (by (exact ntArr_size _ _ _)) ?_)))
 refine pm_pv rfl (pureV_fieldAddr rfl (by rfl) Tryd.underlying44 rfl (by kernel_rfl)) ?_; go_wp2_with fail
 refine pm_two (ki := 2) (kj := 1) rfl rfl ?_ ?_
 ·go_wp2_with ((refine L_load1 (d := some 36) rfl rfl rfl (by rfl) Tryd.underlying3 rfl (by (exact cell_of (hst.get 0 rfl) lsArr_34)) ?_)); refine ⟨fun _ => (by (exact Below.refl _ _)), ?_⟩
  refine pm_e rfl ?_; go_wp2_with ((refine wpl_at (.store 35 (.tmp 37) (.tmp 34)) rfl ?_; (refine L_storeM rfl rfl hst rfl (by rfl) (ev_tmp rfl) (by (exact ntArr_all _ _ _)) el_api_Note (by (exact ntArr_size _ _ _)) 8 rfl (by (exact of_decide_eq_true rfl)) ?_; clear hst; intro WS5 hst; simp only [List.set_cons_zero, List.set_cons_succ, fdArr_put34 _, fdArr_putNote _ _ _] at hst)))
  refine pm_g rfl ?_; go_wp2_with fail; refine ⟨by (exact Below.refl _ _), ?_⟩
  refine pm_e rfl ?_; go_wp2_with ((refine wpl_at (.store 3 (.tmp 38) (.tmp 36)) rfl ?_; (refine L_store1 rfl rfl hst rfl (by rfl) (ev_tmp rfl) rfl el_int 8 rfl (by (rw [fdArr_size _ _ _ _ _ _ _ _ _ _]; decide)) ?_; clear hst; intro WS7 hst; simp only [List.set_cons_zero, List.set_cons_succ, fdArr_put34 _, fdArr_putNote _ _ _] at hst)))
  refine pm_nil ?_
  go_upto_region 8 with fail
  refine wp_region_pm (.one 0 3 (.one 4 3 (.one 1 0 (.one 2 3 (.one 3 0 (.one 5 2 (.one 6 2 (.one 7 2 (.one 8 3 (.one 9 3 (.one 10 2 (.one 11 1 .nil)))))))))))) (by kernel_rfl) (by kernel_rfl) ?_
  replace hst := hst.drew
  refine pm_p rfl rfl ?_; go_wp2_with fail
  refine pm_pv rfl (pureV_fieldAddr rfl (by rfl) Tryd.underlying123 rfl (by kernel_rfl)) ?_; go_wp2_with fail
  refine pm_q rfl rfl ?_; go_wp2_with fail
  refine pm_pv rfl (pureV_fieldAddr rfl (by rfl) Tryd.underlying96 rfl (by kernel_rfl)) ?_; go_wp2_with fail
  refine pm_q rfl rfl ?_; go_wp2_with ((refine L_load1 (d := some 43) rfl rfl rfl (by rfl) Tryd.underlying36 rfl (by (exact cell_of (hst.get 3 rfl) lgArr_1)) ?_))
  refine pm_g rfl ?_; go_wp2_with ((refine L_load1 (d := some 45) rfl rfl rfl (by rfl) Tryd.underlying3 rfl (by (exact cell_of (hst.get 0 rfl) lsArr_34)) ?_)); refine ⟨by (exact Below.refl _ _), ?_⟩
  refine pm_g rfl ?_; go_wp2_with ((go_at_call 70; (try clear hnew); refine (HTP.out _ _ _ (HT.out.of hst) (hst.sl 5 rfl)).mono ?_; rintro e Wq ⟨Oq, oq, rfl, hnew⟩; replace hst := hst.trans hnew; simp only [List.cons_append, List.nil_append] at hst)); refine ⟨by (exact hnew.below), ?_⟩
  refine pm_g rfl ?_; go_wp2_with fail; refine ⟨by (exact Below.refl _ _), ?_⟩
  refine pm_p rfl rfl ?_; go_wp2_with fail
  refine pm_p rfl rfl ?_; go_wp2_with fail
  refine pm_g rfl ?_; go_wp2_with fail; refine ⟨by (exact Below.refl _ _), ?_⟩
  refine pm_e rfl ?_; go_wp2_with ((refine wpl_at (.store 36 (.tmp 49) (.tmp 47)) rfl ?_; (refine L_store1 rfl rfl hst rfl (by rfl) (ev_tmp rfl) rfl el_S_api_Digest 9 rfl (by (rw [fdArr_size _ _ _ _ _ _ _ _ _ _]; decide)) ?_; clear hst; intro WS11 hst; simp only [List.set_cons_zero, List.set_cons_succ, fdArr_put35 _ _ _] at hst)))
  refine pm_nil ?_
  go_wp2_with (first | ((refine L_loadA (d := some 50) rfl rfl rfl (by rfl) Tryd.underlying44 rfl el_api_Found (by (exact hst.get 9 rfl)) (by (exact fdArr_size _ _ _ _ _ _ _ _ _ _)) ?_)) | (refine wpl_at (.store 44 (.tmp 4) (.tmp 50)) rfl ?_; (refine L_storeA rfl rfl hst rfl (by rfl) (ev_tmp rfl) (by (exact fdArr_all _ _ _ _ _ _ _ _ _ _)) el_api_Found (by (exact fdArr_size _ _ _ _ _ _ _ _ _ _)) 10 rfl (by (rfl)) ?_; clear hst; intro WS1 hst; simp only [List.set_cons_zero, List.set_cons_succ] at hst)))
  refine bp_cell_tmp rfl rfl rfl rfl (hst.get 10 rfl) Tryd.underlying44 rfl el_api_Found (fdArr_size _ _ _ _ _ _ _ _ _ _) ?_
  refine ⟨Oq, oq, Op, op, rfl, ?_⟩
  simp only [lgL, List.cons_append, List.nil_append]
  exact hst.drop (.cons_cons _ (.cons _ (.cons_cons _ (.cons _ (.cons_cons _ (.cons_cons _ (.cons_cons _ (.cons_cons _ (.cons_cons _ (.cons _ (.cons _ (List.Sublist.refl L))))))))))))
 ·go_wp2_with ((refine wpl_at (.store 35 (.tmp 37) (.tmp 34)) rfl ?_; (refine L_storeM rfl rfl hst rfl (by rfl) (ev_tmp rfl) (by (exact ntArr_all _ _ _)) el_api_Note (by (exact ntArr_size _ _ _)) 8 rfl (by (exact of_decide_eq_true rfl)) ?_; clear hst; intro WS5 hst; simp only [List.set_cons_zero, List.set_cons_succ, fdArr_put34 _, fdArr_putNote _ _ _] at hst))); refine ⟨fun h => absurd h (by decide), ?_⟩
  refine pm_g rfl ?_; go_wp2_with ((refine L_load1 (d := some 36) rfl rfl rfl (by rfl) Tryd.underlying3 rfl (by (exact cell_of (hst.get 0 rfl) lsArr_34)) ?_)); refine ⟨by (exact Below.refl _ _), ?_⟩
  refine pm_g rfl ?_; go_wp2_with fail; refine ⟨by (exact Below.refl _ _), ?_⟩
  refine pm_e rfl ?_; go_wp2_with ((refine wpl_at (.store 3 (.tmp 38) (.tmp 36)) rfl ?_; (refine L_store1 rfl rfl hst rfl (by rfl) (ev_tmp rfl) rfl el_int 8 rfl (by (rw [fdArr_size _ _ _ _ _ _ _ _ _ _]; decide)) ?_; clear hst; intro WS7 hst; simp only [List.set_cons_zero, List.set_cons_succ, fdArr_put34 _, fdArr_putNote _ _ _] at hst)))
  refine pm_nil ?_
  go_upto_region 8 with fail
  refine wp_region_pm (.one 0 3 (.one 4 3 (.one 1 0 (.one 2 3 (.one 3 0 (.one 5 2 (.one 6 2 (.one 7 2 (.one 8 3 (.one 9 3 (.one 10 2 (.one 11 1 .nil)))))))))))) (by kernel_rfl) (by kernel_rfl) ?_
  replace hst := hst.drew
  refine pm_p rfl rfl ?_; go_wp2_with fail
  refine pm_pv rfl (pureV_fieldAddr rfl (by rfl) Tryd.underlying123 rfl (by kernel_rfl)) ?_; go_wp2_with fail
  refine pm_q rfl rfl ?_; go_wp2_with fail
  refine pm_pv rfl (pureV_fieldAddr rfl (by rfl) Tryd.underlying96 rfl (by kernel_rfl)) ?_; go_wp2_with fail
  refine pm_q rfl rfl ?_; go_wp2_with ((refine L_load1 (d := some 43) rfl rfl rfl (by rfl) Tryd.underlying36 rfl (by (exact cell_of (hst.get 3 rfl) lgArr_1)) ?_))
  refine pm_g rfl ?_; go_wp2_with ((refine L_load1 (d := some 45) rfl rfl rfl (by rfl) Tryd.underlying3 rfl (by (exact cell_of (hst.get 0 rfl) lsArr_34)) ?_)); refine ⟨by (exact Below.refl _ _), ?_⟩
  refine pm_g rfl ?_; go_wp2_with ((go_at_call 70; (try clear hnew); refine (HTP.out _ _ _ (HT.out.of hst) (hst.sl 5 rfl)).mono ?_; rintro e Wq ⟨Oq, oq, rfl, hnew⟩; replace hst := hst.trans hnew; simp only [List.cons_append, List.nil_append] at hst)); refine ⟨by (exact hnew.below), ?_⟩
  refine pm_g rfl ?_; go_wp2_with fail; refine ⟨by (exact Below.refl _ _), ?_⟩
  refine pm_p rfl rfl ?_; go_wp2_with fail
  refine pm_p rfl rfl ?_; go_wp2_with fail
  refine pm_g rfl ?_; go_wp2_with fail; refine ⟨by (exact Below.refl _ _), ?_⟩
  refine pm_e rfl ?_; go_wp2_with ((refine wpl_at (.store 36 (.tmp 49) (.tmp 47)) rfl ?_; (refine L_store1 rfl rfl hst rfl (by rfl) (ev_tmp rfl) rfl el_S_api_Digest 9 rfl (by (rw [fdArr_size _ _ _ _ _ _ _ _ _ _]; decide)) ?_; clear hst; intro WS11 hst; simp only [List.set_cons_zero, List.set_cons_succ, fdArr_put35 _ _ _] at hst)))
  refine pm_nil ?_
  go_wp2_with (first | ((refine L_loadA (d := some 50) rfl rfl rfl (by rfl) Tryd.underlying44 rfl el_api_Found (by (exact hst.get 9 rfl)) (by (exact fdArr_size _ _ _ _ _ _ _ _ _ _)) ?_)) | (refine wpl_at (.store 44 (.tmp 4) (.tmp 50)) rfl ?_; (refine L_storeA rfl rfl hst rfl (by rfl) (ev_tmp rfl) (by (exact fdArr_all _ _ _ _ _ _ _ _ _ _)) el_api_Found (by (exact fdArr_size _ _ _ _ _ _ _ _ _ _)) 10 rfl (by (rfl)) ?_; clear hst; intro WS1 hst; simp only [List.set_cons_zero, List.set_cons_succ] at hst)))
  refine bp_cell_tmp rfl rfl rfl rfl (hst.get 10 rfl) Tryd.underlying44 rfl el_api_Found (fdArr_size _ _ _ _ _ _ _ _ _ _) ?_
  refine ⟨Oq, oq, Op, op, rfl, ?_⟩
  simp only [lgL, List.cons_append, List.nil_append]
  exact hst.drop (.cons_cons _ (.cons _ (.cons_cons _ (.cons _ (.cons_cons _ (.cons_cons _ (.cons_cons _ (.cons_cons _ (.cons_cons _ (.cons _ (.cons _ (List.Sublist.refl L))))))))))))
end Go.Proofs.YtaebeemnipafbaaDoor

set_option maxRecDepth 20000
set_option linter.unusedSimpArgs false
set_option linter.unusedVariables false
namespace Go.Proofs.YtaebeemnipafbaaDoor
open Go.RowKit
attribute [local simp] prArr_size
structure LgAt (w : World) (p : LgP) (key : List UInt8) (ns : List NoteN) : Prop where
 blk : w.heap[p.g]? = some (.cells (lgArr p.A p.m p.c p.O ns.length p.lc p.Mn p.Ma) 96 (0, 0))
 key : SlR w p.A p.m p.c 1 (bytesL key)
 lv : SlR w p.O ns.length p.lc 32 (digsL (lvN ns))
 nm : w.heap[p.Mn]? = some (mpO sV lsV p.nm)
 am : w.heap[p.Ma]? = some (mpO kInt sV p.am)
theorem lgAt_of {key : List UInt8} {ns : List NoteN} {p : LgP} {w0 w : World} {L : List Res} (h : St w0 w (lgL p key ns ++ L)) : LgAt w p key ns :=
 ⟨h.get 0 rfl, h.sl 1 rfl, h.sl 2 rfl, h.obj 3 rfl, h.obj 4 rfl⟩
theorem lt_of_at {w : World} {g : Nat} {o : Obj} (h : w.heap[g]? = some o) : g < w.heap.size := (Array.getElem?_eq_some_iff.1 h).1
theorem St.stood {w W : World} {L : List Res} (h : St w W L) {g : Nat} {o : Obj} (hg : w.heap[g]? = some o) : W.heap[g]? = some o := by
 rw [h.below.block g (lt_of_at hg)]; exact hg
theorem LgAt.old {key : List UInt8} {ns : List NoteN} {p : LgP} {w W : World} {L : List Res} (h : LgAt w p key ns) (hst : St w W L) : LgAt W p key ns :=
 ⟨hst.stood h.blk, hst.old (by decide) h.key, hst.old (by decide) h.lv, hst.stood h.nm, hst.stood h.am⟩
set_option maxHeartbeats 8000000 in
set_option maxRecDepth 100000 in
theorem entriesK_any (key : List UInt8) (ns : List NoteN) (p : LgP) (w : World) (hp : LgAt w p key ns) (hm : MapsOf ns p.nm p.am) (hl : Logged ns) :
  Calls Tryd.prog 45 #[.pointer (some ⟨p.g, 0, none⟩)] w fun e w' => ∃ (es : List (Nat × Dig)) (O : Option Addr) (oc : Nat), e = .returned (.slice O es.length oc) ∧ (es.length ≤ 64 ∧ (∀ e ∈ es, e.1 < 4294967296) ∧ (es.map (·.1)).Nodup ∧ leafAt es = lgF ns) ∧
   St w w' [.row O es.length oc 115 33 (entL es)] := by
 have hst := St.refl w
 have HO := Lib.hid hm.ksO
 have HD := Lib.hid hm.nd
 have HM := Lib.hid hm
 have HLg := Lib.hid hl
 have hlen : p.am.length ≤ 64 := by rw [hm.lenA, hm.len]; exact hl.names
 have HAt := Lib.hid (fun (i : Nat) (q : Nat × List UInt8) (h : p.am[i]? = some q) => show ∃ x, lookA q.2 p.nm = some x ∧ enN p.nm p.am i = (q.1, x.2.2) ∧ KeyOk Tryd.prog 9 sV q.2 from by
  have hmem := List.mem_of_getElem? h
  obtain ⟨x, hx⟩ := hm.total (k := q.1) (s := q.2) hmem
  exact ⟨x, hx, by unfold enN fL; rw [h]; simp only [hx]; rfl, sV_ok (hm.ksA q hmem).2⟩)
 obtain ⟨q1, q2, q3, q4, q5⟩ := hp
 obtain ⟨g, m, c, lc, Mn, Ma, A, O0, nm, am⟩ := p
 simp only at *
 have HBk := Lib.hid q1
 have HNm := Lib.hid q4
 have HAm := Lib.hid q5
 obtain ⟨n, hn⟩ : ∃ n, n = am.length := ⟨_, rfl⟩
 have HN := Lib.hid hn
 rw [← hn] at hlen
 clear hm hl hn q1 q2 q3 q4 q5
 go_enter Tryd.func45, Tryd.ntmps45
 go_upto_region 1 with (go_big_may; fail)
 go_upto_region 2 with (go_big_may; fail)
 go_wp2_with (first | (refine L_load1 (d := some 9) rfl rfl rfl (by rfl) Tryd.underlying94 rfl (cell_of (hst.stood HBk.out) lgArr_3) ?_) | (refine L_range (fk := kInt) (fv := sV) (l := am) (d := some 10) rfl rfl rfl Tryd.underlying94 (ev_tmp rfl) (hst.stood HAm.out) ?_; intro r W10 hnew; replace hst := hst.trans hnew; simp only [List.cons_append, List.nil_append] at hst))
 (try simp only [Act.put, List.setIfInBounds_toArray, List.set_cons_succ, List.set_cons_zero])
 rw [← HN.out] at hst
 clear hnew
 have hst := hst.nilRow 115 33
 go_loopg [3] n (fun gk s3 wr => ∃ (dn : List Nat) (O : Option Addr) (k oc : Nat), Hid (dn.length + gk = n ∧ dn.Nodup ∧ (∀ i ∈ dn, i < n) ∧ k = dn.length) ∧ s3 = .slice O k oc ∧
  St w wr [.row O k oc 115 33 (entL (dn.map (enN nm am))), .obj r (.mapIter (some Ma) n dn.toArray n)])
 case atStart => exact ⟨[], none, 0, 0, Lib.hid ⟨by simp, List.nodup_nil, by simp, rfl⟩, rfl, hst⟩
 case round =>
  clear hst
  obtain ⟨dn, O, k, oc, HG, rfl, hst⟩ := hrel
  go_wp2_with ((refine L_next (fk := kInt) (fv := sV) (l := am) (d := some 11) rfl rfl hst rfl (ev_tmp rfl) HN.out (Nat.le_refl _) (hst.stood HAm.out) 1 rfl ?_ ?_))
  ·intro hall
   go_wp2_with fail
   go_ret
   obtain ⟨g1, g2, g3, rfl⟩ := HG.out
   have hn := HN.out
   have hp := range_perm g2 g3 hall
   have hpm : (dn.map (enN nm am)).Perm (am.map fun p => (p.1, fL nm p.2)) := by
    rw [← enN_all, ← hn]
    exact hp.map _
   have hM := HM.out
   have hnd : ((am.map fun p => (p.1, fL nm p.2)).map (·.1)).Nodup := by
    rw [List.map_map]
    exact hM.ndA
   have hlen2 : (dn.map (enN nm am)).length = dn.length := by simp
   refine ⟨dn.map (enN nm am), O, oc, by rw [hlen2]; rfl, ⟨by rw [hpm.length_eq, List.length_map, ← hn]; exact hlen, ?_, ((hpm.map _).nodup_iff).2 hnd, ?_⟩, ?_⟩
   ·intro e he
    obtain ⟨q, hq, rfl⟩ := List.mem_map.1 (hpm.mem_iff.1 he)
    exact (hM.ksA q hq).1
   ·funext k
    rw [leafAt_perm (((hpm.map _).nodup_iff).2 hnd) hpm]
    exact hM.entries HLg.out (fL nm) (fun q _ x hx => by unfold fL; rw [hx]; rfl) k
   ·rw [hlen2]
    exact hst.pick [0] (by decide)
  ·intro i q W11 hq hi hst'
   clear hst
   have hst := hst'
   clear hst'
   simp only [List.set_cons_zero, List.set_cons_succ] at hst
   obtain ⟨x, hx, he, hko⟩ := HAt.out i q hq
   obtain ⟨k1, s1⟩ := q
   obtain ⟨⟨a1, a2, a3⟩, a4, a5⟩ := x
   simp only at hx he hko
   have HX := Lib.hid hx
   have HK := Lib.hid hko
   have HQ := Lib.hid hq
   have HIn := Lib.hid hi
   have HSn := Lib.hid (show entL (dn.map (enN nm am)) ++ (prArr (k1 : Int) a5).toList = entL ((dn ++ [i]).map (enN nm am)) by
    rw [ent_snoc, List.map_append, List.map_singleton, he])
   have hk64 : k ≤ 64 := by
    obtain ⟨g1, g2, g3, g4⟩ := HG.out
    omega
   clear hx hko hq he hi
   generalize entL (dn.map (enN nm am)) = e0 at *
   go_wp2_with (first | (refine L_load1 (d := some 21) rfl rfl rfl (by rfl) Tryd.underlying93 rfl (cell_of (hst.stood HBk.out) lgArr_2) ?_) | (refine L_entry (fk := kInt) (fv := sV) (l := am) (i := i) (d := some 13) rfl rfl rfl (ev_tmp rfl) HN.out (hst.stood HAm.out) (hst.obj 1 rfl) HQ.out ?_) | (refine L_look1s (fk := sV) (fv := lsV) (y := s1) (l := nm) (d := some 23) rfl rfl rfl keyed_str Tryd.underlying93 el_log_last (ev_tmp rfl) (ev_tmp rfl) sV_inj HO.out HD.out HK.out (hst.stood HNm.out) HX.out ?_) | (refine L_fieldD (d := some 24) rfl rfl rfl Tryd.underlying123 rfl (ev_tmp rfl) Tryd.underlying30 el_api_Digest lsArr_leaf ?_) | (refine L_buildE (d := some 25) rfl rfl rfl (ev_tmp rfl) (ev_tmp rfl) ?_) | (refine L_buildS (d := some 26) rfl rfl rfl [_] (bs_1 (ev_tmp rfl)) rfl Tryd.underlying100 el_api_Entry rfl (by (simp [Value.cells]; done)) (by decide) (by decide) ?_; (try clear hnew); intro g26 W26 hnew; replace hst := hst.trans hnew; simp only [List.cons_append, List.nil_append] at hst; simp only [List.flatMap_cons, List.flatMap_nil, List.append_nil, Value.cells, List.toList_toArray] at hst) | (refine L_appendO (d := some 27) rfl rfl hst rfl (by rfl) (by rfl) Tryd.underlying100 el_api_Entry rfl (by decide) (by decide) 1 rfl (by (rfl)) (by (exact hst.sl 0 rfl)) (by (exact prArr_one _ _)) (by omega) ?_; clear hst; intro A27 c27 W27 hst; simp only [List.set_cons_zero, List.set_cons_succ, List.nil_append, Nat.zero_add] at hst))
   have hG2 : (dn ++ [i]).length + (gk - 1) = n ∧ (dn ++ [i]).Nodup ∧ (∀ j ∈ dn ++ [i], j < n) ∧ k + 1 = (dn ++ [i]).length ∧ 0 < gk := by
    obtain ⟨g1, g2, g3, g4⟩ := HG.out
    have hin : i < n := by rw [HN.out]; exact (List.getElem?_eq_some_iff.1 HQ.out).1
    have hnd : (dn ++ [i]).Nodup := by
     rw [List.nodup_append]
     refine ⟨g2, by simp, fun a ha b hb => ?_⟩
     rw [List.mem_singleton.1 hb]
     intro e
     exact HIn.out (e ▸ ha)
    have hlt : ∀ j ∈ dn ++ [i], j < n := fun j hj => by
     rcases List.mem_append.1 hj with hj | hj
     ·exact g3 j hj
     ·rw [List.mem_singleton.1 hj]; exact hin
    have hle := nodup_le n _ hnd hlt
    rw [List.length_append, List.length_singleton] at hle
    refine ⟨?_, hnd, hlt, ?_, ?_⟩
    ·rw [List.length_append, List.length_singleton]; omega
    ·rw [List.length_append, List.length_singleton]; omega
    ·omega
   obtain ⟨q1, q2, q3, q4, q5⟩ := hG2
   go_roundg (gk - 1)
   case measure => omega
   case rel =>
    refine ⟨dn ++ [i], A27, k + 1, c27, Lib.hid ⟨q1, q2, q3, q4⟩, rfl, ?_⟩
    rw [← HSn.out]
    exact hst.tail
attribute [local simp] hdArr_size
set_option maxHeartbeats 8000000 in
set_option maxRecDepth 100000 in
theorem headK_any (key : List UInt8) (ns : List NoteN) (p : LgP) (w : World) (hT : Tb w) (hp : LgAt w p key ns) (hm : MapsOf ns p.nm p.am) (hl : Logged ns) (hpm : p.m ≤ 140737488355000) :
  Calls Tryd.prog 14 #[.pointer (some ⟨p.g, 0, none⟩)] w fun e w' => e = .returned (.agg (hdArr (ns.length : Int) (rootN (lvN ns)) (mapN ns) (headR key ns))) ∧ St w w' [] := by
 have hst := St.refl w
 have HT := Lib.hid hT
 have hn := hl.len
 have HE := Lib.hid (fun (w' : World) (h : LgAt w' p key ns) => entriesK_any key ns p w' h hm hl)
 have HRt := Lib.hid (fun (es : List (Nat × Dig)) (O : Option Addr) (oc : Nat) (w' : World) (ht : Tb w') (h1 : es.length ≤ 64 ∧ (∀ e ∈ es, e.1 < 4294967296) ∧ (es.map (·.1)).Nodup ∧ leafAt es = lgF ns) (h : SlR w' O es.length oc 33 (entL es)) => by
  have := tRootM_any es O es.length oc w' ht h h1.1 h1.2.1 h1.2.2.1
  rw [h1.2.2.2] at this
  exact this)
 have HTg := Lib.hid (show headR key ns = tagN key (ns.length : Int) (rootN (lvN ns)) (mapN ns) from rfl)
 have HMp := Lib.hid (show mRoot (lgF ns) 32 0 = mapN ns from rfl)
 rw [HMp.out] at HRt
 have HRo := Lib.hid (fun (w' : World) (ht : Tb w') (h : SlR w' p.O ns.length p.lc 32 (digsL (lvN ns))) => tRoot_any (lvN ns) _ _ _ w' ht h hn)
 have HLA := Lib.hid hp
 obtain ⟨q1, q2, q3, q4, q5⟩ := hp
 obtain ⟨g, m, c, lc, Mn, Ma, A, O0, nm, am⟩ := p
 simp only at *
 have HBk := Lib.hid q1
 have HKy := Lib.hid q2
 have HLv := Lib.hid q3
 have HTt := Lib.hid (fun (w' : World) (x y : Dig) (ht : Tb w') (hk : SlR w' A m c 1 (bytesL key)) => tag_any key A m c (ns.length : Int) x y zeroD w' (by omega) (by omega) ht hk hpm)
 generalize headR key ns = tg at *
 generalize mapN ns = mp at *
 clear hT hm hl hpm q1 q2 q3 q4 q5
 go_enter Tryd.func14, Tryd.ntmps14
 go_upto_region 1 with (go_big_may; (refine L_allocA (d := some 2) rfl rfl rfl el_api_Head ?_; (try clear hnew); intro g2 W2 hnew; replace hst := hst.trans hnew; simp only [List.cons_append, List.nil_append] at hst))
 go_upto_region 2 with (go_big_may; first | (refine L_load1 (d := some 7) rfl rfl rfl (by rfl) Tryd.underlying36 rfl (cell_of (hst.stood HBk.out) lgArr_1) ?_) | (refine L_buildHd (d := some 9) rfl rfl rfl (ev_tmp rfl) ?_) | (refine L_allocA (d := some 3) rfl rfl rfl el_api_Head ?_; (try clear hnew); intro g3 W3 hnew; replace hst := hst.trans hnew; simp only [List.cons_append, List.nil_append] at hst) | (refine wpl_at (.store 32 (.tmp 3) (.tmp 9)) rfl ?_; (refine L_storeA rfl rfl hst rfl (by rfl) (ev_tmp rfl) (by (exact hdArr_all _ _ _ _)) el_api_Head (by (rfl)) 0 rfl (by (rfl)) ?_; clear hst; intro WS7 hst; simp only [List.set_cons_zero, List.set_cons_succ, hdArr_putRoot _ _ _ _ _] at hst)))
 go_upto_region 3 with (go_big_may; first | (refine L_load1 (d := some 14) rfl rfl rfl (by rfl) Tryd.underlying36 rfl (cell_of (hst.stood HBk.out) lgArr_1) ?_) | (go_at_call 43; (try clear hnew); refine (HRo.out _ (HT.out.of hst) (hst.old (by decide) HLv.out)).mono ?_; rintro e Wk1 ⟨rfl, hnew⟩; replace hst := hst.keep hnew) | (refine wpl_at (.store 30 (.tmp 18) (.tmp 16)) rfl ?_; (refine L_storeM rfl rfl hst rfl (by rfl) (ev_tmp rfl) (by (exact Dig.one _)) el_api_Digest (by (exact Dig.size _)) 0 rfl (by (exact of_decide_eq_true rfl)) ?_; clear hst; intro WS9 hst; simp only [List.set_cons_zero, List.set_cons_succ, hdArr_putRoot _ _ _ _ _] at hst)))
 go_upto_region 4 with (go_big_may; first | (go_at_call 45; (try clear hnew); refine (HE.out _ (HLA.out.old hst)).mono ?_; rintro e We ⟨es, Oe, oe, rfl, h1, hnew⟩; have H1 := Lib.hid h1; clear h1; replace hst := hst.trans hnew; simp only [List.cons_append, List.nil_append] at hst) | (go_at_call 44; (try clear hnew); refine (HRt.out es _ _ _ (HT.out.of hst) H1.out (hst.sl 0 rfl)).mono ?_; rintro e Wk2 ⟨rfl, hnew⟩; replace hst := hst.keep hnew) | (refine wpl_at (.store 30 (.tmp 25) (.tmp 23)) rfl ?_; (refine L_storeM rfl rfl hst rfl (by rfl) (ev_tmp rfl) (by (exact Dig.one _)) el_api_Digest (by (exact Dig.size _)) 1 rfl (by (simp; done)) ?_; clear hst; intro WS7 hst; simp only [List.set_cons_zero, List.set_cons_succ, hdArr_putMap _ _ _ _ _] at hst)))
 refine wp_region_idx [(0, 0), (1, 0), (2, 0), (3, 0), (4, 2), (5, 2), (6, 2), (7, 1)] (by kernel_rfl) (by kernel_rfl) ?_
 replace hst := hst.drew
 refine idx_q rfl rfl ?_; go_wp2_with fail
 refine idx_q rfl rfl ?_; go_wp2_with fail
 refine idx_qf rfl rfl (by kernel_rfl) ?_; go_wp2_with fail
 refine idx_q rfl rfl ?_; go_wp2_with ((refine L_load1 (d := some 29) rfl rfl rfl (by rfl) Tryd.underlying22 rfl (cell_of (hst.stood HBk.out) lgArr_0) ?_))
 refine idx_g rfl ?_; go_wp2_with (((refine L_loadA (d := some 30) rfl rfl rfl (by rfl) Tryd.underlying32 rfl el_api_Head (by (exact hst.get 1 rfl)) (by (exact hdArr_size _ _ _ _)) ?_))); refine ⟨by (exact Below.refl _ _), ?_⟩
 refine idx_g rfl ?_; go_wp2_with ((go_at_call 29; (try clear hnew); refine (HTt.out _ _ _ (HT.out.of hst) (hst.old (by decide) HKy.out)).mono ?_; rintro e Wk3 ⟨rfl, hnew⟩; replace hst := hst.keep hnew)); refine ⟨by (exact hnew.below), ?_⟩
 refine idx_g rfl ?_; go_wp2_with fail; refine ⟨by (exact Below.refl _ _), ?_⟩
 refine idx_e rfl ?_; go_wp2_with ((refine wpl_at (.store 30 (.tmp 32) (.tmp 31)) rfl ?_; (refine L_storeM rfl rfl hst rfl (by rfl) (ev_tmp rfl) (by (exact Dig.one _)) el_api_Digest (by (rfl)) 1 rfl (by (simp; done)) ?_; clear hst; intro WS7 hst; simp only [List.set_cons_zero, List.set_cons_succ, hdArr_putTag _ _ _ _ _] at hst)))
 refine idx_nil ?_
 go_wp2_with (first | ((refine L_loadA (d := some 33) rfl rfl rfl (by rfl) Tryd.underlying32 rfl el_api_Head (by (exact hst.get 1 rfl)) (by (exact hdArr_size _ _ _ _)) ?_)) | (refine wpl_at (.store 32 (.tmp 2) (.tmp 33)) rfl ?_; (refine L_storeA rfl rfl hst rfl (by rfl) (ev_tmp rfl) (by (exact hdArr_all _ _ _ _)) el_api_Head (by (exact hdArr_size _ _ _ _)) 2 rfl (by (rfl)) ?_; clear hst; intro WS1 hst; simp only [List.set_cons_zero, List.set_cons_succ] at hst)))
 refine bp_cell rfl rfl rfl (hst.get 2 rfl) Tryd.underlying32 rfl el_api_Head (by (simp; done)) ?_
 rw [HTg.out]
 exact ⟨rfl, hst.forget⟩
theorem findU_any (key : List UInt8) (ns : List NoteN) (s : List UInt8) (p : LgP) (w0 w : World) (L : List Res) (hT : Tb w0) (hst : St w0 w (lgL p key ns ++ L)) (hm : MapsOf ns p.nm p.am) (hl : Logged ns) (hs : isNm s = true) :
  Calls Tryd.prog 30 #[.pointer (some ⟨p.g, 0, none⟩), .string (bsOf s)] w (FindEnd key ns s p w0 L) := by
 cases hi : lastI ns s with
 | none => exact find_none key ns s p w0 w L hT hst hm hl hs hi
 | some i => exact find_has key ns s p w0 w L hT hst hm hl hs i hi
end Go.Proofs.YtaebeemnipafbaaDoor

set_option maxRecDepth 20000
set_option linter.unusedSimpArgs false
set_option linter.unusedVariables false
namespace Go.Proofs.YtaebeemnipafbaaDoor
open Go.RowKit
theorem length_addL (ns : List NoteN) (s : List UInt8) (k : Dig) : ns.length ≤ (addL ns s k).length ∧ (addL ns s k).length ≤ ns.length + 1 := by
 unfold addL
 split
 ·rw [List.length_append]; exact ⟨by simp, by simp⟩
 ·exact ⟨Nat.le_refl _, by omega⟩
theorem addL_take (ns : List NoteN) (s : List UInt8) (k : Dig) {m : Nat} (h : m ≤ ns.length) : (addL ns s k).take m = ns.take m := by
 unfold addL
 split
 ·rw [List.take_append_of_le_length h]
 ·rfl
theorem mapN_nil : mapN [] = zeroD := mRoot_zero (fun _ _ _ => rfl)
theorem addU_any (key : List UInt8) (ns : List NoteN) (s : List UInt8) (k : Dig) (p : LgP) (w0 w : World) (L : List Res) (hT : Tb w0) (hst : St w0 w (lgL p key ns ++ L)) (hm : MapsOf ns p.nm p.am) (hl : Logged ns) :
  Calls Tryd.prog 24 #[.pointer (some ⟨p.g, 0, none⟩), .string (bsOf s), k.v] w fun e w' =>
   e = .returned (.tuple #[.int .i64 (if addE ns s = 0 then (ns.length : Int) else 0), if addE ns s = 0 then .nilIface else errV (addE ns s)]) ∧ ∃ p' : LgP, p'.g = p.g ∧ p'.m = p.m ∧ MapsOf (addL ns s k) p'.nm p'.am ∧ St w0 w' (lgL p' key (addL ns s k) ++ L) := by
 refine (add_any key ns s k p w0 w L hT hst hm hl).mono ?_
 rintro e w' (⟨h0, rfl, p', h1, h2, h3, h4⟩ | ⟨h0, rfl, h4⟩)
 ·unfold addL
  rw [if_pos h0, if_pos h0, if_pos h0]
  exact ⟨rfl, p', h1, h2, h3, h4⟩
 ·unfold addL
  rw [if_neg h0, if_neg h0, if_neg h0]
  exact ⟨rfl, p, rfl, rfl, hm, h4⟩
theorem note_name {W : World} {g off i : Nat} {ns : List NoteN} (h : W.rangeAt g (off + (i : Int).toNat * 34) (((notesL ns).drop ((i : Int).toNat * 34)).take 34)) (hi : i < ns.length) : W.cell? ⟨g, off + (i : Int).toNat * 34 + 0, none⟩ = some (.string (bsOf ns[i].name)) :=
 note_cells h hi 0 _ rfl
theorem note_key {W : World} {g off i : Nat} {ns : List NoteN} (h : W.rangeAt g (off + (i : Int).toNat * 34) (((notesL ns).drop ((i : Int).toNat * 34)).take 34)) (hi : i < ns.length) : W.rangeAt g (off + (i : Int).toNat * 34 + 1) ns[i].key.arr.toList := by
 have := rangeAt_take (k := 32) (rangeAt_drop (k := 1) (note_cells h hi))
 have e : ((ns[i].arr.toList.drop 1).take 32) = ns[i].key.arr.toList := ntArr_part _ _ _
 rwa [e] at this
theorem bool_at {W : World} {g off i n : Nat} {f : Nat → Bool} (h : W.rangeAt g (off + (i : Int).toNat * 1) ((((List.range n).map fun i => .bool (f i)).drop ((i : Int).toNat * 1)).take 1)) (hi : i < n) : W.cell? ⟨g, off + (i : Int).toNat * 1, none⟩ = some (.bool (f i)) := by
 have := h 0 (.bool (f i)) (by simp [hi])
 simpa using this
end Go.Proofs.YtaebeemnipafbaaDoor

set_option maxRecDepth 20000
set_option linter.unusedSimpArgs false
set_option linter.unusedVariables false
namespace Go.Proofs.YtaebeemnipafbaaDoor
open Go.RowKit
def fiveD : Dig := ⟨5 :: List.replicate 31 0, by simp⟩
section
variable {P : Program} {ops : Array Oper} {rest : List Oper} {o : Oper} {a : Act} {W : World} {Q : Exit → Act → World → Prop} {d : Option Tmp}
theorem L_build5 (hd : o.dst = d) (hw : Region.wanted o (yielded ops a.tmps) = true) {T : TypeId} {x : Operand} (ho : o.op = .build T #[(0, x)]) {e : TypeId} {z : Value} {b bb : Nat} (hu : P.underlying T = some (.array 32 e)) (he : ElemIs P e z 1 b) (hz : ElemIs P T zeroD.v 32 bb) (hx : a.eval x = .int .u8 5) {q : Dig} (hq : q = fiveD)
  (h : wpList P ops Q rest (a.put d (.agg q.arr)) W) : wpList P ops Q (o :: rest) a W := by
 subst hq
 refine L_val hd hw ?_ h
 have hf : Instr.fill (fun i => some (i * 1, 1)) zeroD.arr [(0, .int .u8 5)] = some fiveD.arr := by rfl
 unfold execOp
 simp only [ho]
 simp [Instr.build, hz.run_zero, run_underlying hu, he.run_size, Value.cells, Dig.v, hx]
 simp only [Nat.mul_one] at hf
 rw [hf]
 rfl
end
theorem added_notes : addL [] [97] fiveD = [⟨[97], fiveD, 0⟩] := by rfl
theorem added_no : addE [] [97] = 0 := by rfl
set_option maxHeartbeats 4000000 in
set_option maxRecDepth 100000 in
theorem added_any (w : World) (hT : Tb w) : Calls Tryd.prog 11 #[] w fun e w' => e = .returned (.bool true) ∧ St w w' [] := by
 have hst := St.refl w
 have HT := Lib.hid hT
 obtain ⟨fv, hfv⟩ : ∃ fv, fv = fiveD := ⟨_, rfl⟩
 have added_notes := added_notes
 rw [← hfv] at added_notes
 have HG := Lib.hid (fun w' => lnew_any [] none 0 0 w' (SlR.nil_ w' 1) (by decide))
 have HA := Lib.hid (fun (p : LgP) (w' : World) (L : List Res) h hm => addU_any [] [] [97] fv p w w' L hT h hm .nil)
 simp only [added_no, if_true, List.length_nil] at HA
 have hlg := Logged.nil.addL [97] fv
 obtain ⟨P1, P2, hfn⟩ : ∃ P1 P2, findN [⟨[97], fv, 0⟩] [97] = ⟨⟨[97], fv, 0⟩, 0, P1, P2⟩ := ⟨_, _, rfl⟩
 have hli : lastI (addL [] [97] fv) [97] = some 0 := by rw [added_notes]; rfl
 rw [← added_notes] at hfn
 generalize addL [] [97] fv = N1 at *
 have HF := Lib.hid (fun (p : LgP) (w' : World) (L : List Res) h hm => by
  have := find_has [] N1 [97] p w w' L hT h hm hlg rfl 0 hli
  unfold FindEnd at this
  rw [hfn] at this
  exact this)
 have HD := Lib.hid (show decide (fv = fv) = true from decide_eq_true rfl)
 have HFV := Lib.hid hfv
 clear hT hlg hfn hfv added_notes hli
 go_enter Tryd.func11, Tryd.ntmps11
 go_upto_region 1 with (go_big_may; first
  | fail)
 go_upto_region 2 with (go_big_may; first
  | (go_at_call 22; refine (HG.out _).mono ?_; rintro e Wl ⟨p, rfl, hpm, hmp, hnew⟩; replace hst := hst.trans hnew; clear hnew)
  | fail)
 go_upto_region 4 with (go_big_may; first
  | fail)
 go_upto_region 5 with (go_big_may; first
  | (refine L_build5 (d := some 11) rfl rfl rfl Tryd.underlying30 el_uint8 el_api_Digest (by rfl) HFV.out ?_)
  | (go_at_call 24; refine (HA.out p _ _ hst hmp).mono ?_; rintro e Wa ⟨rfl, q1, u1, u2, u3, hst'⟩; clear hst; have hst := hst'; clear hst')
  | (refine L_build1 (d := some 11) rfl rfl rfl Tryd.underlying30 el_uint8 el_api_Digest ev_const rfl (by decide) ?_)
  | fail)
 clear HA HG
 go_upto_region 6 with (go_big_may; first
  | (go_at_call 30; have hff := HF.out q1 _ _ hst u3; rw [u1] at hff; refine hff.mono ?_; clear hff; rintro e Wf ⟨A1, c1, B1, d1, rfl, hst'⟩; clear hst; have hst := hst'; clear hst')
  | (refine L_allocA (d := some 4) rfl rfl rfl el_api_Found ?_; (try clear hnew); intro g4 W4 hnew; replace hst := hst.trans hnew; simp only [List.cons_append, List.nil_append] at hst)
  | (refine wpl_at (.store 44 (.tmp 4) (.tmp 18)) rfl ?_; first | (refine L_storeA rfl rfl hst rfl (by rfl) (ev_tmp rfl) (by first | rfl | exact Dig.one _ | exact fdArr_all _ _ _ _ _ _ _ _ _ _ | (simp; done)) el_api_Found (by first | rfl | exact Dig.size _ | exact fdArr_size _ _ _ _ _ _ _ _ _ _ | (simp; done)) 0 rfl (by first | rfl | exact Dig.size _ | exact fdArr_size _ _ _ _ _ _ _ _ _ _ | (simp; done)) ?_; clear hst; intro WS6 hst; simp only [List.set_cons_zero, List.set_cons_succ] at hst) | (refine L_storeA rfl rfl hst rfl (by rfl) (ev_tmp rfl) (by first | rfl | exact Dig.one _ | exact fdArr_all _ _ _ _ _ _ _ _ _ _ | (simp; done)) el_api_Found (by first | rfl | exact Dig.size _ | exact fdArr_size _ _ _ _ _ _ _ _ _ _ | (simp; done)) 1 rfl (by first | rfl | exact Dig.size _ | exact fdArr_size _ _ _ _ _ _ _ _ _ _ | (simp; done)) ?_; clear hst; intro WS6 hst; simp only [List.set_cons_zero, List.set_cons_succ] at hst) | (refine L_storeA rfl rfl hst rfl (by rfl) (ev_tmp rfl) (by first | rfl | exact Dig.one _ | exact fdArr_all _ _ _ _ _ _ _ _ _ _ | (simp; done)) el_api_Found (by first | rfl | exact Dig.size _ | exact fdArr_size _ _ _ _ _ _ _ _ _ _ | (simp; done)) 2 rfl (by first | rfl | exact Dig.size _ | exact fdArr_size _ _ _ _ _ _ _ _ _ _ | (simp; done)) ?_; clear hst; intro WS6 hst; simp only [List.set_cons_zero, List.set_cons_succ] at hst) | (refine L_storeM rfl rfl hst rfl (by rfl) (ev_tmp rfl) (by first | rfl | exact Dig.one _ | exact fdArr_all _ _ _ _ _ _ _ _ _ _ | (simp; done)) el_api_Found (by first | rfl | exact Dig.size _ | exact fdArr_size _ _ _ _ _ _ _ _ _ _ | (simp; done)) 0 rfl (by first | exact of_decide_eq_true rfl | (simp; done)) ?_; clear hst; intro WS6 hst; simp only [List.set_cons_zero, List.set_cons_succ] at hst)  | (refine L_storeM rfl rfl hst rfl (by rfl) (ev_tmp rfl) (by first | rfl | exact Dig.one _ | exact fdArr_all _ _ _ _ _ _ _ _ _ _ | (simp; done)) el_api_Found (by first | rfl | exact Dig.size _ | exact fdArr_size _ _ _ _ _ _ _ _ _ _ | (simp; done)) 1 rfl (by first | exact of_decide_eq_true rfl | (simp; done)) ?_; clear hst; intro WS6 hst; simp only [List.set_cons_zero, List.set_cons_succ] at hst)  | (refine L_storeM rfl rfl hst rfl (by rfl) (ev_tmp rfl) (by first | rfl | exact Dig.one _ | exact fdArr_all _ _ _ _ _ _ _ _ _ _ | (simp; done)) el_api_Found (by first | rfl | exact Dig.size _ | exact fdArr_size _ _ _ _ _ _ _ _ _ _ | (simp; done)) 2 rfl (by first | exact of_decide_eq_true rfl | (simp; done)) ?_; clear hst; intro WS6 hst; simp only [List.set_cons_zero, List.set_cons_succ] at hst))
  | fail)
 generalize lgL q1 [] N1 ++ [] = L0 at *
 clear HF
 go_wp2_with (first
  | (refine L_build5 (d := some 34) rfl rfl rfl Tryd.underlying30 el_uint8 el_api_Digest (by rfl) HFV.out ?_)
  | (first | (refine L_loadA (d := some 33) rfl rfl rfl (by rfl) Tryd.underlying30 rfl el_api_Digest (by first | exact hst.get 0 rfl | exact hst.get 1 rfl | exact hst.get 2 rfl) (by first | rfl | exact Dig.size _ | (simp; done)) ?_) | (refine L_loadM (d := some 33) rfl rfl rfl (by rfl) Tryd.underlying30 rfl el_api_Digest (by first | assumption | exact fdArr_key (hst.get 0 rfl)) (by first | rfl | exact Dig.size _ | (simp; done)) ?_))
  | (refine L_build1 (d := some 34) rfl rfl rfl Tryd.underlying30 el_uint8 el_api_Digest ev_const rfl (by decide) ?_)
  | (refine L_eqD (d := some 35) rfl rfl rfl Tryd.underlying30 Tryd.underlying5 el_uint8 eqG_D (ev_tmp rfl) (ev_tmp rfl) ?_; (try rw [HD.out]))
  | fail)
 go_ret
 exact ⟨rfl, hst.forget⟩
end Go.Proofs.YtaebeemnipafbaaDoor

set_option maxRecDepth 20000
set_option linter.unusedSimpArgs false
set_option linter.unusedVariables false
namespace Go.Proofs.YtaebeemnipafbaaDoor
open Go.ChangeShapes Go.WideShapes Go.ChangeAt Go.RowKit Go.Deep
section
variable {P : Program} {H : Type} {enc : TypeId × Value → H} {W : World} {base : Nat} {spare : Nat → Bool} {held : Bool}
theorem trod_struct3 {t : TypeId} {f0 f1 f2 : Field} {fuel : Nat} {cs : List Value} {x : DataW H × List MemPlace} (ht : P.underlying t = some (.struct #[f0, f1, f2])) (h : DataW.trod enc P W base spare held fuel t cs = some x) :
  ∃ y0 y1 y2 n, x = (.agg [y0.1, y1.1, y2.1], y0.2 ++ (y1.2 ++ y2.2)) ∧ cs.length = P.cellsOf t ∧ DataW.trod enc P W base spare held n f0.type ((cs.drop f0.offset).take (P.cellsOf f0.type)) = some y0 ∧
   DataW.trod enc P W base spare held n f1.type ((cs.drop f1.offset).take (P.cellsOf f1.type)) = some y1 ∧ DataW.trod enc P W base spare held n f2.type ((cs.drop f2.offset).take (P.cellsOf f2.type)) = some y2 := by
 obtain ⟨xs, n, _, rfl, hl, hlen, hf⟩ := DataW.trod_struct ht h
 match xs, hlen with
 | [y0, y1, y2], _ => exact ⟨y0, y1, y2, n, by simp, hl, by simpa using hf 0 f0 rfl, by simpa using hf 1 f1 rfl, by simpa using hf 2 f2 rfl⟩
theorem note_of_trod {t te e8 : TypeId} {f0 f1 f2 : Field} {fuel : Nat} {cs : List Value} {x : DataW H × List MemPlace} (ht : P.underlying t = some (.struct #[f0, f1, f2])) (h0 : P.underlying f0.type = some .string) (h1 : f1.type = te) (h2 : P.underlying f2.type = some (.int .i64)) (hte : P.underlying te = some (.array 32 e8)) (he : P.underlying e8 = some (.int .u8)) (hce : P.cellsOf e8 = 1) (hct : P.cellsOf te = 32)
  (o0 : f0.offset = 0) (o1 : f1.offset = 1) (o2 : f2.offset = 33) (c0 : P.cellsOf f0.type = 1) (c2 : P.cellsOf f2.type = 1) (ct : P.cellsOf t = 34) (hf : DataW.trod enc P W base spare held fuel t cs = some x) :
  ∃ q : NoteN, cs = q.arr.toList ∧ (Lit.int .i64 q.turn).wf = true := by
 obtain ⟨y0, y1, y2, m, _, hl, k0, k1, k2⟩ := trod_struct3 ht hf
 rw [o0, c0, List.drop_zero] at k0
 rw [h1, o1, hct] at k1
 rw [o2, c2] at k2
 rw [ct] at hl
 obtain ⟨s, hs, _⟩ := DataW.trod_string h0 k0
 obtain ⟨k, hk⟩ := dig_of_trod hte he hce hct k1
 obtain ⟨n, hc, _, hw⟩ := DataW.trod_int h2 k2
 refine ⟨⟨s.data.toList, k, n⟩, ?_, hw⟩
 have q : cs = cs.take 1 ++ ((cs.drop 1).take 32 ++ (cs.drop 33).take 1) := by
  have a1 : (cs.drop 33).take 1 = cs.drop 33 := List.take_of_length_le (by rw [List.length_drop]; omega)
  have a2 : (cs.drop 1).take 32 ++ cs.drop 33 = cs.drop 1 := by
   have := List.take_append_drop 32 (cs.drop 1)
   rwa [List.drop_drop] at this
  rw [a1, a2, List.take_append_drop]
 rw [q, hs, hc, hk]
 show _ = (ntArr s.data.toList k n).toList
 rw [ntArr_list, ← bsOf_eta s, Dig.toList]
 rfl
theorem open_notesS {r : Reach} {b0 : Nat} {t t1 te e8 : TypeId} {f0 f1 f2 : Field} {v : Value} {d : DataW H} {p : List MemPlace} (hts : P.underlying t = some (.slice t1)) (ht : P.underlying t1 = some (.struct #[f0, f1, f2])) (h0 : P.underlying f0.type = some .string) (h1 : f1.type = te) (h2 : P.underlying f2.type = some (.int .i64)) (hte : P.underlying te = some (.array 32 e8)) (he : P.underlying e8 = some (.int .u8)) (hce : P.cellsOf e8 = 1) (hct : P.cellsOf te = 32)
  (o0 : f0.offset = 0) (o1 : f1.offset = 1) (o2 : f2.offset = 33) (c0 : P.cellsOf f0.type = 1) (c2 : P.cellsOf f2.type = 1) (ct : P.cellsOf t1 = 34)
  (hval : Value.okWide P W r b0 t v) (h : DataW.Trod enc P W base spare held t v d p) :
  ∃ A n c hs, v = .slice A n c ∧ SlR W A n c 34 (notesL hs) ∧ (∀ q ∈ hs, (Lit.int .i64 q.turn).wf = true) ∧ ((d = .nil ∧ n = 0) ∨ ∃ el sp, d = .slice el sp ∧ el.length = n) := by
 obtain ⟨a0, len0, cap0, rfl⟩ := okWide_slice hts hval
 obtain ⟨fuel, hf⟩ := h
 rcases open_slice hts hf with ⟨hcs, hx⟩ | ⟨a, len, cap, m, k, D, Pl, hcs, hb, hl, hm, hmm, hx, hel⟩
 ·simp only [Value.cells, List.cons.injEq, Value.slice.injEq, and_true] at hcs
  obtain ⟨rfl, rfl, rfl⟩ := hcs
  simp only [Prod.mk.injEq] at hx
  exact ⟨none, 0, 0, [], rfl, SlR.nil_ W 34, (fun q hq => by cases hq), .inl ⟨hx.1, rfl⟩⟩
 ·simp only [Value.cells, List.cons.injEq, Value.slice.injEq, and_true] at hcs
  obtain ⟨rfl, rfl, rfl⟩ := hcs
  simp only [Prod.mk.injEq] at hx
  rw [ct] at hel
  have hlm : len0 ≤ m := by rw [hmm]; split <;> omega
  have hin : Inhabited NoteN := ⟨⟨[], zeroD, 0⟩⟩
  obtain ⟨bs, hbs⟩ := choose_below (α := NoteN) (n := len0) (p := fun i b => W.cells? base (a.add (i * 34)) 34 = some b.arr.toList ∧ (Lit.int .i64 b.turn).wf = true) (fun i hi => by
   obtain ⟨cs', k1, k2⟩ := hel i (by omega)
   obtain ⟨q, rfl, hw⟩ := note_of_trod ht h0 h1 h2 hte he hce hct o0 o1 o2 c0 c2 ct k2
   exact ⟨q, k1, hw⟩)
  have hs := slr_of (W := W) (base := base) (A := some a) (n := len0) (c := cap0) (s := 34) (by decide) (fun i => (bs i).arr.toList) hl hm (fun _ => ⟨a, rfl, fun i hi => (hbs i hi).1⟩)
  refine ⟨some a, len0, cap0, (List.range len0).map bs, rfl, ?_, ?_, .inr ⟨_, _, hx.1, by simp⟩⟩
  ·have hfl : ∀ l : List Nat, l.flatMap (fun i => (bs i).arr.toList) = notesL (l.map bs) := by
    intro l
    induction l with
    | nil => rfl
    | cons x l ih => simp only [List.flatMap_cons, ih, List.map_cons, notesL]
   rw [hfl] at hs
   exact hs
  ·intro q hq
   obtain ⟨i, hi, rfl⟩ := List.mem_map.1 hq
   exact (hbs i (List.mem_range.1 hi)).2
theorem open_boolsS {r : Reach} {b0 : Nat} {t t1 : TypeId} {v : Value} {d : DataW H} {p : List MemPlace} (hts : P.underlying t = some (.slice t1)) (ht : P.underlying t1 = some .bool) (ct : P.cellsOf t1 = 1)
  (hval : Value.okWide P W r b0 t v) (h : DataW.Trod enc P W base spare held t v d p) :
  ∃ A n c, ∃ f : Nat → Bool, v = .slice A n c ∧ SlR W A n c 1 ((List.range n).map fun i => .bool (f i)) := by
 obtain ⟨a0, len0, cap0, rfl⟩ := okWide_slice hts hval
 obtain ⟨fuel, hf⟩ := h
 rcases open_slice hts hf with ⟨hcs, hx⟩ | ⟨a, len, cap, m, k, D, Pl, hcs, hb, hl, hm, hmm, hx, hel⟩
 ·simp only [Value.cells, List.cons.injEq, Value.slice.injEq, and_true] at hcs
  obtain ⟨rfl, rfl, rfl⟩ := hcs
  exact ⟨none, 0, 0, fun _ => false, rfl, SlR.nil_ W 1⟩
 ·simp only [Value.cells, List.cons.injEq, Value.slice.injEq, and_true] at hcs
  obtain ⟨rfl, rfl, rfl⟩ := hcs
  rw [ct] at hel
  have hlm : len0 ≤ m := by rw [hmm]; split <;> omega
  obtain ⟨bs, hbs⟩ := choose_below (α := Bool) (n := len0) (p := fun i b => W.cells? base (a.add (i * 1)) 1 = some [.bool b]) (fun i hi => by
   obtain ⟨cs', k1, k2⟩ := hel i (by omega)
   obtain ⟨b, rfl, _⟩ := DataW.trod_bool ht k2
   exact ⟨b, k1⟩)
  have hs := slr_of (W := W) (base := base) (A := some a) (n := len0) (c := cap0) (s := 1) (by decide) (fun i => [.bool (bs i)]) hl hm (fun _ => ⟨a, rfl, fun i hi => hbs i hi⟩)
  refine ⟨some a, len0, cap0, bs, rfl, ?_⟩
  have hfl : ∀ l : List Nat, l.flatMap (fun i => [Value.bool (bs i)]) = l.map fun i => .bool (bs i) := by
   intro l
   induction l with
   | nil => rfl
   | cons x l ih => simp only [List.flatMap_cons, ih, List.map_cons, List.singleton_append]
  rw [hfl] at hs
  exact hs
end
end Go.Proofs.YtaebeemnipafbaaDoor
