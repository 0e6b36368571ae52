/-
  Proved here: LogLooks: the law returns true for every input, and leaves its arguments as they were.
-/
import Derived.Test.YtaebeemnipafbaaGreatDoorPkLogLooksC
import Derived.Test.YtaebeemnipafbaaGreatDoorDigsL
import Derived.Test.YtaebeemnipafbaaGreatDoorPkLogLooksA
import Derived.Test.YtaebeemnipafbaaGreatDoorPkLogLooksB
import Derived.Test.YtaebeemnipafbaaGreatDoorForkM
import Derived.Test.YtaebeemnipafbaaGreatDoorTold
import Derived.Test.YtaebeemnipafbaaGreatDoorSkip
import Derived.Test.YtaebeemnipafbaaGreatDoorRows
import Derived.LaidHandle
import Derived.LaidLaws
import Derived.ChangeSame
import Derived.ChangeVars
import Derived.JoinedOf
import Derived.RowKit
import Derived.RowKitTokens
import Derived.Stop.Joined
import Derived.Test.YtaebeemnipafbaaGreatDoorOpenB
import Derived.Test.YtaebeemnipafbaaGreatDoorCards
import Derived.Test.YtaebeemnipafbaaGreatDoorTie
import Derived.Deep.DeepHandedRow
import Derived.ProofKit
import Derived.OpenShut
set_option maxRecDepth 20000
set_option linter.unusedSimpArgs false
set_option linter.unusedVariables false
namespace Go.Proofs.YtaebeemnipafbaaGreatDoor
open Go.RowKit Go.Shelf
theorem nodup_perm {ss es : List (Nat × Dig)} (hs : ss.Pairwise fun a b => a.1 < b.1) (hp : ss.Perm es) : leafAt ss = leafAt es := by
 funext k
 exact leafAt_perm (pw_nodup hs) hp k
theorem troot32 (es ss : List (Nat × Dig)) (O : Option Addr) (n oc : Nat) (w' : World) (ht : Tb w') (h : SlR w' O n oc 33 (entL ss)) (hs : ss.Pairwise fun a b => a.1 < b.1) (hp : ss.Perm es) (hk : ∀ e ∈ es, e.1 < 4294967296) :
  Calls Tryz.prog 85 #[.slice O n oc, .int .i64 32] w' fun e w'' => e = .returned (mRoot (leafAt es) 32 0).v ∧ St w' w'' [] := by
 obtain ⟨b, hb⟩ : ∃ b : Nat, b = 32 := ⟨_, rfl⟩
 have hbi : (32 : Int) = ((b : Nat) : Int) := by rw [hb]; rfl
 have h1 := troot_any b ss O n oc 0 w' ht h (by omega) hs (fun e he => ⟨by omega, by
  have := hk e (hp.mem_iff.1 he)
  have e2 : 2 ^ b = 4294967296 := by rw [hb]
  omega⟩) (by
  have e2 : 2 ^ b = 4294967296 := by rw [hb]
  omega)
 rw [nodup_perm hs hp, Nat.zero_mul] at h1
 rw [hbi, ← hb]
 exact h1
set_option maxHeartbeats 1000000 in
theorem tRootM_any (es : List (Nat × Dig)) (A : Option Addr) (n c : Nat) (w : World) (hT : Tb w) (hx : SlR w A n c 33 (entL es)) (hn : n ≤ 64) (hk : ∀ e ∈ es, e.1 < 4294967296) (hd : (es.map (·.1)).Nodup) :
  Calls Tryz.prog 39 #[.slice A n c] w fun e w' => e = .returned (.tuple #[(mRoot (leafAt es) 32 0).v, .nilIface]) ∧ St w w' [] := by
 have hst := St.refl w
 have HT := Lib.hid hT
 have HS := Lib.hid (fun (w' : World) (h : SlR w' A n c 33 (entL es)) => tsorted_any es A n c w' h hn hk hd)
 have HR := Lib.hid (fun (ss : List (Nat × Dig)) (O : Option Addr) (oc : Nat) (w' : World) (ht : Tb w') (hs : ss.Pairwise fun a b => a.1 < b.1) (hp : ss.Perm es) (h : SlR w' O n oc 33 (entL ss)) =>
  troot32 es ss O n oc w' ht h hs hp hk)
 generalize mRoot (leafAt es) 32 0 = r at *
 clear hT hk hd
 go_enter Tryz.func39, Tryz.ntmps39
 go_upto_region 1 with (go_big_may; (refine L_allocA (d := some 2) rfl rfl rfl el_api_Digest ?_; (try clear hnew); intro g2 W2 hnew; replace hst := hst.trans hnew; simp only [List.cons_append, List.nil_append] at hst))
 go_upto_region 2 with (go_big_may; (go_at_call 84; (try clear hnew); refine (HS.out _ (hst.old (by decide) hx)).mono ?_; rintro e Ws ⟨ss, O, oc, rfl, hs, hp, hnew⟩; have HSP := Lib.hid (And.intro hs hp); clear hs hp; replace hst := hst.trans hnew; simp only [List.cons_append, List.nil_append] at hst))
 go_upto_region 4 with (go_big_may; fail)
 go_wp2_with (first | (go_at_call 85; (try clear hnew); refine (HR.out ss _ _ _ (HT.out.of hst) HSP.out.1 HSP.out.2 (hst.sl 0 rfl)).mono ?_; rintro e Wr ⟨rfl, hnew⟩; replace hst := hst.keep hnew) | (refine wpl_at (.store 32 (.tmp 2) (.tmp 16)) rfl ?_; (refine L_storeA rfl rfl hst rfl (by rfl) (ev_tmp rfl) (by (exact Dig.one _)) el_api_Digest (by (exact Dig.size _)) 1 rfl (by (rfl)) ?_; clear hst; intro WS2 hst; simp only [List.set_cons_zero, List.set_cons_succ] at hst)))
 refine bp_cell_tmp rfl rfl rfl rfl (hst.get 1 rfl) Tryz.underlying32 rfl el_api_Digest (by (exact Dig.size _)) ?_
 exact ⟨rfl, hst.forget⟩
def pthN (f : Nat → Dig) (k j : Nat) : List Dig := (List.range 32).map fun i => if i < j then zeroD else mRoot f i (sibN i k)
theorem pthN_len (f : Nat → Dig) (k j : Nat) : (pthN f k j).length = 32 := by simp [pthN]
theorem pthN_0 (f : Nat → Dig) (k : Nat) : pthN f k 0 = mPath f k 32 := by simp [pthN, mPath]
theorem pthN_32 (f : Nat → Dig) (k : Nat) : pthN f k 32 = List.replicate 32 zeroD := by
 unfold pthN
 apply List.ext_getElem?
 intro i
 rw [List.getElem?_map]
 by_cases h : i < 32
 ·rw [List.getElem?_range h, List.getElem?_replicate, if_pos h]
  simp [h]
 ·rw [List.getElem?_eq_none (by simpa using h), List.getElem?_eq_none (by simpa using h)]; rfl
theorem pthN_set (f : Nat → Dig) (k j : Nat) (h : j < 32) : (pthN f k (j + 1)).set j (mRoot f j (sibN j k)) = pthN f k j := by
 apply List.ext_getElem?
 intro i
 rw [List.getElem?_set]
 unfold pthN
 by_cases hi : i < 32
 ·by_cases hj : j = i
  ·subst hj
   simp [h]
  ·rw [if_neg hj, List.getElem?_map, List.getElem?_map, List.getElem?_range hi]
   simp only [Option.map_some]
   congr 1
   by_cases h1 : i < j
   ·rw [if_pos (by omega), if_pos h1]
   ·rw [if_neg (by omega), if_neg h1]
 ·have : ¬ j = i := by omega
  simp [this, hi]
theorem digsL_putD (ds : List Dig) (j : Nat) (d : Dig) (h : j < ds.length) : (digsL ds).take (j * 32) ++ d.arr.toList ++ (digsL ds).drop (j * 32 + 32) = digsL (ds.set j d) := by
 have e : ds.set j d = ds.take j ++ ([d] ++ ds.drop (j + 1)) := by rw [List.set_eq_take_append_cons_drop, if_pos h]; rfl
 have h1 := digsL_cut ds 0 j
 have h2 := digsL_cut ds (j + 1) (ds.length - (j + 1))
 rw [Nat.zero_mul, List.drop_zero, List.drop_zero] at h1
 rw [show j * 32 + 32 = (j + 1) * 32 by omega, h1, e]
 have h3 : (digsL ds).drop ((j + 1) * 32) = digsL (ds.drop (j + 1)) := by
  rw [List.take_of_length_le (by rw [List.length_drop, length_digsL, ← Nat.sub_mul]; exact Nat.le_refl _), List.take_of_length_le (by rw [List.length_drop]; exact Nat.le_refl _)] at h2
  exact h2
 rw [h3]
 simp [digsL, Dig.toList]
theorem under_step {es : List (Nat × Dig)} {b q k : Nat} {f : Nat → Dig} (hs : es.Pairwise fun x y => x.1 < y.1) (hr : ∀ e ∈ es, q * 2 ^ (b + 1) ≤ e.1 ∧ e.1 < q * 2 ^ (b + 1) + 2 ^ (b + 1)) (hq : q = k / 2 ^ (b + 1))
  (hf : ∀ x, q * 2 ^ (b + 1) ≤ x → x < q * 2 ^ (b + 1) + 2 ^ (b + 1) → leafAt es x = f x) :
  ∀ own oth : List (Nat × Dig), (own, oth) = (if k / 2 ^ b % 2 = 1 then (es.drop (cutI b es), es.take (cutI b es)) else (es.take (cutI b es), es.drop (cutI b es))) →
  (own.Pairwise fun x y => x.1 < y.1) ∧ (∀ e ∈ own, k / 2 ^ b * 2 ^ b ≤ e.1 ∧ e.1 < k / 2 ^ b * 2 ^ b + 2 ^ b) ∧ (∀ x, k / 2 ^ b * 2 ^ b ≤ x → x < k / 2 ^ b * 2 ^ b + 2 ^ b → leafAt own x = f x) ∧
  (oth.Pairwise fun x y => x.1 < y.1) ∧ (∀ e ∈ oth, sibN b k ≤ e.1 ∧ e.1 < sibN b k + 2 ^ b) ∧ (∀ x, sibN b k ≤ x → x < sibN b k + 2 ^ b → leafAt oth x = f x) := by
 have hcut := cutI_mid hr
 have hlow : es.take (cutI b es) = es.filter fun e => decide (e.1 < q * 2 ^ (b + 1) + 2 ^ b) := by rw [hcut]; exact cut_low es _ hs
 have hhigh : es.drop (cutI b es) = es.filter fun e => decide (q * 2 ^ (b + 1) + 2 ^ b ≤ e.1) := by rw [hcut]; exact cut_high es _ hs
 have e1 : 2 ^ (b + 1) = 2 ^ b + 2 ^ b := by rw [Nat.pow_succ]; omega
 have hp := Nat.two_pow_pos b
 have e2 : k / 2 ^ (b + 1) = k / 2 ^ b / 2 := half_step k b
 rw [e2] at hq
 have e3 : q * 2 ^ (b + 1) = 2 * q * 2 ^ b := by rw [Nat.pow_succ, Nat.mul_comm (2 ^ b) 2, ← Nat.mul_assoc, Nat.mul_comm q 2]
 have e4 : (2 * q + 1) * 2 ^ b = 2 * q * 2 ^ b + 2 ^ b := by rw [Nat.add_mul, Nat.one_mul]
 have pl : (es.take (cutI b es)).Pairwise fun x y => x.1 < y.1 := hs.sublist (List.take_sublist _ _)
 have ph : (es.drop (cutI b es)).Pairwise fun x y => x.1 < y.1 := hs.sublist (List.drop_sublist _ _)
 have rl : ∀ e ∈ es.take (cutI b es), 2 * q * 2 ^ b ≤ e.1 ∧ e.1 < 2 * q * 2 ^ b + 2 ^ b := fun e he => by
  have h1 := hr e ((List.take_sublist _ _).subset he)
  rw [hlow] at he
  have h2 := of_decide_eq_true (List.mem_filter.1 he).2
  omega
 have rh : ∀ e ∈ es.drop (cutI b es), (2 * q + 1) * 2 ^ b ≤ e.1 ∧ e.1 < (2 * q + 1) * 2 ^ b + 2 ^ b := fun e he => by
  have h1 := hr e ((List.drop_sublist _ _).subset he)
  rw [hhigh] at he
  have h2 := of_decide_eq_true (List.mem_filter.1 he).2
  omega
 have fl : ∀ x, 2 * q * 2 ^ b ≤ x → x < 2 * q * 2 ^ b + 2 ^ b → leafAt (es.take (cutI b es)) x = f x := fun x h1 h2 => by
  rw [hlow, leafAt_filter es (fun y => decide (y < q * 2 ^ (b + 1) + 2 ^ b)) (decide_eq_true (by omega))]
  exact hf x (by omega) (by omega)
 have fh : ∀ x, (2 * q + 1) * 2 ^ b ≤ x → x < (2 * q + 1) * 2 ^ b + 2 ^ b → leafAt (es.drop (cutI b es)) x = f x := fun x h1 h2 => by
  rw [hhigh, leafAt_filter es (fun y => decide (q * 2 ^ (b + 1) + 2 ^ b ≤ y)) (decide_eq_true (by omega))]
  exact hf x (by omega) (by omega)
 intro own oth ho
 unfold sibN
 by_cases hb : k / 2 ^ b % 2 = 1
 ·rw [if_pos hb] at ho ⊢
  obtain ⟨rfl, rfl⟩ := Prod.mk.inj ho
  have hk : k / 2 ^ b = 2 * q + 1 := by omega
  rw [hk, Nat.add_sub_cancel]
  exact ⟨ph, rh, fh, pl, rl, fl⟩
 ·rw [if_neg hb] at ho ⊢
  obtain ⟨rfl, rfl⟩ := Prod.mk.inj ho
  have hk : k / 2 ^ b = 2 * q := by omega
  rw [hk]
  exact ⟨pl, rl, fl, ph, rh, fh⟩
theorem par_le {k b : Nat} (hk : k < 4294967296) (hb : b ≤ 31) : k / 2 ^ (b + 1) * 2 ^ (b + 1) + 2 ^ (b + 1) ≤ 4294967296 := by
 have e : (4294967296 : Nat) = 2 ^ (31 - b) * 2 ^ (b + 1) := by rw [← Nat.pow_add, show 31 - b + (b + 1) = 32 by omega]
 have h1 : k / 2 ^ (b + 1) < 2 ^ (31 - b) := (Nat.div_lt_iff_lt_mul (Nat.two_pow_pos _)).2 (by rw [← e]; exact hk)
 have h2 := Nat.mul_le_mul_right (2 ^ (b + 1)) h1
 rw [Nat.succ_mul, ← e] at h2
 exact h2
theorem sib_form {k b : Nat} (hk : k < 4294967296) (hb : b ≤ 31) : ∃ q, sibN b k = q * 2 ^ b ∧ q * 2 ^ b + 2 ^ b ≤ 4294967296 := by
 have h := par_le hk hb
 have hp := Nat.two_pow_pos b
 have e1 : 2 ^ (b + 1) = 2 ^ b + 2 ^ b := by rw [Nat.pow_succ]; omega
 have e2 : k / 2 ^ (b + 1) = k / 2 ^ b / 2 := half_step k b
 have e3 : k / 2 ^ (b + 1) * 2 ^ (b + 1) = 2 * (k / 2 ^ (b + 1)) * 2 ^ b := by rw [Nat.pow_succ, Nat.mul_comm (2 ^ b) 2, ← Nat.mul_assoc, Nat.mul_comm (k / (2 * 2 ^ b)) 2]
 unfold sibN
 by_cases hb1 : k / 2 ^ b % 2 = 1
 ·rw [if_pos hb1]
  refine ⟨_, rfl, ?_⟩
  have : k / 2 ^ b - 1 = 2 * (k / 2 ^ (b + 1)) := by omega
  rw [this]
  omega
 ·rw [if_neg hb1]
  refine ⟨_, rfl, ?_⟩
  have : k / 2 ^ b + 1 = 2 * (k / 2 ^ (b + 1)) + 1 := by omega
  rw [this, Nat.add_mul, Nat.one_mul]
  omega
section
variable {P : Program} {ops : Array Oper} {rest : List Oper} {o : Oper} {a : Act} {W : World} {Q : Exit → Act → World → Prop} {d : Option Tmp}
theorem zero_cells : ∀ v ∈ zeroD.arr.toList, v = .int .u8 0 := by
 intro v hv
 rw [Dig.toList] at hv
 obtain ⟨b, hb, rfl⟩ := List.mem_map.1 hv
 rw [show b = 0 from List.eq_of_mem_replicate hb]
 rfl
theorem digs_zero (n : Nat) : digsL (List.replicate n zeroD) = List.replicate (n * 32) (.int .u8 0) := by
 rw [List.eq_replicate_iff]
 refine ⟨by rw [length_digsL, List.length_replicate], fun v hv => ?_⟩
 unfold digsL at hv
 obtain ⟨d, hd, hv⟩ := List.mem_flatMap.1 hv
 rw [List.eq_of_mem_replicate hd, ← Dig.toList] at hv
 exact zero_cells v hv
theorem L_makeD (hd : o.dst = d) (hw : Region.wanted o (yielded ops a.tmps) = true) {T : TypeId} {x y : Operand} (ho : o.op = .makeSlice T x y) {n : Nat} (hx : a.eval x = .int .i64 (n : Int)) (hy : a.eval y = .int .i64 (n : Int))
  {e : TypeId} (hu : P.underlying T = some (.slice e)) {b : Nat} (he : ElemIs P e (.agg zeroD.arr) 32 b) (hb : n * b ≤ 281474976710656) (hn : n ≤ maxLen)
  (h : ∀ (g : Option Addr) (W' : World), St W W' [.row g n n e 32 (digsL (List.replicate n zeroD))] → wpList P ops Q rest (a.put d (.slice g n n)) W') : wpList P ops Q (o :: rest) a W := by
 obtain ⟨i, hi, hiz, his, hib⟩ := he.parts
 have hn' : (n : Int) ≤ 9223372036854775807 := by simp only [maxLen] at hn; omega
 have hr := run_make (P := P) W T e i (.agg zeroD.arr) hu hi hiz .i64 .i64 n n (by omega) (Int.le_refl _) (by rw [hib, Int.mul_comm]; omega) hn'
 simp only [Int.toNat_natCast] at hr
 have hsz := size_madeCells (Value.agg zeroD.arr).cells (n * i.size)
 have hcells : (madeCells (Value.agg zeroD.arr).cells (n * i.size)).toList = digsL (List.replicate n zeroD) := by
  rw [digs_zero, List.eq_replicate_iff]
  refine ⟨by rw [Array.length_toList, hsz, his], fun v hv => ?_⟩
  rw [Array.mem_toList_iff] at hv
  unfold madeCells at hv
  simp only [Value.cells] at hv
  obtain ⟨j, hj, rfl⟩ := Array.mem_map.1 hv
  have hlt : j % zeroD.arr.size < zeroD.arr.size := Nat.mod_lt _ (by rw [Dig.size]; decide)
  have h5 : zeroD.arr[j % zeroD.arr.size]! = zeroD.arr[j % zeroD.arr.size]'hlt := getElem!_pos zeroD.arr _ hlt
  rw [h5]
  exact zero_cells _ (Array.mem_toList_iff.2 (Array.getElem_mem hlt))
 have hrow := St.newRow (W := W) e (n := n) (s := 32) (cs := madeCells (Value.agg zeroD.arr).cells (n * i.size)) (by rw [hsz, his]) hn
 rw [hcells] at hrow
 refine L_val hd hw ?_ (h _ _ hrow)
 unfold execOp
 simp only [ho, hx, hy]
 simp [hr]
end
attribute [local simp] prArr_size
set_option maxHeartbeats 8000000 in
set_option maxRecDepth 100000 in
theorem tPathM_any (es : List (Nat × Dig)) (A : Option Addr) (n c k : Nat) (w : World) (hT : Tb w) (hx : SlR w A n c 33 (entL es)) (hn : n ≤ 64) (hk : ∀ e ∈ es, e.1 < 4294967296) (hd : (es.map (·.1)).Nodup) (hk2 : k < 4294967296) :
  Calls Tryz.prog 46 #[.slice A n c, .int .i64 (k : Int)] w fun e w' => ∃ O oc, e = .returned (.tuple #[.slice O 32 oc, .nilIface]) ∧ St w w' [.row O 32 oc 32 32 (digsL (mPath (leafAt es) k 32))] := by
 have hst := St.refl w
 have HT := Lib.hid hT
 have HS := Lib.hid (fun (w' : World) (h : SlR w' A n c 33 (entL es)) => tsorted_any es A n c w' h hn hk hd)
 have HK := Lib.hid (fun w : World => by have h := tkey_any (k : Int) w; rw [decide_eq_true (show 0 ≤ (k : Int) ∧ (k : Int) < 4294967296 by omega)] at h; exact h)
 have HE := Lib.hid (fun (ss : List (Nat × Dig)) (hs : ss.Pairwise fun a b => a.1 < b.1) (hp : ss.Perm es) => nodup_perm hs hp)
 have HB := Lib.hid (fun (ss : List (Nat × Dig)) (hp : ss.Perm es) (e : Nat × Dig) (he : e ∈ ss) => hk e (hp.mem_iff.1 he))
 generalize hf : leafAt es = f at *
 have Hk2 := Lib.hid hk2
 have hZ := Lib.hid (show digsL (List.replicate 32 zeroD) = digsL (pthN f k 32) from by rw [pthN_32])
 have h0Z := Lib.hid (pthN_0 f k)
 clear hT hk hd hf hk2
 go_enter Tryz.func46, Tryz.ntmps46
 go_upto_region 1 with (go_big_may; fail)
 go_upto_region 2 with (go_big_may; (go_at_call 84; (try clear hnew); refine (HS.out _ (hst.old (by decide) hx)).mono ?_; rintro e Ws ⟨ss, O, oc, rfl, hs, hp, hnew⟩; have HSP := Lib.hid (And.intro hs hp); clear hs hp; replace hst := hst.trans hnew; simp only [List.cons_append, List.nil_append] at hst))
 go_upto_region 4 with (go_big_may; fail)
 go_upto_region 6 with (go_big_may; (go_at_call 89; (try clear hnew); refine (HK.out _).mono ?_; rintro e Wk1 ⟨rfl, hnew⟩; replace hst := hst.keep hnew))
 (try clear hnew)
 go_upto_region 7 with (go_big_may; (refine L_makeD (d := some 24) (n := 32) rfl rfl rfl (by rfl) (by rfl) Tryz.underlying44 el_api_Digest (by decide) (by decide) ?_; intro Pp W24 hnew; replace hst := hst.trans hnew; simp only [List.cons_append, List.nil_append] at hst; rw [hZ.out] at hst))
 go_upto_region 8 with (go_big_may; fail)
 (try clear hnew)
 go_loopg [6, 9] 32 (fun gk s6 s9 wr => ∃ (own : List (Nat × Dig)) (A' : Option Addr) (n' c' : Nat), Hid (gk ≤ 32 ∧ (own.Pairwise fun x y => x.1 < y.1) ∧ (∀ e ∈ own, k / 2 ^ gk * 2 ^ gk ≤ e.1 ∧ e.1 < k / 2 ^ gk * 2 ^ gk + 2 ^ gk) ∧ (∀ x, k / 2 ^ gk * 2 ^ gk ≤ x → x < k / 2 ^ gk * 2 ^ gk + 2 ^ gk → leafAt own x = f x)) ∧
  Hid (∀ V, SlR V O n oc 33 (entL ss) → SlR V A' n' c' 33 (entL own)) ∧ s9 = .int .i64 ((gk : Int) - 1) ∧ s6 = .slice A' n' c' ∧ St w wr [.row Pp 32 32 32 32 (digsL (pthN f k gk)), .row O n oc 110 33 (entL ss)])
 case atStart =>
  refine ⟨ss, O, n, oc, Lib.hid ⟨Nat.le_refl _, HSP.out.1, ?_, ?_⟩, Lib.hid (fun V h => h), rfl, rfl, hst⟩
  ·intro e he
   have := HB.out ss HSP.out.2 e he
   have hk := Hk2.out
   rw [Nat.div_eq_of_lt (by omega)]
   omega
  ·intro x _ _
   rw [HE.out ss HSP.out.1 HSP.out.2]
 case round =>
  clear hst
  obtain ⟨es', A', n', c', HG, HO, rfl, rfl, hst⟩ := hrel
  cases gk with
  | zero =>
   rw [h0Z.out] at hst
   go_wp2_with (fail)
   go_ret2
   exact ⟨Pp, 32, rfl, hst.pick [0] (by decide)⟩
  | succ b =>
   obtain ⟨hb32, g1, g2, g3⟩ := HG.out
   have hk := Hk2.out
   have hb31 : b ≤ 31 := by omega
   have e1 : ((b + 1 : Nat) : Int) - 1 = (b : Int) := by omega
   rw [e1]
   have hus := under_step (b := b) (k := k) g1 g2 rfl g3
   obtain ⟨q, hq1, hq2⟩ := sib_form hk hb31
   have hps := pthN_set f k b (by omega)
   have hds := digsL_putD (pthN f k (b + 1)) b (mRoot f b (sibN b k)) (by rw [pthN_len]; omega)
   rw [hps] at hds
   have HSET := Lib.hid (show List.take (((b : Nat) : Int).toNat * 32) (digsL (pthN f k (b + 1))) ++ (mRoot f b (sibN b k)).arr.toList ++ List.drop (((b : Nat) : Int).toNat * 32 + 32) (digsL (pthN f k (b + 1))) = digsL (pthN f k b) from hds)
   have HH := Lib.hid (fun (w' : World) (h : SlR w' A' n' c' 33 (entL es')) => halves_any es' A' n' c' b w' h hb31 (fun e he => by
    have h1 := g2 e he
    have h2 := par_le hk hb31
    omega))
   have HRT0 := fun (oth : List (Nat × Dig)) (ho1 : oth.Pairwise fun x y => x.1 < y.1) (ho2 : ∀ e ∈ oth, sibN b k ≤ e.1 ∧ e.1 < sibN b k + 2 ^ b) (ho3 : ∀ x, sibN b k ≤ x → x < sibN b k + 2 ^ b → leafAt oth x = f x) (A1 : Option Addr) (n1 c1 : Nat) (w' : World) (ht : Tb w') (h : SlR w' A1 n1 c1 33 (entL oth)) =>
    show Calls Tryz.prog 85 #[.slice A1 n1 c1, .int .i64 (b : Int)] w' fun e w'' => e = .returned (mRoot f b (sibN b k)).v ∧ St w' w'' [] from by
     have h1 := troot_any b oth A1 n1 c1 q w' ht h (by omega) ho1 (fun e he => by rw [← hq1]; exact ho2 e he) hq2
     rw [← hq1, mRoot_congr b (sibN b k) ho3] at h1
     exact h1
   have hq : k / 2 ^ b < 2 ^ 63 := Nat.lt_of_le_of_lt (Nat.div_le_self _ _) (by omega)
   by_cases hb1 : k / 2 ^ b % 2 = 1
   ·obtain ⟨own, hown0⟩ : ∃ own, own = es'.drop (cutI b es') := ⟨_, rfl⟩
    obtain ⟨oth, hoth0⟩ : ∃ oth, oth = es'.take (cutI b es') := ⟨_, rfl⟩
    obtain ⟨u1, u2, u3, u4, u5, u6⟩ := hus own oth (by rw [if_pos hb1, hown0, hoth0])
    have HU := Lib.hid (And.intro u1 (And.intro u2 u3))
    have HRT := Lib.hid (HRT0 oth u4 u5 u6)
    have HB2 := Lib.hid hb1
    rw [← hown0, ← hoth0] at HH
    clear u1 u2 u3 u4 u5 u6 hus HRT0 hb1 hown0 hoth0 g1 g2 g3 hq1 hq2 hps hds e1 HG hk
    generalize mRoot f b (sibN b k) = rt at *
    generalize digsL (pthN f k (b + 1)) = x1 at *
    generalize hx00 : digsL (pthN f k b) = x0 at *
    have HX0 := Lib.hid hx00
    clear hx00
    generalize entL oth = eo at *
    generalize entL es' = e' at *
    go_wp2_with (first | (go_at_call 90; (try clear hnew); refine (HH.out _ (HO.out _ (hst.sl 1 rfl))).mono ?_; rintro e Wh ⟨A1, n1, c1, A2, n2, c2, rfl, hx1, hx2, hnew⟩; have HX1 := Lib.hid hx1; have HX2 := Lib.hid hx2; clear hx1 hx2; replace hst := hst.keep hnew; clear hnew) | (refine L_shrN (d := some 37) rfl rfl rfl (ev_tmp rfl) (ev_tmp rfl) (by omega) ?_) | (refine L_and1 (d := some 38) rfl rfl rfl (ev_tmp rfl) ev_const hq ?_; rw [HB2.out]) | (go_at_call 85; (try clear hnew); refine (HRT.out _ _ _ _ (HT.out.of hst) (HX1.out _ (HO.out _ (hst.sl 1 rfl)))).mono ?_; rintro e Wr ⟨rfl, hnew⟩; replace hst := hst.keep hnew) | ((refine L_idxO (d := some 48) rfl rfl hst rfl (by rfl) (by rfl) Tryz.underlying44 el_api_Digest 0 rfl (by (rfl)) (by omega) (by omega) ?_; intro o48 p48 ha48; ((subst ha48)))) | (refine wpl_at (.store 32 (.tmp 48) (.tmp 47)) rfl ?_; (refine L_storeRM rfl rfl hst rfl (by rfl) (ev_tmp rfl) (by (exact Dig.one _)) el_api_Digest (by (exact Dig.size _)) 0 rfl (by (omega)) ?_; clear hst; intro WS6 hst; simp only [List.set_cons_zero, List.set_cons_succ, HSET.out] at hst)))
    go_roundg b
    case measure => exact Nat.lt_succ_self b
    case rel =>
     refine ⟨own, A2, n2, c2, Lib.hid ⟨by omega, HU.out⟩, Lib.hid (fun V hV => HX2.out V (HO.out V hV)), by go_num, rfl, ?_⟩
     rw [HX0.out]
     exact hst
   ·obtain ⟨own, hown0⟩ : ∃ own, own = es'.take (cutI b es') := ⟨_, rfl⟩
    obtain ⟨oth, hoth0⟩ : ∃ oth, oth = es'.drop (cutI b es') := ⟨_, rfl⟩
    obtain ⟨u1, u2, u3, u4, u5, u6⟩ := hus own oth (by rw [if_neg hb1, hown0, hoth0])
    have HU := Lib.hid (And.intro u1 (And.intro u2 u3))
    have HRT := Lib.hid (HRT0 oth u4 u5 u6)
    have HB2 := Lib.hid (show k / 2 ^ b % 2 = 0 by omega)
    rw [← hown0, ← hoth0] at HH
    clear u1 u2 u3 u4 u5 u6 hus HRT0 hb1 hown0 hoth0 g1 g2 g3 hq1 hq2 hps hds e1 HG hk
    generalize mRoot f b (sibN b k) = rt at *
    generalize digsL (pthN f k (b + 1)) = x1 at *
    generalize hx00 : digsL (pthN f k b) = x0 at *
    have HX0 := Lib.hid hx00
    clear hx00
    generalize entL oth = eo at *
    generalize entL es' = e' at *
    go_wp2_with (first | (go_at_call 90; (try clear hnew); refine (HH.out _ (HO.out _ (hst.sl 1 rfl))).mono ?_; rintro e Wh ⟨A1, n1, c1, A2, n2, c2, rfl, hx1, hx2, hnew⟩; have HX1 := Lib.hid hx1; have HX2 := Lib.hid hx2; clear hx1 hx2; replace hst := hst.keep hnew; clear hnew) | (refine L_shrN (d := some 37) rfl rfl rfl (ev_tmp rfl) (ev_tmp rfl) (by omega) ?_) | (refine L_and1 (d := some 38) rfl rfl rfl (ev_tmp rfl) ev_const hq ?_; rw [HB2.out]) | (go_at_call 85; (try clear hnew); refine (HRT.out _ _ _ _ (HT.out.of hst) (HX2.out _ (HO.out _ (hst.sl 1 rfl)))).mono ?_; rintro e Wr ⟨rfl, hnew⟩; replace hst := hst.keep hnew) | ((refine L_idxO (d := some 48) rfl rfl hst rfl (by rfl) (by rfl) Tryz.underlying44 el_api_Digest 0 rfl (by (rfl)) (by omega) (by omega) ?_; intro o48 p48 ha48; ((subst ha48)))) | (refine wpl_at (.store 32 (.tmp 48) (.tmp 47)) rfl ?_; (refine L_storeRM rfl rfl hst rfl (by rfl) (ev_tmp rfl) (by (exact Dig.one _)) el_api_Digest (by (exact Dig.size _)) 0 rfl (by (omega)) ?_; clear hst; intro WS6 hst; simp only [List.set_cons_zero, List.set_cons_succ, HSET.out] at hst)))
    go_roundg b
    case measure => exact Nat.lt_succ_self b
    case rel =>
     refine ⟨own, A1, n1, c1, Lib.hid ⟨by omega, HU.out⟩, Lib.hid (fun V hV => HX1.out V (HO.out V hV)), by go_num, rfl, ?_⟩
     rw [HX0.out]
     exact hst
end Go.Proofs.YtaebeemnipafbaaGreatDoor

set_option maxRecDepth 20000
set_option linter.unusedSimpArgs false
set_option linter.unusedVariables false
namespace Go.Proofs.YtaebeemnipafbaaGreatDoor
open Go.RowKit
theorem St.swap {w0 W : World} {X Y L : List Res} (h : St w0 W (X ++ (Y ++ L))) : St w0 W (Y ++ (X ++ L)) :=
 h.perm (by
  rw [← List.append_assoc, ← List.append_assoc]
  exact (List.perm_append_comm).append_right L)
theorem hdArr_putMap (n : Int) (x y z d : Dig) : putAt (hdArr n x y z) 33 d.arr.toList = hdArr n x d z :=
 put_part (cs := hdArr n x y z) (ds := hdArr n x d z) (.int .i64 n :: x.arr.toList) y.arr.toList d.arr.toList z.arr.toList (by rw [hdArr_list]; simp) (by rw [hdArr_list]; simp) (by rw [dig_len, dig_len]) (by simp [Dig.size])
section
variable {ops : Array Oper} {rest : List Oper} {o : Oper} {a : Act} {W : World} {Q : Exit → Act → World → Prop} {d : Option Tmp}
theorem L_buildHd (hd : o.dst = d) (hw : Region.wanted o (yielded ops a.tmps) = true) {x : Operand} (ho : o.op = .build 41 #[(0, x)]) {n : Int} (hx : a.eval x = .int .i64 n)
  (h : wpList Tryz.prog ops Q rest (a.put d (.agg (hdArr n zeroD zeroD zeroD))) W) : wpList Tryz.prog ops Q (o :: rest) a W :=
 L_buildT hd hw ho Tryz.underlying41 el_api_Head [(0, 1), (1, 32), (33, 32), (65, 32)] (by kernel_rfl) (ps := [(0, .int .i64 n)]) (by simp [hx]) (qs := [(0, [.int .i64 n])])
  ⟨rfl, rfl, by simp [hdArr_size], trivial⟩
  (put_part (cs := hdArr 0 zeroD zeroD zeroD) (ds := hdArr n zeroD zeroD zeroD) [] [.int .i64 0] [.int .i64 n] (zeroD.arr.toList ++ (zeroD.arr.toList ++ zeroD.arr.toList)) rfl rfl rfl rfl) h
end
def headR (key : List UInt8) (ns : List NoteN) : Dig := tagN key (ns.length : Int) (rootN (lvN ns)) (mapN ns)
def headA (key : List UInt8) (ns : List NoteN) : Array Value := hdArr (ns.length : Int) (rootN (lvN ns)) (mapN ns) (headR key ns)
attribute [local simp] hdArr_size
set_option maxHeartbeats 8000000 in
set_option maxRecDepth 100000 in
theorem head_any (key : List UInt8) (ns : List NoteN) (p : LgP) (w0 w : World) (L : List Res) (hT : Tb w0) (hst : St w0 w (lgL p key ns ++ L)) (hm : MapsOf ns p.nm p.am) (hl : Logged ns) (hpm : p.m ≤ 140737488355000) :
  Calls Tryz.prog 12 #[.pointer (some ⟨p.g, 0, none⟩)] w fun e w' => e = .returned (.agg (headA key ns)) ∧ St w0 w' (lgL p key ns ++ L) := by
 have HT := Lib.hid hT
 have hn := hl.len
 have HE := Lib.hid (fun (w' : World) (X : List Res) (h : St w0 w' (X ++ (lgL p key ns ++ L))) => entries_any key ns p w0 w' (X ++ L) (St.swap h) hm hl)
 have HRt := Lib.hid (fun (es : List (Nat × Dig)) (O : Option Addr) (oc : Nat) (w' : World) (ht : Tb w') (h1 : es.length ≤ 64) (h2 : ∀ e ∈ es, e.1 < 4294967296) (h3 : (es.map (·.1)).Nodup) (h4 : leafAt es = lgF ns) (h : SlR w' O es.length oc 33 (entL es)) => by
  have := tRootM_any es O es.length oc w' ht h h1 h2 h3
  rw [h4] at this
  exact this)
 have HTg := Lib.hid (show headR key ns = tagN key (ns.length : Int) (rootN (lvN ns)) (mapN ns) from rfl)
 have HMp := Lib.hid (show mRoot (lgF ns) 32 0 = mapN ns from rfl)
 rw [HMp.out] at HRt
 unfold headA
 have HP := Lib.hid (show ∀ (X : List Res) (w' : World), St w0 w' (lgL p key ns ++ (X ++ L)) → St w0 w' (X ++ (lgL p key ns ++ L)) from fun X w' h => St.swap h)
 obtain ⟨g, m, c, lc, Mn, Ma, A, O0, nm, am⟩ := p
 simp only at *
 have hst0 := hst
 simp only [lgL, List.cons_append, List.nil_append] at hst
 have HTt := Lib.hid (fun (w' : World) (x y : Dig) (ht : Tb w') (hk : SlR w' A m c 1 (bytesL key)) => tag_any key A m c (ns.length : Int) x y zeroD w' (by omega) (by omega) ht hk hpm)
 generalize headR key ns = tg at *
 generalize mapN ns = mp at *
 clear hT hm hl hst0 hpm
 go_enter Tryz.func12, Tryz.ntmps12
 go_upto_region 1 with (go_big_may; (refine L_allocA (d := some 2) rfl rfl rfl el_api_Head ?_; (try clear hnew); intro g2 W2 hnew; replace hst := hst.trans hnew; simp only [List.cons_append, List.nil_append] at hst))
 go_upto_region 2 with (go_big_may; first | (refine L_buildHd (d := some 9) rfl rfl rfl (ev_tmp rfl) ?_) | (refine L_load1 (d := some 7) rfl rfl rfl (by rfl) Tryz.underlying44 rfl (by (exact cell_of (hst.get 1 rfl) lgArr_1)) ?_) | (refine L_allocA (d := some 3) rfl rfl rfl el_api_Head ?_; (try clear hnew); intro g3 W3 hnew; replace hst := hst.trans hnew; simp only [List.cons_append, List.nil_append] at hst) | (refine wpl_at (.store 41 (.tmp 3) (.tmp 9)) rfl ?_; (refine L_storeA rfl rfl hst rfl (by rfl) (ev_tmp rfl) (by (exact hdArr_all _ _ _ _)) el_api_Head (by (rfl)) 0 rfl (by (rfl)) ?_; clear hst; intro WS7 hst; simp only [List.set_cons_zero, List.set_cons_succ, hdArr_putRoot _ _ _ _ _] at hst)))
 go_upto_region 3 with (go_big_may; first | (go_at_call 38; (try clear hnew); refine (tRoot_any (lvN ns) _ _ _ _ (HT.out.of hst) (by (exact hst.sl 4 rfl)) hn).mono ?_; rintro e Wk1 ⟨rfl, hnew⟩; replace hst := hst.keep hnew) | (refine L_load1 (d := some 14) rfl rfl rfl (by rfl) Tryz.underlying44 rfl (by (exact cell_of (hst.get 2 rfl) lgArr_1)) ?_) | (refine wpl_at (.store 32 (.tmp 18) (.tmp 16)) rfl ?_; (refine L_storeM rfl rfl hst rfl (by rfl) (ev_tmp rfl) (by (exact Dig.one _)) el_api_Digest (by (exact Dig.size _)) 0 rfl (by (exact of_decide_eq_true rfl)) ?_; clear hst; intro WS9 hst; simp only [List.set_cons_zero, List.set_cons_succ, hdArr_putRoot _ _ _ _ _] at hst)))
 go_upto_region 4 with (go_big_may; first | (go_at_call 40; refine (HE.out _ [_, _] hst).mono ?_; rintro e We ⟨es, Oe, oe, rfl, h1, h2, h3, h4, hst'⟩; clear hst; have hst := hst'; clear hst'; have H1 := Lib.hid h1; have H2 := Lib.hid h2; have H3 := Lib.hid h3; have H4 := Lib.hid h4; clear h1 h2 h3 h4; simp only [lgL, List.cons_append, List.nil_append] at hst) | (go_at_call 39; (try clear hnew); refine (HRt.out es _ _ _ (HT.out.of hst) H1.out H2.out H3.out H4.out (hst.sl 0 rfl)).mono ?_; rintro e Wk2 ⟨rfl, hnew⟩; replace hst := hst.keep hnew) | (refine wpl_at (.store 32 (.tmp 25) (.tmp 23)) rfl ?_; (refine L_storeM rfl rfl hst rfl (by rfl) (ev_tmp rfl) (by (exact Dig.one _)) el_api_Digest (by (exact Dig.size _)) 6 rfl (by (simp; done)) ?_; clear hst; intro WS7 hst; simp only [List.set_cons_zero, List.set_cons_succ, hdArr_putMap _ _ _ _ _] at hst)))
 refine wp_region_idx [(0, 0), (1, 0), (2, 0), (3, 0), (4, 2), (5, 2), (6, 2), (7, 1)] (by kernel_rfl) (by kernel_rfl) ?_
 replace hst := hst.drew
 refine idx_q rfl rfl ?_; go_wp2_with fail
 refine idx_q rfl rfl ?_; go_wp2_with fail
 refine idx_qf rfl rfl (by kernel_rfl) ?_; go_wp2_with fail
 refine idx_q rfl rfl ?_; go_wp2_with ((refine L_load1 (d := some 29) rfl rfl rfl (by rfl) Tryz.underlying22 rfl (by (exact cell_of (hst.get 1 rfl) lgArr_0)) ?_))
 refine idx_g rfl ?_; go_wp2_with (((refine L_loadA (d := some 30) rfl rfl rfl (by rfl) Tryz.underlying41 rfl el_api_Head (by (exact hst.get 6 rfl)) (by (exact hdArr_size _ _ _ _)) ?_))); refine ⟨by (exact Below.refl _ _), ?_⟩
 refine idx_g rfl ?_; go_wp2_with ((go_at_call 24; (try clear hnew); refine (HTt.out _ _ _ (HT.out.of hst) (hst.sl 2 rfl)).mono ?_; rintro e Wk3 ⟨rfl, hnew⟩; replace hst := hst.keep hnew)); refine ⟨by (exact hnew.below), ?_⟩
 refine idx_g rfl ?_; go_wp2_with fail; refine ⟨by (exact Below.refl _ _), ?_⟩
 refine idx_e rfl ?_; go_wp2_with ((refine wpl_at (.store 32 (.tmp 32) (.tmp 31)) rfl ?_; (refine L_storeM rfl rfl hst rfl (by rfl) (ev_tmp rfl) (by (exact Dig.one _)) el_api_Digest (by (rfl)) 6 rfl (by (simp; done)) ?_; clear hst; intro WS7 hst; simp only [List.set_cons_zero, List.set_cons_succ, hdArr_putTag _ _ _ _ _] at hst)))
 refine idx_nil ?_
 go_wp2_with (first | ((refine L_loadA (d := some 33) rfl rfl rfl (by rfl) Tryz.underlying41 rfl el_api_Head (by (exact hst.get 6 rfl)) (by (exact hdArr_size _ _ _ _)) ?_)) | (refine wpl_at (.store 41 (.tmp 2) (.tmp 33)) rfl ?_; (refine L_storeA rfl rfl hst rfl (by rfl) (ev_tmp rfl) (by (exact hdArr_all _ _ _ _)) el_api_Head (by (exact hdArr_size _ _ _ _)) 7 rfl (by (rfl)) ?_; clear hst; intro WS1 hst; simp only [List.set_cons_zero, List.set_cons_succ] at hst)))
 refine bp_cell rfl rfl rfl (hst.get 7 rfl) Tryz.underlying41 rfl el_api_Head (by (simp; done)) ?_
 rw [HTg.out]
 simp only [lgL, List.cons_append, List.nil_append]
 exact ⟨trivial, hst.drop (.cons _ (.cons_cons _ (.cons_cons _ (.cons_cons _ (.cons_cons _ (.cons_cons _ (.cons _ (.cons _ (List.Sublist.refl L)))))))))⟩
def sinceA (ns : List NoteN) (m : Int) : Option (List Dig) := if 256 < ns.length then none else if m < 1 ∨ (ns.length : Int) < m then none else some (gpN (lvN ns) m.toNat true)
theorem since_any (key : List UInt8) (ns : List NoteN) (p : LgP) (m : Int) (w0 w : World) (L : List Res) (hT : Tb w0) (hst : St w0 w (lgL p key ns ++ L)) (hl : Logged ns) (h1 : 1 ≤ m) (h2 : m ≤ (ns.length : Int)) :
  Calls Tryz.prog 19 #[.pointer (some ⟨p.g, 0, none⟩), .int .i64 m] w fun e w' => ∃ O oc, e = .returned (.tuple #[.slice O (plN ns.length m.toNat true) oc, .nilIface]) ∧
   St w0 w' (.row O (plN ns.length m.toNat true) oc 32 32 (digsL (gpN (lvN ns) m.toNat true)) :: (lgL p key ns ++ L)) := by
 have hn := hl.len
 obtain ⟨k, rfl⟩ := Int.eq_ofNat_of_zero_le (show 0 ≤ m by omega)
 rw [Int.toNat_natCast]
 obtain ⟨g, mm, c, lc, Mn, Ma, A, O0, nm, am⟩ := p
 have hst0 := hst
 simp only [lgL, List.cons_append, List.nil_append] at hst
 have HP := Lib.hid (gProof_any (lvN ns) O0 ns.length lc k w (hT.of hst) (hst.sl 2 rfl) (by omega) (by omega) hn)
 go_enter Tryz.func19, Tryz.ntmps19
 go_wp2_with (first | (go_at_call 51; refine HP.out.mono ?_; rintro e W21 ⟨O, oc, rfl, hnew⟩; replace hst := hst0.trans hnew) | (refine L_load1 (d := some 9) rfl rfl rfl (by rfl) Tryz.underlying44 rfl (by (exact cell_of (hst.get 0 rfl) lgArr_1)) ?_))
 exact bp_two rfl rfl rfl rfl ⟨_, _, rfl, hst⟩
theorem since_no (key : List UInt8) (ns : List NoteN) (p : LgP) (m : Int) (w0 w : World) (L : List Res) (hst : St w0 w (lgL p key ns ++ L)) (hl : Logged ns) (hi : m < 1 ∨ (ns.length : Int) < m) :
  Calls Tryz.prog 19 #[.pointer (some ⟨p.g, 0, none⟩), .int .i64 m] w fun e w' => e = .returned (.tuple #[.slice none 0 0, errV 2]) ∧ St w0 w' (lgL p key ns ++ L) := by
 have hn := hl.len
 obtain ⟨g, mm, c, lc, Mn, Ma, A, O0, nm, am⟩ := p
 have hst0 := hst
 simp only [lgL, List.cons_append, List.nil_append] at hst
 have HP := Lib.hid (gProof_range O0 ns.length lc m w hn hi)
 go_enter Tryz.func19, Tryz.ntmps19
 go_wp2_with (first | (go_at_call 51; refine HP.out.mono ?_; rintro e W21 ⟨rfl, hnew⟩; replace hst := hst0.keep hnew) | (refine L_load1 (d := some 9) rfl rfl rfl (by rfl) Tryz.underlying44 rfl (by (exact cell_of (hst.get 0 rfl) lgArr_1)) ?_))
 exact bp_two rfl rfl rfl rfl ⟨rfl, hst⟩
end Go.Proofs.YtaebeemnipafbaaGreatDoor

set_option maxRecDepth 20000
set_option linter.unusedSimpArgs false
set_option linter.unusedVariables false
namespace Go.Proofs.YtaebeemnipafbaaGreatDoor
open Go.RowKit
theorem find_no (key : List UInt8) (ns : List NoteN) (s : List UInt8) (p : LgP) (w0 w : World) (L : List Res) (hst : St w0 w (lgL p key ns ++ L)) (hs : isNm s = false) :
  Calls Tryz.prog 15 #[.pointer (some ⟨p.g, 0, none⟩), .string (bsOf s)] w fun e w' => e = .returned (.tuple #[.agg (fdArr [] zeroD 0 0 none 0 0 none 0 0), errV 1]) ∧ St w0 w' (lgL p key ns ++ L) := by
 have HN := Lib.hid (fun w => by have := named_any s w; rw [hs] at this; exact this)
 generalize lgL p key ns ++ L = L0 at *
 clear hs
 go_enter Tryz.func15, Tryz.ntmps15
 go_upto_region 1 with (go_big_may; (refine L_allocA (d := some 4) rfl rfl rfl el_api_Found ?_; (try clear hnew); intro g4 W4 hnew; replace hst := hst.trans hnew; simp only [List.cons_append, List.nil_append] at hst))
 go_upto_region 2 with (go_big_may; (go_at_call 34; (try clear hnew); refine (HN.out _).mono ?_; rintro e Wk1 ⟨rfl, hnew⟩; replace hst := hst.keep hnew))
 go_wp2_with (first | (refine L_buildFz (d := some 12) rfl rfl rfl ?_) | (refine wpl_at (.store 46 (.tmp 4) (.tmp 12)) rfl ?_; (refine L_storeA rfl rfl hst rfl (by rfl) (ev_tmp rfl) (by (exact fdArr_all _ _ _ _ _ _ _ _ _ _)) el_api_Found (by (rfl)) 0 rfl (by (rfl)) ?_; clear hst; intro WS2 hst; simp only [List.set_cons_zero, List.set_cons_succ] at hst)))
 refine bp_cell_tmp rfl rfl rfl rfl (hst.get 0 rfl) Tryz.underlying46 rfl el_api_Found (by (rfl)) ?_
 exact ⟨rfl, hst.tail⟩
def FindEnd (key : List UInt8) (ns : List NoteN) (s : List UInt8) (p : LgP) (w0 : World) (L : List Res) : Ending → World → Prop := fun e w' =>
 ∃ A c B q, e = .returned (.tuple #[.agg (fdArr (findN ns s).note.name (findN ns s).note.key (findN ns s).note.turn (findN ns s).at_ A (findN ns s).path.length c B (findN ns s).mpath.length q), .nilIface]) ∧
  St w0 w' (.row A (findN ns s).path.length c 32 32 (digsL (findN ns s).path) :: .row B (findN ns s).mpath.length q 32 32 (digsL (findN ns s).mpath) :: (lgL p key ns ++ L))
set_option maxHeartbeats 8000000 in
set_option maxRecDepth 100000 in
theorem find_none (key : List UInt8) (ns : List NoteN) (s : List UInt8) (p : LgP) (w0 w : World) (L : List Res) (hT : Tb w0) (hst : St w0 w (lgL p key ns ++ L)) (hm : MapsOf ns p.nm p.am) (hl : Logged ns) (hs : isNm s = true) (hi : lastI ns s = none) :
  Calls Tryz.prog 15 #[.pointer (some ⟨p.g, 0, none⟩), .string (bsOf s)] w (FindEnd key ns s p w0 L) := by
 have HT := Lib.hid hT
 have HF := Lib.hid (show findN ns s = ⟨zeroNt, 0, [], mPath (lgF ns) (idxN s) 32⟩ by unfold findN; rw [if_pos hs, hi])
 have HN := Lib.hid (fun w => by have := named_any s w; rw [hs] at this; exact this)
 have HI := Lib.hid (fun (w' : World) (h : Tb w') => index_any s w' h (by have := isNm_len hs; omega))
 have HE := Lib.hid (fun (w' : World) (X : List Res) (h : St w0 w' (X ++ (lgL p key ns ++ L))) => entries_any key ns p w0 w' (X ++ L) (St.swap h) hm hl)
 have HPt := Lib.hid (fun (es : List (Nat × Dig)) (O : Option Addr) (oc : Nat) (w' : World) (ht : Tb w') (h1 : es.length ≤ 64) (h2 : ∀ e ∈ es, e.1 < 4294967296) (h3 : (es.map (·.1)).Nodup) (h4 : leafAt es = lgF ns) (h : SlR w' O es.length oc 33 (entL es)) => by
  have := tPathM_any es O es.length oc (idxN s) w' ht h h1 h2 h3 (idxN_lt s)
  rw [h4] at this
  exact this)
 have HO := Lib.hid hm.ksO
 have HD := Lib.hid hm.nd
 have HS := Lib.hid (sV_ok hs)
 have HL := Lib.hid (show lookA s p.nm = none by rw [hm.look, atName, hi]; rfl)
 have HML := Lib.hid (length_mPath (lgF ns) (idxN s) 32)
 unfold FindEnd
 rw [HF.out]
 simp only [HML.out, List.length_nil]
 generalize mPath (lgF ns) (idxN s) 32 = mp at *
 generalize idxN s = ix at *
 obtain ⟨g, m, c, lc, Mn, Ma, A, O0, nm, am⟩ := p
 simp only at *
 have hst0 := hst
 simp only [lgL, List.cons_append, List.nil_append] at hst
 clear hT hm hl hst0 hs hi
 go_enter Tryz.func15, Tryz.ntmps15
 go_upto_region 1 with (go_big_may; (refine L_allocA (d := some 4) rfl rfl rfl el_api_Found ?_; (try clear hnew); intro g4 W4 hnew; replace hst := hst.trans hnew; simp only [List.cons_append, List.nil_append] at hst))
 go_upto_region 3 with (go_big_may; (go_at_call 34; (try clear hnew); refine (HN.out _).mono ?_; rintro e Wk2 ⟨rfl, hnew⟩; replace hst := hst.keep hnew))
 go_upto_region 4 with (go_big_may; (refine L_allocA (d := some 6) rfl rfl rfl el_api_Found ?_; (try clear hnew); intro g6 W6 hnew; replace hst := hst.trans hnew; simp only [List.cons_append, List.nil_append] at hst))
 go_upto_region 5 with (go_big_may; first | (go_at_call 35; (try clear hnew); refine (HI.out _ (HT.out.of hst)).mono ?_; rintro e Wk3 ⟨rfl, hnew⟩; replace hst := hst.keep hnew) | (go_at_call 40; refine (HE.out _ [_, _] hst).mono ?_; rintro e We ⟨es, Oe, oe, rfl, h1, h2, h3, h4, hst'⟩; clear hst; have hst := hst'; clear hst'; have H1 := Lib.hid h1; have H2 := Lib.hid h2; have H3 := Lib.hid h3; have H4 := Lib.hid h4; clear h1 h2 h3 h4; simp only [lgL, List.cons_append, List.nil_append] at hst) | (go_at_call 46; (try clear hnew); refine (HPt.out es _ _ _ (HT.out.of hst) H1.out H2.out H3.out H4.out (hst.sl 0 rfl)).mono ?_; rintro e Wp ⟨Op, op, rfl, hnew⟩; replace hst := hst.trans hnew; clear hnew; simp only [List.cons_append, List.nil_append] at hst) | (refine wpl_at (.store 44 (.tmp 22) (.tmp 20)) rfl ?_; (refine L_store1 rfl rfl hst rfl (by rfl) (ev_tmp rfl) rfl el_S_api_Digest 7 rfl (by (exact of_decide_eq_true rfl)) ?_; clear hst; intro WS9 hst; simp only [List.set_cons_zero, List.set_cons_succ, fdArr_put36 _ _ _] at hst)))
 go_upto_region 6 with (go_big_may; first | (refine L_look2n (fk := sV) (fv := lsV) (y := s) (l := nm) (d := some 29) rfl rfl rfl keyed_str Tryz.underlying77 el_log_last (ev_tmp rfl) (ev_tmp rfl) sV_inj HO.out HD.out HS.out (hst.obj 5 rfl) HL.out ?_) | (refine L_load1 (d := some 27) rfl rfl rfl (by rfl) Tryz.underlying77 rfl (by (exact cell_of (hst.get 2 rfl) lgArr_2)) ?_) | (refine L_allocA (d := some 7) rfl rfl rfl el_log_last ?_; (try clear hnew); intro g7 W7 hnew; replace hst := hst.trans hnew; simp only [List.cons_append, List.nil_append] at hst) | (refine wpl_at (.store 85 (.tmp 7) (.tmp 30)) rfl ?_; (refine L_storeA rfl rfl hst rfl (by rfl) (ev_tmp rfl) (by (exact lsArr_all _ _ _ _ _)) el_log_last (by (rfl)) 0 rfl (by (rfl)) ?_; clear hst; intro WS10 hst; simp only [List.set_cons_zero, List.set_cons_succ] at hst)))
 go_upto_region 9 with (go_big_may; fail)
 go_wp2_with (first | ((refine L_loadA (d := some 50) rfl rfl rfl (by rfl) Tryz.underlying46 rfl el_api_Found (by (exact hst.get 8 rfl)) (by (exact fdArr_size _ _ _ _ _ _ _ _ _ _)) ?_)) | (refine wpl_at (.store 46 (.tmp 4) (.tmp 50)) rfl ?_; (refine L_storeA rfl rfl hst rfl (by rfl) (ev_tmp rfl) (by (exact fdArr_all _ _ _ _ _ _ _ _ _ _)) el_api_Found (by (rfl)) 9 rfl (by (rfl)) ?_; clear hst; intro WS1 hst; simp only [List.set_cons_zero, List.set_cons_succ] at hst)))
 refine bp_cell_tmp rfl rfl rfl rfl (hst.get 9 rfl) Tryz.underlying46 rfl el_api_Found (by (rfl)) ?_
 refine ⟨none, 0, Op, op, rfl, ?_⟩
 simp only [lgL, List.cons_append, List.nil_append]
 exact (hst.drop (.cons _ (.cons_cons _ (.cons _ (.cons_cons _ (.cons_cons _ (.cons_cons _ (.cons_cons _ (.cons_cons _ (.cons _ (.cons _ (List.Sublist.refl L))))))))))) : St w0 _ (_ :: (_ :: _ :: _ :: _ :: _ :: L))).nilRow 32 32
set_option maxHeartbeats 8000000 in
set_option maxRecDepth 100000 in
theorem find_has (key : List UInt8) (ns : List NoteN) (s : List UInt8) (p : LgP) (w0 w : World) (L : List Res) (hT : Tb w0) (hst : St w0 w (lgL p key ns ++ L)) (hm : MapsOf ns p.nm p.am) (hl : Logged ns) (hs : isNm s = true) (i : Nat) (hi : lastI ns s = some i) :
  Calls Tryz.prog 15 #[.pointer (some ⟨p.g, 0, none⟩), .string (bsOf s)] w (FindEnd key ns s p w0 L) := by
 have HT := Lib.hid hT
 obtain ⟨nt, h1, h2⟩ := lastI_some hi
 have hn := hl.len
 have hin := lastI_lt hi
 have hpl : (pathN (lvN ns) i).length = longN i ns.length := length_pathN _ _ _ (length_lvN ns)
 have HTP := Lib.hid (fun (w' : World) (O : Option Addr) (c : Nat) (ht : Tb w') (hx : SlR w' O ns.length c 32 (digsL (lvN ns))) => by
  have := tPath_any (lvN ns) O ns.length c i w' ht hx hn hin
  rw [← hpl] at this
  exact this)
 have HF := Lib.hid (show findN ns s = ⟨nt, (i : Int), pathN (lvN ns) i, mPath (lgF ns) (idxN s) 32⟩ by unfold findN; rw [if_pos hs, hi]; simp only [h1, Option.getD_some])
 have HN := Lib.hid (fun w => by have := named_any s w; rw [hs] at this; exact this)
 have HI := Lib.hid (fun (w' : World) (h : Tb w') => index_any s w' h (by have := isNm_len hs; omega))
 have HE := Lib.hid (fun (w' : World) (X : List Res) (h : St w0 w' (X ++ (lgL p key ns ++ L))) => entries_any key ns p w0 w' (X ++ L) (St.swap h) hm hl)
 have HPt := Lib.hid (fun (es : List (Nat × Dig)) (O : Option Addr) (oc : Nat) (w' : World) (ht : Tb w') (h1 : es.length ≤ 64) (h2 : ∀ e ∈ es, e.1 < 4294967296) (h3 : (es.map (·.1)).Nodup) (h4 : leafAt es = lgF ns) (h : SlR w' O es.length oc 33 (entL es)) => by
  have := tPathM_any es O es.length oc (idxN s) w' ht h h1 h2 h3 (idxN_lt s)
  rw [h4] at this
  exact this)
 have HO := Lib.hid hm.ksO
 have HD := Lib.hid hm.nd
 have HS := Lib.hid (sV_ok hs)
 have HL := Lib.hid (show lookA s p.nm = some (nt, i, ntLeaf nt) by rw [hm.look, atName, hi]; simp only [Option.bind_some, h1, Option.map_some])
 have HML := Lib.hid (length_mPath (lgF ns) (idxN s) 32)
 unfold FindEnd
 rw [HF.out]
 simp only [HML.out]
 generalize mPath (lgF ns) (idxN s) 32 = mp at *
 generalize idxN s = ix at *
 generalize pathN (lvN ns) i = tp at *
 generalize ntLeaf nt = df at *
 obtain ⟨a1, a2, a3⟩ := nt
 obtain ⟨g, m, c, lc, Mn, Ma, A, O0, nm, am⟩ := p
 simp only at *
 have hst0 := hst
 simp only [lgL, List.cons_append, List.nil_append] at hst
 clear hT hm hl hst0 hs hi h1 h2 hin hpl hn
 go_enter Tryz.func15, Tryz.ntmps15
 go_upto_region 1 with (go_big_may; (refine L_allocA (d := some 4) rfl rfl rfl el_api_Found ?_; (try clear hnew); intro g4 W4 hnew; replace hst := hst.trans hnew; simp only [List.cons_append, List.nil_append] at hst))
 go_upto_region 3 with (go_big_may; (go_at_call 34; (try clear hnew); refine (HN.out _).mono ?_; rintro e Wk4 ⟨rfl, hnew⟩; replace hst := hst.keep hnew))
 go_upto_region 4 with (go_big_may; (refine L_allocA (d := some 6) rfl rfl rfl el_api_Found ?_; (try clear hnew); intro g6 W6 hnew; replace hst := hst.trans hnew; simp only [List.cons_append, List.nil_append] at hst))
 go_upto_region 5 with (go_big_may; first | (go_at_call 35; (try clear hnew); refine (HI.out _ (HT.out.of hst)).mono ?_; rintro e Wk5 ⟨rfl, hnew⟩; replace hst := hst.keep hnew) | (go_at_call 40; refine (HE.out _ [_, _] hst).mono ?_; rintro e We ⟨es, Oe, oe, rfl, h1, h2, h3, h4, hst'⟩; clear hst; have hst := hst'; clear hst'; have H1 := Lib.hid h1; have H2 := Lib.hid h2; have H3 := Lib.hid h3; have H4 := Lib.hid h4; clear h1 h2 h3 h4; simp only [lgL, List.cons_append, List.nil_append] at hst) | (go_at_call 46; (try clear hnew); refine (HPt.out es _ _ _ (HT.out.of hst) H1.out H2.out H3.out H4.out (hst.sl 0 rfl)).mono ?_; rintro e Wp ⟨Op, op, rfl, hnew⟩; replace hst := hst.trans hnew; clear hnew; simp only [List.cons_append, List.nil_append] at hst) | (refine wpl_at (.store 44 (.tmp 22) (.tmp 20)) rfl ?_; (refine L_store1 rfl rfl hst rfl (by rfl) (ev_tmp rfl) rfl el_S_api_Digest 7 rfl (by (exact of_decide_eq_true rfl)) ?_; clear hst; intro WS9 hst; simp only [List.set_cons_zero, List.set_cons_succ, fdArr_put36 _ _ _] at hst)))
 go_upto_region 6 with (go_big_may; first | (refine L_look2s (fk := sV) (fv := lsV) (y := s) (l := nm) (d := some 29) rfl rfl rfl keyed_str Tryz.underlying77 el_log_last (ev_tmp rfl) (ev_tmp rfl) sV_inj HO.out HD.out HS.out (hst.obj 5 rfl) HL.out ?_) | (refine L_load1 (d := some 27) rfl rfl rfl (by rfl) Tryz.underlying77 rfl (by (exact cell_of (hst.get 2 rfl) lgArr_2)) ?_) | (refine L_allocA (d := some 7) rfl rfl rfl el_log_last ?_; (try clear hnew); intro g7 W7 hnew; replace hst := hst.trans hnew; simp only [List.cons_append, List.nil_append] at hst) | (refine wpl_at (.store 85 (.tmp 7) (.tmp 30)) rfl ?_; (refine L_storeA rfl rfl hst rfl (by rfl) (ev_tmp rfl) (by (exact lsArr_all _ _ _ _ _)) el_log_last (by (exact lsArr_size _ _ _ _ _)) 0 rfl (by (rfl)) ?_; clear hst; intro WS10 hst; simp only [List.set_cons_zero, List.set_cons_succ] at hst)))
 go_upto_region 7 with (go_big_may; fail)
 clear hnew
 refine wp_region_pm (.one 0 3 (.one 2 3 (.one 1 0 (.one 4 3 (.two 3 2 (.one 5 1 (.one 6 2 (.one 7 1 .nil))) 5 1 (.one 3 2 (.one 6 2 (.one 7 1 .nil)))))))) (by kernel_rfl) (by kernel_rfl) ?_
 replace hst := hst.drew
 refine pm_pv rfl (pureV_fieldAddr rfl (by rfl) Tryz.underlying85 rfl (by kernel_rfl)) ?_; go_wp2_with fail
 refine pm_pv rfl (pureV_fieldAddr rfl (by rfl) Tryz.underlying85 rfl (by kernel_rfl)) ?_; go_wp2_with fail
 refine pm_q rfl rfl ?_; go_wp2_with (((refine L_loadM (d := some 34) rfl rfl rfl (by rfl) Tryz.underlying34 rfl el_api_Note (by (exact lsArr_note (hst.get 0 rfl))) (by (exact ntArr_size _ _ _)) ?_)))
 refine pm_pv rfl (pureV_fieldAddr rfl (by rfl) Tryz.underlying46 rfl (by kernel_rfl)) ?_; go_wp2_with fail
 refine pm_two (ki := 2) (kj := 1) rfl rfl ?_ ?_
 ·go_wp2_with ((refine L_load1 (d := some 36) rfl rfl rfl (by rfl) Tryz.underlying3 rfl (by (exact cell_of (hst.get 0 rfl) lsArr_34)) ?_)); refine ⟨fun _ => (by (exact Below.refl _ _)), ?_⟩
  refine pm_e rfl ?_; go_wp2_with ((refine wpl_at (.store 34 (.tmp 37) (.tmp 34)) rfl ?_; (refine L_storeM rfl rfl hst rfl (by rfl) (ev_tmp rfl) (by (exact ntArr_all _ _ _)) el_api_Note (by (exact ntArr_size _ _ _)) 8 rfl (by (exact of_decide_eq_true rfl)) ?_; clear hst; intro WS5 hst; simp only [List.set_cons_zero, List.set_cons_succ, fdArr_put34 _, fdArr_putNote _ _ _] at hst)))
  refine pm_g rfl ?_; go_wp2_with fail; refine ⟨by (exact Below.refl _ _), ?_⟩
  refine pm_e rfl ?_; go_wp2_with ((refine wpl_at (.store 3 (.tmp 38) (.tmp 36)) rfl ?_; (refine L_store1 rfl rfl hst rfl (by rfl) (ev_tmp rfl) rfl el_int 8 rfl (by (rw [fdArr_size _ _ _ _ _ _ _ _ _ _]; decide)) ?_; clear hst; intro WS7 hst; simp only [List.set_cons_zero, List.set_cons_succ, fdArr_put34 _, fdArr_putNote _ _ _] at hst)))
  refine pm_nil ?_
  go_upto_region 8 with fail
  refine wp_region_pm (.one 0 3 (.one 4 3 (.one 1 0 (.one 2 3 (.one 3 0 (.one 5 2 (.one 6 2 (.one 7 2 (.one 8 3 (.one 9 3 (.one 10 2 (.one 11 1 .nil)))))))))))) (by kernel_rfl) (by kernel_rfl) ?_
  replace hst := hst.drew
  refine pm_p rfl rfl ?_; go_wp2_with fail
  refine pm_pv rfl (pureV_fieldAddr rfl (by rfl) Tryz.underlying85 rfl (by kernel_rfl)) ?_; go_wp2_with fail
  refine pm_q rfl rfl ?_; go_wp2_with fail
  refine pm_pv rfl (pureV_fieldAddr rfl (by rfl) Tryz.underlying80 rfl (by kernel_rfl)) ?_; go_wp2_with fail
  refine pm_q rfl rfl ?_; go_wp2_with ((refine L_load1 (d := some 43) rfl rfl rfl (by rfl) Tryz.underlying44 rfl (by (exact cell_of (hst.get 3 rfl) lgArr_1)) ?_))
  refine pm_g rfl ?_; go_wp2_with ((refine L_load1 (d := some 45) rfl rfl rfl (by rfl) Tryz.underlying3 rfl (by (exact cell_of (hst.get 0 rfl) lsArr_34)) ?_)); refine ⟨by (exact Below.refl _ _), ?_⟩
  refine pm_g rfl ?_; go_wp2_with ((go_at_call 47; (try clear hnew); refine (HTP.out _ _ _ (HT.out.of hst) (hst.sl 5 rfl)).mono ?_; rintro e Wq ⟨Oq, oq, rfl, hnew⟩; replace hst := hst.trans hnew; simp only [List.cons_append, List.nil_append] at hst)); refine ⟨by (exact hnew.below), ?_⟩
  refine pm_g rfl ?_; go_wp2_with fail; refine ⟨by (exact Below.refl _ _), ?_⟩
  refine pm_p rfl rfl ?_; go_wp2_with fail
  refine pm_p rfl rfl ?_; go_wp2_with fail
  refine pm_g rfl ?_; go_wp2_with fail; refine ⟨by (exact Below.refl _ _), ?_⟩
  refine pm_e rfl ?_; go_wp2_with ((refine wpl_at (.store 44 (.tmp 49) (.tmp 47)) rfl ?_; (refine L_store1 rfl rfl hst rfl (by rfl) (ev_tmp rfl) rfl el_S_api_Digest 9 rfl (by (rw [fdArr_size _ _ _ _ _ _ _ _ _ _]; decide)) ?_; clear hst; intro WS11 hst; simp only [List.set_cons_zero, List.set_cons_succ, fdArr_put35 _ _ _] at hst)))
  refine pm_nil ?_
  go_wp2_with (first | ((refine L_loadA (d := some 50) rfl rfl rfl (by rfl) Tryz.underlying46 rfl el_api_Found (by (exact hst.get 9 rfl)) (by (exact fdArr_size _ _ _ _ _ _ _ _ _ _)) ?_)) | (refine wpl_at (.store 46 (.tmp 4) (.tmp 50)) rfl ?_; (refine L_storeA rfl rfl hst rfl (by rfl) (ev_tmp rfl) (by (exact fdArr_all _ _ _ _ _ _ _ _ _ _)) el_api_Found (by (exact fdArr_size _ _ _ _ _ _ _ _ _ _)) 10 rfl (by (rfl)) ?_; clear hst; intro WS1 hst; simp only [List.set_cons_zero, List.set_cons_succ] at hst)))
  refine bp_cell_tmp rfl rfl rfl rfl (hst.get 10 rfl) Tryz.underlying46 rfl el_api_Found (fdArr_size _ _ _ _ _ _ _ _ _ _) ?_
  refine ⟨Oq, oq, Op, op, rfl, ?_⟩
  simp only [lgL, List.cons_append, List.nil_append]
  exact hst.drop (.cons_cons _ (.cons _ (.cons_cons _ (.cons _ (.cons_cons _ (.cons_cons _ (.cons_cons _ (.cons_cons _ (.cons_cons _ (.cons _ (.cons _ (List.Sublist.refl L))))))))))))
 ·go_wp2_with ((refine wpl_at (.store 34 (.tmp 37) (.tmp 34)) rfl ?_; (refine L_storeM rfl rfl hst rfl (by rfl) (ev_tmp rfl) (by (exact ntArr_all _ _ _)) el_api_Note (by (exact ntArr_size _ _ _)) 8 rfl (by (exact of_decide_eq_true rfl)) ?_; clear hst; intro WS5 hst; simp only [List.set_cons_zero, List.set_cons_succ, fdArr_put34 _, fdArr_putNote _ _ _] at hst))); refine ⟨fun h => absurd h (by decide), ?_⟩
  refine pm_g rfl ?_; go_wp2_with ((refine L_load1 (d := some 36) rfl rfl rfl (by rfl) Tryz.underlying3 rfl (by (exact cell_of (hst.get 0 rfl) lsArr_34)) ?_)); refine ⟨by (exact Below.refl _ _), ?_⟩
  refine pm_g rfl ?_; go_wp2_with fail; refine ⟨by (exact Below.refl _ _), ?_⟩
  refine pm_e rfl ?_; go_wp2_with ((refine wpl_at (.store 3 (.tmp 38) (.tmp 36)) rfl ?_; (refine L_store1 rfl rfl hst rfl (by rfl) (ev_tmp rfl) rfl el_int 8 rfl (by (rw [fdArr_size _ _ _ _ _ _ _ _ _ _]; decide)) ?_; clear hst; intro WS7 hst; simp only [List.set_cons_zero, List.set_cons_succ, fdArr_put34 _, fdArr_putNote _ _ _] at hst)))
  refine pm_nil ?_
  go_upto_region 8 with fail
  refine wp_region_pm (.one 0 3 (.one 4 3 (.one 1 0 (.one 2 3 (.one 3 0 (.one 5 2 (.one 6 2 (.one 7 2 (.one 8 3 (.one 9 3 (.one 10 2 (.one 11 1 .nil)))))))))))) (by kernel_rfl) (by kernel_rfl) ?_
  replace hst := hst.drew
  refine pm_p rfl rfl ?_; go_wp2_with fail
  refine pm_pv rfl (pureV_fieldAddr rfl (by rfl) Tryz.underlying85 rfl (by kernel_rfl)) ?_; go_wp2_with fail
  refine pm_q rfl rfl ?_; go_wp2_with fail
  refine pm_pv rfl (pureV_fieldAddr rfl (by rfl) Tryz.underlying80 rfl (by kernel_rfl)) ?_; go_wp2_with fail
  refine pm_q rfl rfl ?_; go_wp2_with ((refine L_load1 (d := some 43) rfl rfl rfl (by rfl) Tryz.underlying44 rfl (by (exact cell_of (hst.get 3 rfl) lgArr_1)) ?_))
  refine pm_g rfl ?_; go_wp2_with ((refine L_load1 (d := some 45) rfl rfl rfl (by rfl) Tryz.underlying3 rfl (by (exact cell_of (hst.get 0 rfl) lsArr_34)) ?_)); refine ⟨by (exact Below.refl _ _), ?_⟩
  refine pm_g rfl ?_; go_wp2_with ((go_at_call 47; (try clear hnew); refine (HTP.out _ _ _ (HT.out.of hst) (hst.sl 5 rfl)).mono ?_; rintro e Wq ⟨Oq, oq, rfl, hnew⟩; replace hst := hst.trans hnew; simp only [List.cons_append, List.nil_append] at hst)); refine ⟨by (exact hnew.below), ?_⟩
  refine pm_g rfl ?_; go_wp2_with fail; refine ⟨by (exact Below.refl _ _), ?_⟩
  refine pm_p rfl rfl ?_; go_wp2_with fail
  refine pm_p rfl rfl ?_; go_wp2_with fail
  refine pm_g rfl ?_; go_wp2_with fail; refine ⟨by (exact Below.refl _ _), ?_⟩
  refine pm_e rfl ?_; go_wp2_with ((refine wpl_at (.store 44 (.tmp 49) (.tmp 47)) rfl ?_; (refine L_store1 rfl rfl hst rfl (by rfl) (ev_tmp rfl) rfl el_S_api_Digest 9 rfl (by (rw [fdArr_size _ _ _ _ _ _ _ _ _ _]; decide)) ?_; clear hst; intro WS11 hst; simp only [List.set_cons_zero, List.set_cons_succ, fdArr_put35 _ _ _] at hst)))
  refine pm_nil ?_
  go_wp2_with (first | ((refine L_loadA (d := some 50) rfl rfl rfl (by rfl) Tryz.underlying46 rfl el_api_Found (by (exact hst.get 9 rfl)) (by (exact fdArr_size _ _ _ _ _ _ _ _ _ _)) ?_)) | (refine wpl_at (.store 46 (.tmp 4) (.tmp 50)) rfl ?_; (refine L_storeA rfl rfl hst rfl (by rfl) (ev_tmp rfl) (by (exact fdArr_all _ _ _ _ _ _ _ _ _ _)) el_api_Found (by (exact fdArr_size _ _ _ _ _ _ _ _ _ _)) 10 rfl (by (rfl)) ?_; clear hst; intro WS1 hst; simp only [List.set_cons_zero, List.set_cons_succ] at hst)))
  refine bp_cell_tmp rfl rfl rfl rfl (hst.get 10 rfl) Tryz.underlying46 rfl el_api_Found (fdArr_size _ _ _ _ _ _ _ _ _ _) ?_
  refine ⟨Oq, oq, Op, op, rfl, ?_⟩
  simp only [lgL, List.cons_append, List.nil_append]
  exact hst.drop (.cons_cons _ (.cons _ (.cons_cons _ (.cons _ (.cons_cons _ (.cons_cons _ (.cons_cons _ (.cons_cons _ (.cons_cons _ (.cons _ (.cons _ (List.Sublist.refl L))))))))))))
end Go.Proofs.YtaebeemnipafbaaGreatDoor

set_option maxRecDepth 20000
set_option linter.unusedSimpArgs false
set_option linter.unusedVariables false
namespace Go.Proofs.YtaebeemnipafbaaGreatDoor
open Go.RowKit
def fiveD : Dig := ⟨5 :: List.replicate 31 0, by simp⟩
section
variable {P : Program} {ops : Array Oper} {rest : List Oper} {o : Oper} {a : Act} {W : World} {Q : Exit → Act → World → Prop} {d : Option Tmp}
theorem L_build5 (hd : o.dst = d) (hw : Region.wanted o (yielded ops a.tmps) = true) {T : TypeId} {x : Operand} (ho : o.op = .build T #[(0, x)]) {e : TypeId} {z : Value} {b bb : Nat} (hu : P.underlying T = some (.array 32 e)) (he : ElemIs P e z 1 b) (hz : ElemIs P T zeroD.v 32 bb) (hx : a.eval x = .int .u8 5) {q : Dig} (hq : q = fiveD)
  (h : wpList P ops Q rest (a.put d (.agg q.arr)) W) : wpList P ops Q (o :: rest) a W := by
 subst hq
 refine L_val hd hw ?_ h
 have hf : Instr.fill (fun i => some (i * 1, 1)) zeroD.arr [(0, .int .u8 5)] = some fiveD.arr := by rfl
 unfold execOp
 simp only [ho]
 simp [Instr.build, hz.run_zero, run_underlying hu, he.run_size, Value.cells, Dig.v, hx]
 simp only [Nat.mul_one] at hf
 rw [hf]
 rfl
end
theorem added_notes : addL [] [97] fiveD = [⟨[97], fiveD, 0⟩] := by rfl
theorem added_no : addE [] [97] = 0 := by rfl
set_option maxHeartbeats 4000000 in
set_option maxRecDepth 100000 in
theorem added_any (w : World) (hT : Tb w) : Calls Tryz.prog 23 #[] w fun e w' => e = .returned (.bool true) ∧ St w w' [] := by
 have hst := St.refl w
 have HT := Lib.hid hT
 obtain ⟨fv, hfv⟩ : ∃ fv, fv = fiveD := ⟨_, rfl⟩
 have added_notes := added_notes
 rw [← hfv] at added_notes
 have HG := Lib.hid (fun w' => lnew_any [] none 0 0 w' (SlR.nil_ w' 1) (by decide))
 have HA := Lib.hid (fun (p : LgP) (w' : World) (L : List Res) h hm => addU_any [] [] [97] fv p w w' L hT h hm .nil)
 simp only [added_no, if_true, List.length_nil] at HA
 have hlg := Logged.nil.addL [97] fv
 obtain ⟨P1, P2, hfn⟩ : ∃ P1 P2, findN [⟨[97], fv, 0⟩] [97] = ⟨⟨[97], fv, 0⟩, 0, P1, P2⟩ := ⟨_, _, rfl⟩
 have hli : lastI (addL [] [97] fv) [97] = some 0 := by rw [added_notes]; rfl
 rw [← added_notes] at hfn
 generalize addL [] [97] fv = N1 at *
 have HF := Lib.hid (fun (p : LgP) (w' : World) (L : List Res) h hm => by
  have := find_has [] N1 [97] p w w' L hT h hm hlg rfl 0 hli
  unfold FindEnd at this
  rw [hfn] at this
  exact this)
 have HD := Lib.hid (show decide (fv = fv) = true from decide_eq_true rfl)
 have HFV := Lib.hid hfv
 clear hT hlg hfn hfv added_notes hli
 go_enter Tryz.func23, Tryz.ntmps23
 go_upto_region 1 with (go_big_may; fail)
 go_upto_region 2 with (go_big_may; (go_at_call 8; refine (HG.out _).mono ?_; rintro e Wl ⟨p, rfl, hpm, hmp, hnew⟩; replace hst := hst.trans hnew; clear hnew))
 go_upto_region 4 with (go_big_may; fail)
 go_upto_region 5 with (go_big_may; first | (refine L_build5 (d := some 11) rfl rfl rfl Tryz.underlying32 el_uint8 el_api_Digest (by rfl) HFV.out ?_) | (go_at_call 10; refine (HA.out p _ _ hst hmp).mono ?_; rintro e Wa ⟨rfl, q1, u1, u2, u3, hst'⟩; clear hst; have hst := hst'; clear hst'))
 clear HA HG
 go_upto_region 6 with (go_big_may; first | (go_at_call 15; have hff := HF.out q1 _ _ hst u3; rw [u1] at hff; refine hff.mono ?_; clear hff; rintro e Wf ⟨A1, c1, B1, d1, rfl, hst'⟩; clear hst; have hst := hst'; clear hst') | (refine L_allocA (d := some 4) rfl rfl rfl el_api_Found ?_; (try clear hnew); intro g4 W4 hnew; replace hst := hst.trans hnew; simp only [List.cons_append, List.nil_append] at hst) | (refine wpl_at (.store 46 (.tmp 4) (.tmp 18)) rfl ?_; (refine L_storeA rfl rfl hst rfl (by rfl) (ev_tmp rfl) (by (exact fdArr_all _ _ _ _ _ _ _ _ _ _)) el_api_Found (by (exact fdArr_size _ _ _ _ _ _ _ _ _ _)) 0 rfl (by (rfl)) ?_; clear hst; intro WS6 hst; simp only [List.set_cons_zero, List.set_cons_succ] at hst)))
 generalize lgL q1 [] N1 ++ [] = L0 at *
 clear HF
 go_wp2_with (first | (refine L_build5 (d := some 34) rfl rfl rfl Tryz.underlying32 el_uint8 el_api_Digest (by rfl) HFV.out ?_) | ((refine L_loadM (d := some 33) rfl rfl rfl (by rfl) Tryz.underlying32 rfl el_api_Digest (by (exact fdArr_key (hst.get 0 rfl))) (by (exact Dig.size _)) ?_)) | (refine L_eqD (d := some 35) rfl rfl rfl Tryz.underlying32 Tryz.underlying5 el_uint8 eqG_D (ev_tmp rfl) (ev_tmp rfl) ?_; (try rw [HD.out])))
 go_ret
 exact ⟨rfl, hst.forget⟩
end Go.Proofs.YtaebeemnipafbaaGreatDoor

set_option linter.unusedSimpArgs false
set_option linter.unusedVariables false
namespace Go.Proofs.YtaebeemnipafbaaGreatDoor
open Go.RowKit
set_option maxHeartbeats 2000000 in
set_option maxRecDepth 100000 in
theorem rtag_any (key : List UInt8) (K : Option Addr) (m mc : Nat) (n : Int) (x y z : Dig) (w : World) (hk : SlR w K m mc 1 (bytesL key)) (hm : m ≤ 140737488355000) :
  Calls Tryz.prog 25 #[.slice K m mc, .agg (hdArr n x y z)] w fun e w' => e = .returned (tagN key n x y).v ∧ St w w' [] := by
 have hst := St.refl w
 have HB := Lib.hid (show bytesL (sz4 n) ++ x.arr.toList ++ y.arr.toList = bytesL (sz4 n ++ (x.l ++ y.l)) by
  rw [Dig.toList, Dig.toList, ← bytesL_append, ← bytesL_append, List.append_assoc])
 have HF := Lib.hid (four_any n)
 have HM := Lib.hid (fun (A : Option Addr) (a c : Nat) (w' : World) (h1 : SlR w' K m mc 1 (bytesL key)) (h2 : SlR w' A a c 1 (bytesL (sz4 n ++ (x.l ++ y.l)))) (h3 : a ≤ 1000) => rmac_any key (sz4 n ++ (x.l ++ y.l)) K A m mc a c w' h1 h2 hm (by omega))
 have HR := Lib.hid (show (macN key (sz4 n ++ (x.l ++ y.l))).v = (tagN key n x y).v from rfl)
 generalize (tagN key n x y).v = tg at *
 generalize sz4 n ++ (x.l ++ y.l) = all at *
 generalize sz4 n = hd at *
 go_enter Tryz.func25, Tryz.ntmps25
 go_upto_region 1 with (first | (refine L_boxA (d := some 3) rfl rfl rfl (ev_tmp rfl) ?_; (try clear hnew); intro g3 W3 hnew; replace hst := hst.trans hnew; simp only [List.cons_append, List.nil_append] at hst) | (refine L_allocA (d := some 4) rfl rfl rfl el_api_Digest ?_; (try clear hnew); intro g4 W4 hnew; replace hst := hst.trans hnew; simp only [List.cons_append, List.nil_append] at hst))
 go_upto_region 2 with (first | ((refine L_loadM (d := some 9) rfl rfl rfl (by rfl) Tryz.underlying32 rfl el_api_Digest (by (exact hdArr_root (hst.get 1 rfl))) (by (exact Dig.size _)) ?_)) | (refine L_allocA (d := some 5) rfl rfl rfl el_api_Digest ?_; (try clear hnew); intro g5 W5 hnew; replace hst := hst.trans hnew; simp only [List.cons_append, List.nil_append] at hst) | (refine wpl_at (.store 32 (.tmp 5) (.tmp 9)) rfl ?_; (refine L_storeA rfl rfl hst rfl (by rfl) (ev_tmp rfl) (by (exact Dig.one _)) el_api_Digest (by (exact Dig.size _)) 0 rfl (by (rfl)) ?_; clear hst; intro WS3 hst; simp only [List.set_cons_zero, List.set_cons_succ] at hst)))
 go_upto_region 3 with (first | ((refine L_loadM (d := some 11) rfl rfl rfl (by rfl) Tryz.underlying32 rfl el_api_Digest (by (exact hdArr_map (hst.get 2 rfl))) (by (exact Dig.size _)) ?_)) | (refine L_allocA (d := some 6) rfl rfl rfl el_api_Digest ?_; (try clear hnew); intro g6 W6 hnew; replace hst := hst.trans hnew; simp only [List.cons_append, List.nil_append] at hst) | (refine wpl_at (.store 32 (.tmp 6) (.tmp 11)) rfl ?_; (refine L_storeA rfl rfl hst rfl (by rfl) (ev_tmp rfl) (by (exact Dig.one _)) el_api_Digest (by (exact Dig.size _)) 0 rfl (by (rfl)) ?_; clear hst; intro WS3 hst; simp only [List.set_cons_zero, List.set_cons_succ] at hst)))
 refine wp_region_idx [(3, 0), (0, 2), (1, 2), (2, 2), (4, 1), (5, 2)] (by kernel_rfl) (by kernel_rfl) ?_
 replace hst := hst.drew
 refine idx_q rfl rfl ?_; go_wp2_with ((refine L_sliceAll (d := some 15) rfl rfl rfl (by rfl) Tryz.underlying32 el_uint8 (by (exact hst.get 1 rfl)) (by (exact Dig.size _)) (by decide) ?_; intro hs15))
 refine idx_g rfl ?_; go_wp2_with fail; refine ⟨by (exact Below.refl _ _), ?_⟩
 refine idx_g rfl ?_; go_wp2_with ((refine L_load1 (d := some 13) rfl rfl rfl (by rfl) Tryz.underlying3 rfl (by (exact cell_of (hst.get 3 rfl) hdArr_0)) ?_)); refine ⟨by (exact Below.refl _ _), ?_⟩
 refine idx_g rfl ?_; go_wp2_with ((go_at_call 63; refine (HF.out _).mono ?_; rintro e W14 ⟨A14, rfl, hnew⟩; replace hst := hst.trans hnew; simp only [List.cons_append, List.nil_append] at hst)); refine ⟨by (exact hnew.below), ?_⟩
 refine idx_e rfl ?_; go_wp2_with ((refine L_appendO (d := some 16) rfl rfl hst rfl (by rfl) (by rfl) Tryz.underlying22 el_uint8 rfl (by decide) (by decide) 0 rfl (by (rfl)) (by (exact hnew.old (by decide) hs15)) (by (exact oneCell_bytes)) (by omega) ?_; clear hst; intro A16 c16 W16 hst; simp only [List.set_cons_zero, List.set_cons_succ, List.nil_append, Nat.zero_add] at hst))
 refine idx_g rfl ?_; go_wp2_with fail; refine ⟨by (exact Below.refl _ _), ?_⟩
 refine idx_nil ?_
 clear hnew hs15
 go_wp2_with (first | (go_at_call 64; refine (HM.out _ _ _ _ (hst.old (by decide) hk) (by rw [← HB.out]; exact hst.sl 0 rfl) (by decide)).mono ?_; rintro e W21 ⟨rfl, hnew⟩; replace hst := hst.keep hnew) | (refine L_sliceAll (d := some 19) rfl rfl rfl (by rfl) Tryz.underlying32 el_uint8 (by (exact hst.get 1 rfl)) (by (exact Dig.size _)) (by decide) ?_; intro hs19) | (refine L_appendO (d := some 20) rfl rfl hst rfl (by rfl) (by rfl) Tryz.underlying22 el_uint8 rfl (by decide) (by decide) 0 rfl (by (rfl)) (by (assumption)) (by (exact oneCell_bytes)) (by omega) ?_; clear hst; intro A20 c20 W20 hst; simp only [List.set_cons_zero, List.set_cons_succ, List.nil_append, Nat.zero_add] at hst) | (refine wpl_at (.store 32 (.tmp 4) (.tmp 21)) rfl ?_; (refine L_storeA rfl rfl hst rfl (by rfl) (ev_tmp rfl) (by (exact Dig.one _)) el_api_Digest (by (rfl)) 3 rfl (by (rfl)) ?_; clear hst; intro WS5 hst; simp only [List.set_cons_zero, List.set_cons_succ] at hst)))
 refine bp_cell rfl rfl rfl (hst.get 3 rfl) Tryz.underlying32 rfl el_api_Digest (by (rfl)) ?_
 refine ⟨?_, hst.forget⟩
 rw [← HR.out]
set_option maxHeartbeats 1000000 in
theorem told_tag_any (key : List UInt8) (K : Option Addr) (m mc : Nat) (n : Int) (x y z : Dig) (w : World) (hn1 : -9223372036854775808 ≤ n) (hn2 : n ≤ 9223372036854775807) (hT : Tb w) (hk : SlR w K m mc 1 (bytesL key)) (hm : m ≤ 140737488355000) :
  Calls Tryz.prog 151 #[.slice K m mc, .agg (hdArr n x y z)] w fun e w' => e = .returned (.bool (decide (z = tagN key n x y))) ∧ St w w' [] := by
 have hst := St.refl w
 have HC := Lib.hid (fun (w' : World) (ht : Tb w') (h1 : SlR w' K m mc 1 (bytesL key)) => tag_any key K m mc n x y z w' hn1 hn2 ht h1 hm)
 generalize tagN key n x y = tg at *
 have HT := Lib.hid hT
 clear hT hn1 hn2 hm
 go_enter Tryz.func151, Tryz.ntmps151
 go_upto_region 1 with ((refine L_boxA (d := some 3) rfl rfl rfl (ev_tmp rfl) ?_; (try clear hnew); intro g3 W3 hnew; replace hst := hst.trans hnew; simp only [List.cons_append, List.nil_append] at hst))
 refine wp_region_pm (.one 2 3 (.one 0 0 (.one 1 0 (.one 3 2 (.one 4 2 (.one 5 2 (.one 6 2 .nil))))))) (by kernel_rfl) (by kernel_rfl) ?_
 replace hst := hst.drew
 refine pm_p rfl rfl ?_; go_wp2_with fail
 refine pm_qf rfl rfl (by kernel_rfl) ?_; go_wp2_with fail
 refine pm_q rfl rfl ?_; go_wp2_with (((refine L_loadM (d := some 6) rfl rfl rfl (by rfl) Tryz.underlying32 rfl el_api_Digest (by (exact hdArr_tag (hst.get 0 rfl))) (by (exact Dig.size _)) ?_)))
 refine pm_g rfl ?_; go_wp2_with (((refine L_loadA (d := some 8) rfl rfl rfl (by rfl) Tryz.underlying41 rfl el_api_Head (by (exact hst.get 0 rfl)) (by (exact hdArr_size _ _ _ _)) ?_))); refine ⟨by (exact Below.refl _ _), ?_⟩
 refine pm_g rfl ?_; go_wp2_with ((go_at_call 24; refine (HC.out _ (HT.out.of hst) (hst.old (by decide) hk)).mono ?_; rintro e Wt ⟨rfl, hnew⟩; replace hst := hst.keep hnew)); refine ⟨by (exact hnew.below), ?_⟩
 refine pm_g rfl ?_; go_wp2_with ((refine L_eqD (d := some 10) rfl rfl rfl Tryz.underlying32 Tryz.underlying5 el_uint8 eqG_D (ev_tmp rfl) (ev_tmp rfl) ?_)); refine ⟨by (exact Below.refl _ _), ?_⟩
 refine pm_g rfl ?_; go_wp2_with fail; refine ⟨by (exact Below.refl _ _), ?_⟩
 refine pm_nil ?_
 go_wp2_with fail
 go_ret
 exact ⟨rfl, hst.forget⟩
end Go.Proofs.YtaebeemnipafbaaGreatDoor

set_option maxRecDepth 20000
set_option linter.unusedSimpArgs false
set_option linter.unusedVariables false
namespace Go.Proofs.YtaebeemnipafbaaGreatDoor
open Go.RowKit
theorem el_api_Errno : ElemIs Tryz.prog 28 (.int .i64 0) 1 8 := by unfold ElemIs; kernel_rfl
theorem as_any (k : Int) (g : Nat) (old : Value) (w0 w : World) (L : List Res) (hE : Eb w0) (hst : St w0 w (.blk g 28 #[old] :: L)) :
  Calls Tryz.prog 75 #[.iface 28 (.int .i64 k), .iface 137 (.pointer (some ⟨g, 0, none⟩))] w fun e w' => e = .returned (.bool true) ∧ St w0 w' (.blk g 28 #[.int .i64 k] :: L) := by
 have hc := hst.get 0 rfl
 refine (as_hit k ⟨g, 0, none⟩ old w (hE.of hst) (cell_of hc rfl) (by simp [World.frozen?, hc])).mono ?_
 rintro e w' ⟨rfl, rfl⟩
 refine ⟨rfl, ?_⟩
 exact (((((hst.alloc _ _).alloc _ _).alloc _ _).alloc _ _).setCell 4 rfl 0 (.int .i64 k)).tailN 4
set_option maxHeartbeats 1000000 in
theorem told_any (k : Nat) (w : World) (hE : Eb w) : Calls Tryz.prog 37 #[errV k] w fun e w' => e = .returned (.int .i64 (k : Int)) ∧ St w w' [] := by
 have hst := St.refl w
 have HE := Lib.hid hE
 clear hE
 unfold errV
 go_enter Tryz.func37, Tryz.ntmps37
 go_upto_region 1 with (fail)
 go_upto_region 3 with (fail)
 go_upto_region 4 with ((refine L_alloc1 (d := some 3) rfl rfl rfl el_api_Errno rfl ?_; (try clear hnew); intro g3 W3 hnew; replace hst := hst.trans hnew; simp only [List.cons_append, List.nil_append] at hst))
 go_upto_region 5 with ((go_at_call 75; (try clear hnew); refine (as_any (k : Int) g3 (.int .i64 0) w _ [] HE.out hst).mono ?_; rintro e Wa ⟨rfl, hst'⟩; clear hst; have hst := hst'; clear hst'))
 go_wp2_with ((refine L_load1 (d := some 9) rfl rfl rfl (by rfl) Tryz.underlying28 rfl (by (exact cell_of (hst.get 0 rfl) rfl)) ?_))
 go_ret
 exact ⟨rfl, hst.forget⟩
theorem told_nil (w : World) : Calls Tryz.prog 37 #[.nilIface] w fun e w' => e = .returned (.int .i64 0) ∧ St w w' [] := by
 have hst := St.refl w
 go_enter Tryz.func37, Tryz.ntmps37
 go_wp2_with (fail)
 go_ret
 exact ⟨rfl, hst.forget⟩
theorem sError_any (k : Nat) (w : World) (hE : Eb w) : Calls Tryz.prog 11 #[errV k, .int .i64 (k : Int)] w fun e w' => e = .returned (.bool true) ∧ St w w' [] := by
 have hst := St.refl w
 have HE := Lib.hid hE
 clear hE
 go_enter Tryz.func11, Tryz.ntmps11
 go_wp2_with ((go_at_call 37; (try clear hnew); refine (told_any k _ (HE.out.of hst)).mono ?_; rintro e Wk1 ⟨rfl, hnew⟩; replace hst := hst.keep hnew))
 go_ret
 exact ⟨rfl, hst⟩
theorem sError_nil (w : World) : Calls Tryz.prog 11 #[.nilIface, .int .i64 0] w fun e w' => e = .returned (.bool true) ∧ St w w' [] := by
 have hst := St.refl w
 go_enter Tryz.func11, Tryz.ntmps11
 go_wp2_with ((go_at_call 37; (try clear hnew); refine (told_nil _).mono ?_; rintro e Wk2 ⟨rfl, hnew⟩; replace hst := hst.keep hnew))
 go_ret
 exact ⟨rfl, hst⟩
end Go.Proofs.YtaebeemnipafbaaGreatDoor

set_option maxRecDepth 20000
set_option linter.unusedSimpArgs false
set_option linter.unusedVariables false
namespace Go.Proofs.YtaebeemnipafbaaGreatDoor
open Go.RowKit
attribute [local simp] prArr_size
theorem sErr_any (r : Nat) (w : World) (hE : Eb w) : Calls Tryz.prog 11 #[errO r, .int .i64 (r : Int)] w fun e w' => e = .returned (.bool true) ∧ St w w' [] := by
 by_cases h : r = 0
 ·subst h; exact sError_nil w
 ·rw [show errO r = errV r from if_neg h]; exact sError_any r w hE
set_option maxHeartbeats 40000000 in
set_option maxRecDepth 100000 in
theorem logLooks_any (w : World) (hT : Tb w) (hE : Eb w) (key : List UInt8) (K : Option Addr) (m mc : Nat) (hk : SlR w K m mc 1 (bytesL key)) (hm0 : m * 1 ≤ 140737488351232) (n : Int) (x y z : Dig) (hn1 : -9223372036854775808 ≤ n) (hn2 : n ≤ 9223372036854775807) (s : List UInt8) (hsz : s.length ≤ 140737488351232)
  (f : FoundN) (A1 : Option Addr) (m1 c1 : Nat) (B1 : Option Addr) (p1 q1 : Nat) (hf1 : SlR w A1 m1 c1 32 (digsL f.path)) (hf2 : SlR w B1 p1 q1 32 (digsL f.mpath)) (hf3 : -9223372036854775808 ≤ f.note.turn) (hf4 : f.note.turn ≤ 9223372036854775807) (hfz : f.note.name.length ≤ 9223372036854775807) :
  Calls Tryz.prog 4 #[.slice K m mc, .agg (hdArr n x y z), .string (bsOf s), .agg (fdArr f.note.name f.note.key f.note.turn f.at_ A1 m1 c1 B1 p1 q1)] w fun e w' => e = .returned (.bool true) ∧ St w w' [] := by
 have hst := St.refl w
 have HT := Lib.hid hT
 have HE := Lib.hid hE
 have HK := Lib.hid hk
 have HF1 := Lib.hid hf1
 have HF2 := Lib.hid hf2
 have HQ := Lib.hid (fun (w' : World) h1 h2 => looked_any n x y z s f A1 m1 c1 B1 p1 q1 w' (by omega) hfz h1 h2 hf3 hf4)
 have HL := Lib.hid (fun (w' : World) ht h1 h2 => look_any n x y z s f A1 m1 c1 B1 p1 q1 w' ht h1 h2 hf3 hf4)
 have HTg := Lib.hid (fun (w' : World) (ht : Tb w') (h : SlR w' K m mc 1 (bytesL key)) => tag_any key K m mc n x y z w' hn1 hn2 ht h (by omega))
 have HRt := Lib.hid (fun (w' : World) (h : SlR w' K m mc 1 (bytesL key)) => rtag_any key K m mc n x y z w' h (by omega))
 unfold lookQ at HQ
 unfold lookV at HL
 generalize lookN n x y s f = r at *
 obtain ⟨r, o⟩ := r
 simp only at HQ HL
 unfold NoteN.arr at HQ HL
 have HEq := Lib.hid (fun w => show (Op.equalIn 10000 34 (.agg (ntArr (o.getD zeroNt).name (o.getD zeroNt).key (o.getD zeroNt).turn)) (.agg (ntArr (o.getD zeroNt).name (o.getD zeroNt).key (o.getD zeroNt).turn))).run Tryz.prog w = .ok true w by rw [eqNote]; simp)
 generalize (o.getD zeroNt).name = n1 at *
 generalize (o.getD zeroNt).key = n2 at *
 generalize (o.getD zeroNt).turn = n3 at *
 generalize o.isSome = b at *
 have HSr := Lib.hid (fun (w' : World) (h : Eb w') => sErr_any r w' h)
 generalize errO r = ev at *
 generalize tagN key n x y = tg at *
 have HD := Lib.hid (show decide (tg = tg) = true from decide_eq_true rfl)
 have hbb : (b == b) = true := by cases b <;> rfl
 generalize f.note.name = a1 at *
 generalize f.note.key = a2 at *
 generalize f.note.turn = a3 at *
 generalize f.at_ = a4 at *
 clear hT hE hk hf1 hf2 hf3 hf4 hfz hm0 hn1 hn2 hsz
 go_enter Tryz.func4, Tryz.ntmps4
 go_upto_region 1 with (go_big_may; first | (refine L_boxA (d := some 5) rfl rfl rfl (ev_tmp rfl) ?_; (try clear hnew); intro g5 W5 hnew; replace hst := hst.trans hnew; simp only [List.cons_append, List.nil_append] at hst) | (refine L_boxA (d := some 7) rfl rfl rfl (ev_tmp rfl) ?_; (try clear hnew); intro g7 W7 hnew; replace hst := hst.trans hnew; simp only [List.cons_append, List.nil_append] at hst))
 go_upto_region 2 with (go_big_may; first | (go_at_call 21; (try clear hnew); refine (HQ.out _ (hst.old (by decide) HF1.out) (hst.old (by decide) HF2.out)).mono ?_; rintro e Wk1 ⟨rfl, hnew⟩; replace hst := hst.keep hnew) | ((refine L_loadA (d := some 18) rfl rfl rfl (by rfl) Tryz.underlying41 rfl el_api_Head (by (exact hst.get 1 rfl)) (by (exact hdArr_size _ _ _ _)) ?_)) | ((refine L_loadA (d := some 20) rfl rfl rfl (by rfl) Tryz.underlying46 rfl el_api_Found (by (exact hst.get 0 rfl)) (by (exact fdArr_size _ _ _ _ _ _ _ _ _ _)) ?_)) | (refine L_allocA (d := some 9) rfl rfl rfl el_api_Note ?_; (try clear hnew); intro g9 W9 hnew; replace hst := hst.trans hnew; simp only [List.cons_append, List.nil_append] at hst) | (refine wpl_at (.store 34 (.tmp 9) (.tmp 22)) rfl ?_; (refine L_storeA rfl rfl hst rfl (by rfl) (ev_tmp rfl) (by (exact ntArr_all _ _ _)) el_api_Note (by (exact ntArr_size _ _ _)) 0 rfl (by (rfl)) ?_; clear hst; intro WS9 hst; simp only [List.set_cons_zero, List.set_cons_succ] at hst)))
 go_upto_region 3 with (go_big_may; first | (go_at_call 22; (try clear hnew); refine (HL.out _ (HT.out.of hst) (hst.old (by decide) HF1.out) (hst.old (by decide) HF2.out)).mono ?_; rintro e Wk2 ⟨rfl, hnew⟩; replace hst := hst.keep hnew) | ((refine L_loadA (d := some 26) rfl rfl rfl (by rfl) Tryz.underlying41 rfl el_api_Head (by (exact hst.get 2 rfl)) (by (exact hdArr_size _ _ _ _)) ?_)) | ((refine L_loadA (d := some 28) rfl rfl rfl (by rfl) Tryz.underlying46 rfl el_api_Found (by (exact hst.get 1 rfl)) (by (exact fdArr_size _ _ _ _ _ _ _ _ _ _)) ?_)) | (refine L_allocA (d := some 12) rfl rfl rfl el_api_Note ?_; (try clear hnew); intro g12 W12 hnew; replace hst := hst.trans hnew; simp only [List.cons_append, List.nil_append] at hst) | (refine wpl_at (.store 34 (.tmp 12) (.tmp 30)) rfl ?_; (refine L_storeA rfl rfl hst rfl (by rfl) (ev_tmp rfl) (by (exact ntArr_all _ _ _)) el_api_Note (by (exact ntArr_size _ _ _)) 0 rfl (by (rfl)) ?_; clear hst; intro WS9 hst; simp only [List.set_cons_zero, List.set_cons_succ] at hst)))
 go_upto_region 4 with (go_big_may; (go_at_call 11; (try clear hnew); refine (HSr.out _ (HE.out.of hst)).mono ?_; rintro e Wk3 ⟨rfl, hnew⟩; replace hst := hst.keep hnew))
 go_upto_region 5 with (go_big_may; (go_at_call 23; (try clear hnew); refine (added_any _ (HT.out.of hst)).mono ?_; rintro e Wd ⟨rfl, hnew⟩; replace hst := hst.keep hnew))
 (try clear hnew)
 refine wp_region_idx [(0, 2), (1, 2), (2, 2), (3, 2), (4, 2), (5, 0), (6, 2), (7, 2), (8, 2), (9, 2), (10, 0), (11, 2), (12, 2), (13, 2), (14, 2), (15, 0), (16, 0), (18, 0), (19, 0), (17, 2), (20, 2), (21, 2), (22, 2), (23, 2)] (by kernel_rfl) (by kernel_rfl) ?_
 replace hst := hst.drew
 refine idx_g rfl ?_; go_wp2_with fail; refine ⟨by (exact Below.refl _ _), ?_⟩
 refine idx_g rfl ?_; go_wp2_with fail; refine ⟨by (exact Below.refl _ _), ?_⟩
 refine idx_g rfl ?_; go_wp2_with (fail); refine ⟨by (exact Below.refl _ _), ?_⟩
 refine idx_g rfl ?_; go_wp2_with (((refine L_pickT (d := some 40) rfl rfl rfl (ev_tmp rfl) (ev_tmp rfl) ?_))); refine ⟨by (exact Below.refl _ _), ?_⟩
 refine idx_g rfl ?_; go_wp2_with fail; refine ⟨by (exact Below.refl _ _), ?_⟩
 refine idx_q rfl rfl ?_; go_wp2_with (((refine L_loadA (d := some 42) rfl rfl rfl (by rfl) Tryz.underlying34 rfl el_api_Note (by (exact hst.get 0 rfl)) (by (exact ntArr_size _ _ _)) ?_)))
 refine idx_g rfl ?_; go_wp2_with (((refine L_loadA (d := some 43) rfl rfl rfl (by rfl) Tryz.underlying34 rfl el_api_Note (by (exact hst.get 1 rfl)) (by (exact ntArr_size _ _ _)) ?_))); refine ⟨by (exact Below.refl _ _), ?_⟩
 refine idx_g rfl ?_; go_wp2_with ((refine L_eqA (d := some 44) rfl rfl rfl eqG_Note (ev_tmp rfl) (ev_tmp rfl) (HEq.out _) ?_)); refine ⟨by (exact Below.refl _ _), ?_⟩
 refine idx_g rfl ?_; go_wp2_with (((refine L_pickT (d := some 45) rfl rfl rfl (ev_tmp rfl) (ev_tmp rfl) ?_))); refine ⟨by (exact Below.refl _ _), ?_⟩
 refine idx_g rfl ?_; go_wp2_with fail; refine ⟨by (exact Below.refl _ _), ?_⟩
 refine idx_q rfl rfl ?_; go_wp2_with (fail)
 refine idx_g rfl ?_; go_wp2_with (fail); refine ⟨by (exact Below.refl _ _), ?_⟩
 refine idx_g rfl ?_; go_wp2_with (fail); refine ⟨by (exact Below.refl _ _), ?_⟩
 refine idx_g rfl ?_; go_wp2_with (((refine L_pickT (d := some 50) rfl rfl rfl (ev_tmp rfl) (ev_tmp rfl) ?_))); refine ⟨by (exact Below.refl _ _), ?_⟩
 refine idx_g rfl ?_; go_wp2_with fail; refine ⟨by (exact Below.refl _ _), ?_⟩
 refine idx_q rfl rfl ?_; go_wp2_with (fail)
 refine idx_q rfl rfl ?_; go_wp2_with (((refine L_loadA (d := some 53) rfl rfl rfl (by rfl) Tryz.underlying41 rfl el_api_Head (by (exact hst.get 3 rfl)) (by (exact hdArr_size _ _ _ _)) ?_)))
 refine idx_q rfl rfl ?_; go_wp2_with (fail)
 refine idx_q rfl rfl ?_; go_wp2_with (((refine L_loadA (d := some 56) rfl rfl rfl (by rfl) Tryz.underlying41 rfl el_api_Head (by (exact hst.get 3 rfl)) (by (exact hdArr_size _ _ _ _)) ?_)))
 refine idx_g rfl ?_; go_wp2_with ((go_at_call 24; (try clear hnew); refine (HTg.out _ (HT.out.of hst) (hst.old (by decide) HK.out)).mono ?_; rintro e Wk4 ⟨rfl, hnew⟩; replace hst := hst.keep hnew)); refine ⟨by (exact hnew.below), ?_⟩
 refine idx_g rfl ?_; go_wp2_with ((go_at_call 25; (try clear hnew); refine (HRt.out _ (hst.old (by decide) HK.out)).mono ?_; rintro e Wk5 ⟨rfl, hnew⟩; replace hst := hst.keep hnew)); refine ⟨by (exact hnew.below), ?_⟩
 refine idx_g rfl ?_; go_wp2_with ((refine L_eqD (d := some 58) rfl rfl rfl Tryz.underlying32 Tryz.underlying5 el_uint8 eqG_D (ev_tmp rfl) (ev_tmp rfl) ?_; (try rw [HD.out]))); refine ⟨by (exact Below.refl _ _), ?_⟩
 refine idx_g rfl ?_; go_wp2_with (((refine L_pickT (d := some 59) rfl rfl rfl (ev_tmp rfl) (ev_tmp rfl) ?_))); refine ⟨by (exact Below.refl _ _), ?_⟩
 refine idx_g rfl ?_; go_wp2_with fail; refine ⟨by (exact Below.refl _ _), ?_⟩
 refine idx_nil ?_
 go_wp2_with fail
 go_ret
 exact ⟨rfl, hst.forget⟩
end Go.Proofs.YtaebeemnipafbaaGreatDoor

set_option maxRecDepth 20000
set_option linter.unusedSimpArgs false
set_option linter.unusedVariables false
namespace Go.Proofs.YtaebeemnipafbaaGreatDoor
open Go.ChangeShapes Go.WideShapes Go.RowKit
def ebCell : Value := .iface 209 (.agg #[.pointer (some ⟨6, 36, none⟩)])
theorem etG : Tryz.prog.globalNamed "errors.errorType" = some 0 := by kernel_rfl
theorem rtT : (Tryz.prog.cutTypes.find? (·.1 == "internal/reflectlite.rtype")).map (·.2) = some 209 := by kernel_rfl
theorem oneRow : ((List.range 297).filter fun t => Tryz.prog.rowNamed t [101, 114, 114, 111, 114]) = [36] := by kernel_rfl
theorem nTypes : Tryz.prog.types.size = 297 := by kernel_rfl
theorem eb_of {W : World} (h : handlesMet Tryz.prog [("errors.errorType", Rows.laid_errors_errorType)] W) : Eb W := by
 obtain ⟨name, u, ty, e1, e2, e3, e4, e5⟩ := h _ (List.mem_singleton.2 rfl)
 have en : name = [101, 114, 114, 111, 114] := (Option.some.inj e1).symm
 subst en
 obtain rfl := Option.some.inj (rtT.symm.trans e2)
 have hm : ty ∈ (List.range 297).filter fun t => Tryz.prog.rowNamed t [101, 114, 114, 111, 114] := List.mem_filter.2 ⟨List.mem_range.2 (by rw [← nTypes]; exact e3), e4⟩
 rw [oneRow] at hm
 obtain rfl := List.mem_singleton.1 hm
 have hh : typeHandle Tryz.prog 36 = .pointer (some ⟨6, 36, none⟩) := by kernel_rfl
 rw [hh] at e5
 simpa [Eb] using World.var?_cell etG e5 0
end Go.Proofs.YtaebeemnipafbaaGreatDoor

set_option maxRecDepth 20000
set_option linter.unusedSimpArgs false
set_option linter.unusedVariables false
namespace Go.Proofs.YtaebeemnipafbaaGreatDoor
open Go.ChangeShapes Go.WideShapes Go.ChangeAt Go.RowKit Go.Deep
section
variable {P : Program} {H : Type} {enc : TypeId × Value → H} {W : World} {base : Nat} {spare : Nat → Bool} {held : Bool}
theorem trod_struct3 {t : TypeId} {f0 f1 f2 : Field} {fuel : Nat} {cs : List Value} {x : DataW H × List MemPlace} (ht : P.underlying t = some (.struct #[f0, f1, f2])) (h : DataW.trod enc P W base spare held fuel t cs = some x) :
  ∃ y0 y1 y2 n, x = (.agg [y0.1, y1.1, y2.1], y0.2 ++ (y1.2 ++ y2.2)) ∧ cs.length = P.cellsOf t ∧ DataW.trod enc P W base spare held n f0.type ((cs.drop f0.offset).take (P.cellsOf f0.type)) = some y0 ∧
   DataW.trod enc P W base spare held n f1.type ((cs.drop f1.offset).take (P.cellsOf f1.type)) = some y1 ∧ DataW.trod enc P W base spare held n f2.type ((cs.drop f2.offset).take (P.cellsOf f2.type)) = some y2 := by
 obtain ⟨xs, n, _, rfl, hl, hlen, hf⟩ := DataW.trod_struct ht h
 match xs, hlen with
 | [y0, y1, y2], _ => exact ⟨y0, y1, y2, n, by simp, hl, by simpa using hf 0 f0 rfl, by simpa using hf 1 f1 rfl, by simpa using hf 2 f2 rfl⟩
theorem note_of_trod {t te e8 : TypeId} {f0 f1 f2 : Field} {fuel : Nat} {cs : List Value} {x : DataW H × List MemPlace} (ht : P.underlying t = some (.struct #[f0, f1, f2])) (h0 : P.underlying f0.type = some .string) (h1 : f1.type = te) (h2 : P.underlying f2.type = some (.int .i64)) (hte : P.underlying te = some (.array 32 e8)) (he : P.underlying e8 = some (.int .u8)) (hce : P.cellsOf e8 = 1) (hct : P.cellsOf te = 32)
  (o0 : f0.offset = 0) (o1 : f1.offset = 1) (o2 : f2.offset = 33) (c0 : P.cellsOf f0.type = 1) (c2 : P.cellsOf f2.type = 1) (ct : P.cellsOf t = 34) (hf : DataW.trod enc P W base spare held fuel t cs = some x) :
  ∃ q : NoteN, cs = q.arr.toList ∧ (Lit.int .i64 q.turn).wf = true := by
 obtain ⟨y0, y1, y2, m, _, hl, k0, k1, k2⟩ := trod_struct3 ht hf
 rw [o0, c0, List.drop_zero] at k0
 rw [h1, o1, hct] at k1
 rw [o2, c2] at k2
 rw [ct] at hl
 obtain ⟨s, hs, _⟩ := DataW.trod_string h0 k0
 obtain ⟨k, hk⟩ := dig_of_trod hte he hce hct k1
 obtain ⟨n, hc, _, hw⟩ := DataW.trod_int h2 k2
 refine ⟨⟨s.data.toList, k, n⟩, ?_, hw⟩
 have q : cs = cs.take 1 ++ ((cs.drop 1).take 32 ++ (cs.drop 33).take 1) := by
  have a1 : (cs.drop 33).take 1 = cs.drop 33 := List.take_of_length_le (by rw [List.length_drop]; omega)
  have a2 : (cs.drop 1).take 32 ++ cs.drop 33 = cs.drop 1 := by
   have := List.take_append_drop 32 (cs.drop 1)
   rwa [List.drop_drop] at this
  rw [a1, a2, List.take_append_drop]
 rw [q, hs, hc, hk]
 show _ = (ntArr s.data.toList k n).toList
 rw [ntArr_list, ← bsOf_eta s, Dig.toList]
 rfl
theorem open_notesS {r : Reach} {b0 : Nat} {t t1 te e8 : TypeId} {f0 f1 f2 : Field} {v : Value} {d : DataW H} {p : List MemPlace} (hts : P.underlying t = some (.slice t1)) (ht : P.underlying t1 = some (.struct #[f0, f1, f2])) (h0 : P.underlying f0.type = some .string) (h1 : f1.type = te) (h2 : P.underlying f2.type = some (.int .i64)) (hte : P.underlying te = some (.array 32 e8)) (he : P.underlying e8 = some (.int .u8)) (hce : P.cellsOf e8 = 1) (hct : P.cellsOf te = 32)
  (o0 : f0.offset = 0) (o1 : f1.offset = 1) (o2 : f2.offset = 33) (c0 : P.cellsOf f0.type = 1) (c2 : P.cellsOf f2.type = 1) (ct : P.cellsOf t1 = 34)
  (hval : Value.okWide P W r b0 t v) (h : DataW.Trod enc P W base spare held t v d p) :
  ∃ A n c hs, v = .slice A n c ∧ SlR W A n c 34 (notesL hs) ∧ (∀ q ∈ hs, (Lit.int .i64 q.turn).wf = true) ∧ ((d = .nil ∧ n = 0) ∨ ∃ el sp, d = .slice el sp ∧ el.length = n) := by
 obtain ⟨a0, len0, cap0, rfl⟩ := okWide_slice hts hval
 obtain ⟨fuel, hf⟩ := h
 rcases open_slice hts hf with ⟨hcs, hx⟩ | ⟨a, len, cap, m, k, D, Pl, hcs, hb, hl, hm, hmm, hx, hel⟩
 ·simp only [Value.cells, List.cons.injEq, Value.slice.injEq, and_true] at hcs
  obtain ⟨rfl, rfl, rfl⟩ := hcs
  simp only [Prod.mk.injEq] at hx
  exact ⟨none, 0, 0, [], rfl, SlR.nil_ W 34, (fun q hq => by cases hq), .inl ⟨hx.1, rfl⟩⟩
 ·simp only [Value.cells, List.cons.injEq, Value.slice.injEq, and_true] at hcs
  obtain ⟨rfl, rfl, rfl⟩ := hcs
  simp only [Prod.mk.injEq] at hx
  rw [ct] at hel
  have hlm : len0 ≤ m := by rw [hmm]; split <;> omega
  have hin : Inhabited NoteN := ⟨⟨[], zeroD, 0⟩⟩
  obtain ⟨bs, hbs⟩ := choose_below (α := NoteN) (n := len0) (p := fun i b => W.cells? base (a.add (i * 34)) 34 = some b.arr.toList ∧ (Lit.int .i64 b.turn).wf = true) (fun i hi => by
   obtain ⟨cs', k1, k2⟩ := hel i (by omega)
   obtain ⟨q, rfl, hw⟩ := note_of_trod ht h0 h1 h2 hte he hce hct o0 o1 o2 c0 c2 ct k2
   exact ⟨q, k1, hw⟩)
  have hs := slr_of (W := W) (base := base) (A := some a) (n := len0) (c := cap0) (s := 34) (by decide) (fun i => (bs i).arr.toList) hl hm (fun _ => ⟨a, rfl, fun i hi => (hbs i hi).1⟩)
  refine ⟨some a, len0, cap0, (List.range len0).map bs, rfl, ?_, ?_, .inr ⟨_, _, hx.1, by simp⟩⟩
  ·have hfl : ∀ l : List Nat, l.flatMap (fun i => (bs i).arr.toList) = notesL (l.map bs) := by
    intro l
    induction l with
    | nil => rfl
    | cons x l ih => simp only [List.flatMap_cons, ih, List.map_cons, notesL]
   rw [hfl] at hs
   exact hs
  ·intro q hq
   obtain ⟨i, hi, rfl⟩ := List.mem_map.1 hq
   exact (hbs i (List.mem_range.1 hi)).2
theorem open_boolsS {r : Reach} {b0 : Nat} {t t1 : TypeId} {v : Value} {d : DataW H} {p : List MemPlace} (hts : P.underlying t = some (.slice t1)) (ht : P.underlying t1 = some .bool) (ct : P.cellsOf t1 = 1)
  (hval : Value.okWide P W r b0 t v) (h : DataW.Trod enc P W base spare held t v d p) :
  ∃ A n c, ∃ f : Nat → Bool, v = .slice A n c ∧ SlR W A n c 1 ((List.range n).map fun i => .bool (f i)) := by
 obtain ⟨a0, len0, cap0, rfl⟩ := okWide_slice hts hval
 obtain ⟨fuel, hf⟩ := h
 rcases open_slice hts hf with ⟨hcs, hx⟩ | ⟨a, len, cap, m, k, D, Pl, hcs, hb, hl, hm, hmm, hx, hel⟩
 ·simp only [Value.cells, List.cons.injEq, Value.slice.injEq, and_true] at hcs
  obtain ⟨rfl, rfl, rfl⟩ := hcs
  exact ⟨none, 0, 0, fun _ => false, rfl, SlR.nil_ W 1⟩
 ·simp only [Value.cells, List.cons.injEq, Value.slice.injEq, and_true] at hcs
  obtain ⟨rfl, rfl, rfl⟩ := hcs
  rw [ct] at hel
  have hlm : len0 ≤ m := by rw [hmm]; split <;> omega
  obtain ⟨bs, hbs⟩ := choose_below (α := Bool) (n := len0) (p := fun i b => W.cells? base (a.add (i * 1)) 1 = some [.bool b]) (fun i hi => by
   obtain ⟨cs', k1, k2⟩ := hel i (by omega)
   obtain ⟨b, rfl, _⟩ := DataW.trod_bool ht k2
   exact ⟨b, k1⟩)
  have hs := slr_of (W := W) (base := base) (A := some a) (n := len0) (c := cap0) (s := 1) (by decide) (fun i => [.bool (bs i)]) hl hm (fun _ => ⟨a, rfl, fun i hi => hbs i hi⟩)
  refine ⟨some a, len0, cap0, bs, rfl, ?_⟩
  have hfl : ∀ l : List Nat, l.flatMap (fun i => [Value.bool (bs i)]) = l.map fun i => .bool (bs i) := by
   intro l
   induction l with
   | nil => rfl
   | cons x l ih => simp only [List.flatMap_cons, ih, List.map_cons, List.singleton_append]
  rw [hfl] at hs
  exact hs
end
end Go.Proofs.YtaebeemnipafbaaGreatDoor

set_option maxRecDepth 20000
set_option linter.unusedSimpArgs false
set_option linter.unusedVariables false
namespace Go.Proofs.YtaebeemnipafbaaGreatDoor
open Go.ChangeShapes Go.WideShapes Go.ChangeAt Go.RowKit Go.Deep
section
variable {P : Program} {H : Type} {enc : TypeId × Value → H} {W : World} {base : Nat} {spare : Nat → Bool} {held : Bool}
theorem digs_in_trod {t e e8 : TypeId} {fuel : Nat} {cs : List Value} {x : DataW H × List MemPlace} (ht : P.underlying t = some (.slice e)) (hte : P.underlying e = some (.array 32 e8)) (he : P.underlying e8 = some (.int .u8)) (hce : P.cellsOf e8 = 1) (hct : P.cellsOf e = 32)
  (hf : DataW.trod enc P W base spare held fuel t cs = some x) : ∃ A n c ds, cs = [.slice A n c] ∧ SlR W A n c 32 (digsL ds) := by
 rcases open_slice ht hf with ⟨hcs, hx⟩ | ⟨a, len, cap, m, k, D, Pl, hcs, hb, hl, hm, hmm, hx, hel⟩
 ·exact ⟨none, 0, 0, [], hcs, SlR.nil_ W 32⟩
 ·rw [hct] at hel
  have hlm : len ≤ m := by rw [hmm]; split <;> omega
  have hin : Inhabited Dig := ⟨zeroD⟩
  obtain ⟨bs, hbs⟩ := choose_below (α := Dig) (n := len) (p := fun i b => W.cells? base (a.add (i * 32)) 32 = some (bytesL b.l)) (fun i hi => by
   obtain ⟨cs', h1, h2⟩ := hel i (by omega)
   obtain ⟨q, rfl⟩ := dig_of_trod hte he hce hct h2
   exact ⟨q, h1⟩)
  have hs := slr_of (W := W) (base := base) (A := some a) (n := len) (c := cap) (s := 32) (by decide) (fun i => bytesL (bs i).l) hl hm (fun _ => ⟨a, rfl, hbs⟩)
  refine ⟨some a, len, cap, (List.range len).map bs, hcs, ?_⟩
  have hfl : ∀ l : List Nat, l.flatMap (fun i => bytesL (bs i).l) = digsL (l.map bs) := by
   intro l
   induction l with
   | nil => rfl
   | cons x l ih => simp only [List.flatMap_cons, ih, List.map_cons, digsL]
  rw [hfl] at hs
  exact hs
theorem open_found {r : Reach} {b0 : Nat} {t tn ts te e8 : TypeId} {f0 f1 f2 f3 g0 g1 g2 : Field} {v : Value} {d : DataW H} {p : List MemPlace} (ht : P.underlying t = some (.struct #[f0, f1, f2, f3])) (h0 : f0.type = tn) (hn : P.underlying tn = some (.struct #[g0, g1, g2])) (k0 : P.underlying g0.type = some .string) (k1 : g1.type = te) (k2 : P.underlying g2.type = some (.int .i64))
  (h1 : P.underlying f1.type = some (.int .i64)) (h2 : f2.type = ts) (h3 : f3.type = ts) (hts : P.underlying ts = some (.slice te)) (hte : P.underlying te = some (.array 32 e8)) (he : P.underlying e8 = some (.int .u8)) (hce : P.cellsOf e8 = 1) (hct : P.cellsOf te = 32)
  (o0 : f0.offset = 0) (o1 : f1.offset = 34) (o2 : f2.offset = 35) (o3 : f3.offset = 36) (q0 : g0.offset = 0) (q1 : g1.offset = 1) (q2 : g2.offset = 33) (cn : P.cellsOf tn = 34) (c1 : P.cellsOf f1.type = 1) (cs1 : P.cellsOf ts = 1) (cg0 : P.cellsOf g0.type = 1) (cg2 : P.cellsOf g2.type = 1) (ct : P.cellsOf t = 37)
  (hval : Value.okWide P W r b0 t v) (h : DataW.Trod enc P W base spare held t v d p) :
  ∃ (f : FoundN) (A : Option Addr) (m c : Nat) (B : Option Addr) (p' q' : Nat), v = .agg (fdArr f.note.name f.note.key f.note.turn f.at_ A m c B p' q') ∧ SlR W A m c 32 (digsL f.path) ∧ SlR W B p' q' 32 (digsL f.mpath) ∧ (Lit.int .i64 f.note.turn).wf = true ∧ (Lit.int .i64 f.at_).wf = true := by
 simp only [Value.okWide, ht] at hval
 obtain ⟨cs, rfl, _⟩ := hval
 obtain ⟨fuel, hf⟩ := h
 simp only [Value.cells] at hf
 obtain ⟨y0, y1, y2, y3, m, _, hl, j0, j1, j2, j3⟩ := trod_struct4 ht hf
 rw [h0, o0, cn, List.drop_zero] at j0
 rw [o1, c1] at j1
 rw [h2, o2, cs1] at j2
 rw [h3, o3, cs1] at j3
 rw [ct] at hl
 obtain ⟨nt, e0, w0⟩ := note_of_trod hn k0 k1 k2 hte he hce hct q0 q1 q2 cg0 cg2 cn j0
 obtain ⟨at_, e1, _, w1⟩ := DataW.trod_int h1 j1
 obtain ⟨A, m1, c, ds, e2, s2⟩ := digs_in_trod hts hte he hce hct j2
 obtain ⟨B, m2, c2, ds2, e3, s3⟩ := digs_in_trod hts hte he hce hct j3
 refine ⟨⟨nt, at_, ds, ds2⟩, A, m1, c, B, m2, c2, ?_, s2, s3, w0, w1⟩
 have e : cs.toList = (ntArr nt.name nt.key nt.turn).toList ++ [.int .i64 at_, .slice A m1 c, .slice B m2 c2] := by
  have q : cs.toList = cs.toList.take 34 ++ ((cs.toList.drop 34).take 1 ++ ((cs.toList.drop 35).take 1 ++ (cs.toList.drop 36).take 1)) := by
   have a1 : (cs.toList.drop 36).take 1 = cs.toList.drop 36 := List.take_of_length_le (by rw [List.length_drop]; omega)
   have a2 : (cs.toList.drop 35).take 1 ++ cs.toList.drop 36 = cs.toList.drop 35 := by
    have := List.take_append_drop 1 (cs.toList.drop 35)
    rwa [List.drop_drop] at this
   have a3 : (cs.toList.drop 34).take 1 ++ cs.toList.drop 35 = cs.toList.drop 34 := by
    have := List.take_append_drop 1 (cs.toList.drop 34)
    rwa [List.drop_drop] at this
   rw [a1, a2, a3, List.take_append_drop]
  rw [q, e0, e1, e2, e3]
  rfl
 show Value.agg cs = Value.agg (fdArr nt.name nt.key nt.turn at_ A m1 c B m2 c2)
 congr 1
 exact Array.ext' e
end
end Go.Proofs.YtaebeemnipafbaaGreatDoor

set_option maxRecDepth 20000
set_option linter.unusedSimpArgs false
set_option linter.unusedVariables false
namespace Go.Proofs.YtaebeemnipafbaaGreatDoor
open Go.ChangeShapes Go.WideShapes Go.ChangeAt Go.RowKit Go.Deep
section
variable {P : Program} {H : Type} {enc : TypeId × Value → H} {W : World} {base : Nat} {spare : Nat → Bool} {held : Bool}
theorem note_name_trod {t : TypeId} {f0 f1 f2 : Field} {fuel : Nat} {cs : List Value} {x : DataW H × List MemPlace} (ht : P.underlying t = some (.struct #[f0, f1, f2])) (h0 : P.underlying f0.type = some .string) (o0 : f0.offset = 0) (c0 : P.cellsOf f0.type = 1) (hf : DataW.trod enc P W base spare held fuel t cs = some x) (q : NoteN) (hq : cs = q.arr.toList) : q.name.length ≤ maxLen := by
 obtain ⟨y0, y1, y2, m, _, hl, k0, k1, k2⟩ := trod_struct3 ht hf
 rw [o0, c0, List.drop_zero] at k0
 obtain ⟨s, hs, _, hz⟩ := DataW.trod_string h0 k0
 have e : q.arr.toList.take 1 = [.string (bsOf q.name)] := by
  show (ntArr q.name q.key q.turn).toList.take 1 = _
  rw [ntArr_list]
  rfl
 rw [hq, e] at hs
 simp only [List.cons.injEq, Value.string.injEq, and_true] at hs
 rw [← hs, bsOf_size] at hz
 exact hz
theorem found_name {t tn : TypeId} {f0 f1 f2 f3 g0 g1 g2 : Field} {d : DataW H} {p : List MemPlace} (ht : P.underlying t = some (.struct #[f0, f1, f2, f3])) (h0 : f0.type = tn) (hn : P.underlying tn = some (.struct #[g0, g1, g2])) (k0 : P.underlying g0.type = some .string)
  (o0 : f0.offset = 0) (q0 : g0.offset = 0) (cn : P.cellsOf tn = 34) (cg0 : P.cellsOf g0.type = 1) {f : FoundN} {A : Option Addr} {m c : Nat} {B : Option Addr} {p' q' : Nat}
  (h : DataW.Trod enc P W base spare held t (.agg (fdArr f.note.name f.note.key f.note.turn f.at_ A m c B p' q')) d p) : f.note.name.length ≤ 9223372036854775807 := by
 obtain ⟨fuel, hf⟩ := h
 simp only [Value.cells] at hf
 obtain ⟨y0, y1, y2, y3, m, _, hl, j0, j1, j2, j3⟩ := trod_struct4 ht hf
 rw [h0, o0, cn, List.drop_zero, fdArr_list, List.take_left' (ntArr_len _ _ _)] at j0
 have := note_name_trod hn k0 q0 cg0 j0 f.note rfl
 simp only [maxLen] at this
 omega
theorem open_notesW {r : Reach} {b0 : Nat} {t t1 te e8 : TypeId} {f0 f1 f2 : Field} {v : Value} {d : DataW H} {p : List MemPlace} (hts : P.underlying t = some (.slice t1)) (ht : P.underlying t1 = some (.struct #[f0, f1, f2])) (h0 : P.underlying f0.type = some .string) (h1 : f1.type = te) (h2 : P.underlying f2.type = some (.int .i64)) (hte : P.underlying te = some (.array 32 e8)) (he : P.underlying e8 = some (.int .u8)) (hce : P.cellsOf e8 = 1) (hct : P.cellsOf te = 32)
  (o0 : f0.offset = 0) (o1 : f1.offset = 1) (o2 : f2.offset = 33) (c0 : P.cellsOf f0.type = 1) (c2 : P.cellsOf f2.type = 1) (ct : P.cellsOf t1 = 34)
  (hval : Value.okWide P W r b0 t v) (h : DataW.Trod enc P W base spare held t v d p) :
  ∃ A n c hs, v = .slice A n c ∧ SlR W A n c 34 (notesL hs) ∧ (∀ q ∈ hs, (Lit.int .i64 q.turn).wf = true ∧ q.name.length ≤ 9223372036854775807) ∧ ((d = .nil ∧ n = 0) ∨ ∃ el sp, d = .slice el sp ∧ el.length = n) := by
 obtain ⟨a0, len0, cap0, rfl⟩ := okWide_slice hts hval
 obtain ⟨fuel, hf⟩ := h
 rcases open_slice hts hf with ⟨hcs, hx⟩ | ⟨a, len, cap, m, k, D, Pl, hcs, hb, hl, hm, hmm, hx, hel⟩
 ·simp only [Value.cells, List.cons.injEq, Value.slice.injEq, and_true] at hcs
  obtain ⟨rfl, rfl, rfl⟩ := hcs
  simp only [Prod.mk.injEq] at hx
  exact ⟨none, 0, 0, [], rfl, SlR.nil_ W 34, (fun q hq => by cases hq), .inl ⟨hx.1, rfl⟩⟩
 ·simp only [Value.cells, List.cons.injEq, Value.slice.injEq, and_true] at hcs
  obtain ⟨rfl, rfl, rfl⟩ := hcs
  simp only [Prod.mk.injEq] at hx
  rw [ct] at hel
  have hlm : len0 ≤ m := by rw [hmm]; split <;> omega
  have hin : Inhabited NoteN := ⟨⟨[], zeroD, 0⟩⟩
  obtain ⟨bs, hbs⟩ := choose_below (α := NoteN) (n := len0) (p := fun i b => W.cells? base (a.add (i * 34)) 34 = some b.arr.toList ∧ (Lit.int .i64 b.turn).wf = true ∧ b.name.length ≤ 9223372036854775807) (fun i hi => by
   obtain ⟨cs', k1, k2⟩ := hel i (by omega)
   obtain ⟨q, rfl, hw⟩ := note_of_trod ht h0 h1 h2 hte he hce hct o0 o1 o2 c0 c2 ct k2
   have hz := note_name_trod ht h0 o0 c0 k2 q rfl
   simp only [maxLen] at hz
   exact ⟨q, k1, hw, by omega⟩)
  have hs := slr_of (W := W) (base := base) (A := some a) (n := len0) (c := cap0) (s := 34) (by decide) (fun i => (bs i).arr.toList) hl hm (fun _ => ⟨a, rfl, fun i hi => (hbs i hi).1⟩)
  refine ⟨some a, len0, cap0, (List.range len0).map bs, rfl, ?_, ?_, .inr ⟨_, _, hx.1, by simp⟩⟩
  ·have hfl : ∀ l : List Nat, l.flatMap (fun i => (bs i).arr.toList) = notesL (l.map bs) := by
    intro l
    induction l with
    | nil => rfl
    | cons x l ih => simp only [List.flatMap_cons, ih, List.map_cons, notesL]
   rw [hfl] at hs
   exact hs
  ·intro q hq
   obtain ⟨i, hi, rfl⟩ := List.mem_map.1 hq
   exact (hbs i (List.mem_range.1 hi)).2
end
end Go.Proofs.YtaebeemnipafbaaGreatDoor

namespace Go.Proofs.YtaebeemnipafbaaGreatDoor.logLooks
open Go.ChangeShapes Go.WideShapes Go.ChangeAt Go.RowKit
theorem own : ownKnob Tryz.prog.godebug = none := by kernel_rfl
theorem laidOut : laidOutB Tryz.prog = true := by kernel_rfl
theorem cellsD : Tryz.prog.cellsOf 32 = 32 := by kernel_rfl
theorem cells8 : Tryz.prog.cellsOf 5 = 1 := by kernel_rfl
set_option maxRecDepth 100000 in
theorem contract (H : Type) (enc : TypeId × Value → H) (W : World) (base : Nat) (args : Array Value) (ds gs : List (DataW H)) (before : List MemPlace)
  (hval : ∀ (j : Nat) t v, Tryz.f4.params[j]? = some t → args[j]? = some v → Value.okWide Tryz.prog W .any base t v)
  (hW : DataW.Whole enc Tryz.prog Tryz.f4.params.toList Rows.logLooksSpec.vars false W args.toList ds gs before) (hT : Tb W) (hE : Eb W)
  (hz : (DataW.weightsEach Tryz.prog (Tryz.f4.params.toList ++ (OpenSpec.ofChange Rows.logLooksSpec).bare.plain.varTypes Tryz.prog) (ds ++ gs)).all (· ≤ reachBytes) = true) :
  Calls Tryz.prog 4 args W fun e W' => ∃ v, e = .returned v ∧ Rows.logLooksSpec.post enc Tryz.prog Tryz.f4 false true false false W args v W' := by
 have hW' := hW
 obtain ⟨p, q, hA0, hV, rfl, hfz, hnd⟩ := hW
 have hA : DataW.TrodAll enc Tryz.prog W 0 (fun _ => true) true Tryz.f4.params.toList args.toList ds p := hA0
 rw [Tryz.params4] at hA hval hz
 obtain ⟨v0, vs0, d0, ds0, p0, q0, hargs, rfl, rfl, h0, r0⟩ := trodAll_cons hA
 obtain ⟨v1, vs1, d1, ds1, p1, q1, rfl, rfl, rfl, h1, r1⟩ := trodAll_cons r0
 obtain ⟨v2, vs2, d2, ds2, p2, q2, rfl, rfl, rfl, h2, r2⟩ := trodAll_cons r1
 obtain ⟨v3, vs3, d3, ds3, p3, q3, rfl, rfl, rfl, h3, r3⟩ := trodAll_cons r2
 obtain ⟨rfl, rfl, rfl⟩ := trodAll_nil r3
 obtain rfl : args = #[v0, v1, v2, v3] := by cases args; simp_all
 obtain ⟨rfl, rfl⟩ := trodVars_none hV
 obtain ⟨A0, n0, c0, a0, rfl, hs0, hd0⟩ := open_bytesS Tryz.underlying22 Tryz.underlying5 cells8 (hval 0 _ v0 rfl rfl) h0
 have hn0 : n0 * 1 ≤ 140737488351232 := by
  rcases hd0 with ⟨_, h0⟩ | ⟨el, sp, rfl, hel⟩
  ·rw [h0]; decide
  ·have := sized_slice hz (j := 0) (e := 5) rfl rfl Tryz.underlying22
   rw [show Tryz.prog.bytesOf 5 = 1 from by kernel_rfl] at this
   have := reach_le this
   rw [← hel]
   omega
 obtain ⟨n1, x1, y1, z1, rfl, wa1⟩ := open_head Tryz.underlying41 Tryz.underlying3 rfl rfl rfl Tryz.underlying32 Tryz.underlying5 cells8 cellsD rfl rfl rfl rfl (by kernel_rfl) (by kernel_rfl) (hval 1 _ v1 rfl rfl) h1
 obtain ⟨b2, rfl, rfl, rfl, ws2⟩ := Go.ChangeMaps.open_string Tryz.underlying9 (hval 2 _ v2 rfl rfl) h2
 obtain ⟨a2, ha2⟩ : ∃ a, b2 = bsOf a := ⟨_, bsOf_eta b2⟩
 subst ha2
 have hn2 : a2.length ≤ 140737488351232 := by
  have h := sized_string hz (j := 2) rfl rfl
  rw [bsOf_list] at h
  have := reach_le (n := a2.length) (b := 1) (by rw [Nat.mul_one]; exact h)
  omega
 obtain ⟨a3, A3, m3, c3, B3, e3, g3, rfl, hs3, ht3, hw3, ha3⟩ := open_found Tryz.underlying46 rfl Tryz.underlying34 Tryz.underlying9 rfl Tryz.underlying3 Tryz.underlying3 rfl rfl Tryz.underlying44 Tryz.underlying32 Tryz.underlying5 cells8 cellsD rfl rfl rfl rfl rfl rfl rfl (by kernel_rfl) (by kernel_rfl) (by kernel_rfl) (by kernel_rfl) (by kernel_rfl) (by kernel_rfl) (hval 3 _ v3 rfl rfl) h3
 have hq3 := found_name Tryz.underlying46 rfl Tryz.underlying34 Tryz.underlying9 rfl rfl (by kernel_rfl) (by kernel_rfl) h3
 have lt0 : ∀ x ∈ p0, x.block < W.heap.size := by obtain ⟨m, hm⟩ := h0; exact DataW.trod_lt m _ _ _ hm
 have lt1 : ∀ x ∈ p1, x.block < W.heap.size := by obtain ⟨m, hm⟩ := h1; exact DataW.trod_lt m _ _ _ hm
 have lt3 : ∀ x ∈ p3, x.block < W.heap.size := by obtain ⟨m, hm⟩ := h3; exact DataW.trod_lt m _ _ _ hm
 clear hA0
 refine (logLooks_any W hT hE a0 A0 n0 c0 hs0 hn0 n1 x1 y1 z1 (wf64 wa1).1 (wf64 wa1).2 a2 hn2 a3 A3 m3 c3 B3 e3 g3 hs3 ht3 (wf64 hw3).1 (wf64 hw3).2 hq3).mono fun e W' ⟨he, hst⟩ => ?_
 have bel := hst.below
 subst he
 exact ⟨_, rfl, _, _, _, [], _, [], hW', trodAll_mk1 (shut_bool Tryz.underlying4 _),
  (trodAll_cons_mk (Below.trod laidOut (by kernel_rfl) (of_decide_eq_true (by kernel_rfl)) h0 bel lt0) (trodAll_cons_mk (Below.trod laidOut (by kernel_rfl) (of_decide_eq_true (by kernel_rfl)) h1 bel lt1) (trodAll_cons_mk (Go.ChangeMaps.shut_string Tryz.underlying9 ws2) (trodAll_cons_mk (Below.trod laidOut (by kernel_rfl) (of_decide_eq_true (by kernel_rfl)) h3 bel lt3) trodAll_mk0)))), rfl, bel.frame _, fun h => by cases h⟩
noncomputable def laidWorld0 (os : Os) : World :=
 { World.holding Tryz.prog os ⟨#[], #[], []⟩ with heap := (World.holding Tryz.prog os ⟨#[], #[], []⟩).heap.modify 1 fun
   | .cells _ t frozen => .cells tblArr t frozen
   | o => o }
noncomputable def laidWorld (os : Os) : World :=
 { laidWorld0 os with heap := (laidWorld0 os).heap.modify 0 fun
   | .cells _ t frozen => .cells #[ebCell] t frozen
   | o => o }
theorem laid_met (os : Os) : laidMetH Tryz.prog Rows.logLooksRow.laid ((laidWorld os).forCall (fun _ _ => 0) ⟨#[], #[.slice none 0 0, .agg (hdCells 0 zeroD zeroD zeroD).toArray, .string ⟨#[]⟩, .agg (fdArr [] zeroD 0 0 none 0 0 none 0 0)], []⟩).memory :=
 laidMetH_of_parts (laidMet_of_run' 8 (by kernel_rfl) (by kernel_rfl)) (by kernel_rfl)
theorem reads (os : Os) {H : Type} (enc : TypeId × Value → H) : ∃ places, DataW.whole enc Tryz.prog ((laidWorld os).forCall (fun _ _ => 0) ⟨#[], #[.slice none 0 0, .agg (hdCells 0 zeroD zeroD zeroD).toArray, .string ⟨#[]⟩, .agg (fdArr [] zeroD 0 0 none 0 0 none 0 0)], []⟩).memory Tryz.f4.params.toList Rows.logLooksSpec.vars false (#[.slice none 0 0, .agg (hdCells 0 zeroD zeroD zeroD).toArray, .string ⟨#[]⟩, .agg (fdArr [] zeroD 0 0 none 0 0 none 0 0)] : Array Value).toList 8 = some ([.nil, .agg [.lit (.int .i64 0), .agg (List.replicate 32 (.lit (.int .u8 0))), .agg (List.replicate 32 (.lit (.int .u8 0))), .agg (List.replicate 32 (.lit (.int .u8 0)))], .lit (.string []), .agg [.agg [.lit (.string []), .agg (List.replicate 32 (.lit (.int .u8 0))), .lit (.int .i64 0)], .lit (.int .i64 0), .nil, .nil]], [], places) :=
 ⟨[], by kernel_rfl⟩
set_option maxRecDepth 100000 in
theorem lifted (os : Os) (started : os.Started) (H : Type) (enc : TypeId × Value → H) (F : Stop.Interp) :
  ReturnsInHanded {} Tryz.checked os 4 .any ((OpenSpec.ofChange Rows.logLooksSpec).preRow enc Tryz.prog Tryz.f4 Rows.logLooksRow.domain false Rows.logLooksRow.laid) (((OpenSpec.ofChange Rows.logLooksSpec).at F).post enc Tryz.prog Tryz.f4 false true false false) := by
 obtain ⟨places, hx⟩ := reads os enc
 refine returnsInHanded_of_row (C := Tryz.checked) (s := (OpenSpec.ofChange Rows.logLooksSpec)) own started (by kernel_rfl) Tryz.func4
  (witness_row_at (enc := enc) (C := Tryz.checked) false (laidWorld os) #[.slice none 0 0, .agg (hdCells 0 zeroD zeroD zeroD).toArray, .string ⟨#[]⟩, .agg (fdArr [] zeroD 0 0 none 0 0 none 0 0)] rfl (by kernel_rfl) (by kernel_rfl) (by kernel_rfl)
   (OpenSpec.preRow_of_cond 8 hx (by kernel_rfl) (fun k hk => by cases hk) (by kernel_rfl) (laid_met os))) ?_
 intro W base args ds gs before hval hW _ _ hz hL _ _
 exact contract H enc W base args ds gs before hval hW (tb_of (show laidMet Tryz.prog [("oathbook/sha.rounds", Rows.laid_oathbook_sha_rounds)] W ∧ handlesMet Tryz.prog [("errors.errorType", Rows.laid_errors_errorType)] W from hL).1) (eb_of (show laidMet Tryz.prog [("oathbook/sha.rounds", Rows.laid_oathbook_sha_rounds)] W ∧ handlesMet Tryz.prog [("errors.errorType", Rows.laid_errors_errorType)] W from hL).2) hz
theorem said : Rows.LogLooksSaid :=
 OpenClaim.holds_of_cond 4 Tryz.f4 rfl rfl rfl rfl rfl rfl rfl ⟨rfl, rfl, rfl, rfl, rfl⟩ rfl rfl rfl rfl rfl (by kernel_rfl) Tryz.func4 (by kernel_rfl)
  (of_decide_eq_true (by kernel_rfl)) (by unfold Func.isWrapper; first | (rw [if_pos (by decide +kernel)]; kernel_rfl) | (rw [if_neg (by decide +kernel)]; exact ⟨rfl, rfl⟩))
  (fun os started H enc _ F => by rw [OpenClaim.pre_eq_preRow]; exact lifted os started H enc F)
theorem plain (f : FuncId) (fn : Func) (hf : Tryz.pinned.checked.prog.funcNamed "oathbook/oathbooklaw3.LogLooks" = some f) (hfn : Tryz.pinned.checked.prog.funcs[f]? = some fn) :
  true = Tryz.pinned.checked.prog.looks [] ∧ ∀ (j : Nat) t, fn.params[j]? = some t → Tryz.pinned.checked.prog.wantsStandIn t = false := by
 obtain rfl : f = 4 := Option.some.inj ((show Tryz.prog.funcNamed "oathbook/oathbooklaw3.LogLooks" = some 4 by kernel_rfl).symm.trans hf) |>.symm
 obtain rfl : fn = Tryz.f4 := (Option.some.inj (Tryz.func4.symm.trans hfn)).symm
 refine ⟨by kernel_rfl, fun j t ht => ?_⟩
 rw [Tryz.params4] at ht
 have hm := Array.mem_of_getElem? ht
 have ha : ∀ t ∈ #[22, 41, 9, 46], Tryz.prog.wantsStandIn t = false := by
  intro t ht
  simp only [List.mem_toArray, List.mem_cons, List.not_mem_nil, or_false] at ht
  rcases ht with rfl | rfl | rfl | rfl <;> kernel_rfl
 exact ha t hm
theorem proved : Rows.LogLooksCardSaid :=
 Claim7.holds_tied_plain_at .later [] _ _ _ _ said (fun _ h => by cases h) (by kernel_rfl) (fun _ h => by cases h) logLooks_row_tie rfl ⟨rfl, rfl⟩ (by kernel_rfl) rfl plain (by kernel_rfl)
#print axioms proved
end Go.Proofs.YtaebeemnipafbaaGreatDoor.logLooks
