/-
  Proved here, ahead of the law: LogLooks: the law returns true for every input, and leaves its arguments as they were.
-/
import Derived.Test.YtaebeemnipafbaaGreatDoorSha
import Derived.Test.YtaebeemnipafbaaGreatDoorSum
import Derived.Test.YtaebeemnipafbaaGreatDoorRefPlain
import Derived.Test.YtaebeemnipafbaaGreatDoorErr
import Derived.Test.YtaebeemnipafbaaGreatDoorMac
import Derived.Test.YtaebeemnipafbaaGreatDoorShelf
import Derived.Test.YtaebeemnipafbaaGreatDoorRefNum
import Derived.Test.YtaebeemnipafbaaGreatDoorRefTurn
import Derived.Test.YtaebeemnipafbaaGreatDoorRefRounds
import Derived.Test.YtaebeemnipafbaaGreatDoorRefPlainB
import Derived.Deep.DeepCutAuto
import Derived.Deep.RegionWith
import Derived.Shelf.GgClosure.StringsIndexFunc
import Derived.Laws.Closers25b
import Derived.Test.YtaebeemnipafbaaGreatDoorOpenB
import Derived.Deep.Strs
import Derived.ChangeSame
import Derived.Test.YtaebeemnipafbaaGreatDoorLaw
import Derived.Test.YtaebeemnipafbaaGreatDoorLawE
import Derived.Test.YtaebeemnipafbaaGreatDoorEl
import Derived.Test.YtaebeemnipafbaaGreatDoorLawB
import Derived.Test.YtaebeemnipafbaaGreatDoorBuildT
import Derived.Test.YtaebeemnipafbaaGreatDoorDigsL
import Derived.Test.YtaebeemnipafbaaGreatDoorLawC
import Derived.Laws.IdiomStrings
import Derived.Test.YtaebeemnipafbaaGreatDoorLawD
import Derived.Test.YtaebeemnipafbaaGreatDoorDrawT
import Derived.Test.YtaebeemnipafbaaGreatDoorLawF
import Derived.Test.YtaebeemnipafbaaGreatDoorSkip
import Derived.Lib.AppendZerosOnto
import Derived.Test.YtaebeemnipafbaaGreatDoorOctet
import Derived.Test.YtaebeemnipafbaaGreatDoorRefWord
import Derived.Test.YtaebeemnipafbaaGreatDoorForkP
set_option maxRecDepth 20000
set_option linter.unusedSimpArgs false
set_option linter.unusedVariables false
namespace Go.Proofs.YtaebeemnipafbaaGreatDoor
def eLeaf (k : Nat) (d : Dig) : Dig := sha (9 :: (bigE 4 k ++ d.l))
def mNode (l r : Dig) : Dig := if l = zeroD ∧ r = zeroD then zeroD else ofN 10 [l, r]
theorem mNode_zero : mNode zeroD zeroD = zeroD := if_pos ⟨rfl, rfl⟩
def leafAt (es : List (Nat × Dig)) (k : Nat) : Dig := match es.find? (fun e => e.1 == k) with | some e => eLeaf k e.2 | none => zeroD
def mRoot (f : Nat → Dig) : Nat → Nat → Dig
 | 0, frm => f frm
 | b + 1, frm => mNode (mRoot f b frm) (mRoot f b (frm + 2 ^ b))
theorem mRoot_s (f : Nat → Dig) (b frm : Nat) : mRoot f (b + 1) frm = mNode (mRoot f b frm) (mRoot f b (frm + 2 ^ b)) := rfl
theorem mRoot_congr {f g : Nat → Dig} : ∀ (b frm : Nat), (∀ k, frm ≤ k → k < frm + 2 ^ b → f k = g k) → mRoot f b frm = mRoot g b frm
 | 0, frm, h => h frm (Nat.le_refl _) (by simp)
 | b + 1, frm, h => by
  have e : 2 ^ (b + 1) = 2 ^ b + 2 ^ b := by rw [Nat.pow_succ]; omega
  rw [mRoot_s, mRoot_s, mRoot_congr b frm (fun k h1 h2 => h k h1 (by omega)), mRoot_congr b (frm + 2 ^ b) (fun k h1 h2 => h k (by omega) (by omega))]
theorem mRoot_none : ∀ (b frm : Nat), mRoot (fun _ => zeroD) b frm = zeroD
 | 0, _ => rfl
 | b + 1, frm => by rw [mRoot_s, mRoot_none b, mRoot_none b, mNode_zero]
theorem mRoot_zero {f : Nat → Dig} {b frm : Nat} (h : ∀ k, frm ≤ k → k < frm + 2 ^ b → f k = zeroD) : mRoot f b frm = zeroD := (mRoot_congr b frm h).trans (mRoot_none b frm)
def sibN (b k : Nat) : Nat := if k / 2 ^ b % 2 = 1 then (k / 2 ^ b - 1) * 2 ^ b else (k / 2 ^ b + 1) * 2 ^ b
def mPath (f : Nat → Dig) (k n : Nat) : List Dig := (List.range n).map fun b => mRoot f b (sibN b k)
theorem length_mPath (f : Nat → Dig) (k n : Nat) : (mPath f k n).length = n := by simp [mPath]
theorem mPath_s (f : Nat → Dig) (k n : Nat) : mPath f k (n + 1) = mPath f k n ++ [mRoot f n (sibN n k)] := by simp [mPath, List.range_succ]
def mFold : Nat → Dig → List Dig → Dig
 | _, l, [] => l
 | k, l, p :: ps => mFold (k / 2) (if k % 2 = 1 then mNode p l else mNode l p) ps
theorem mFold_snoc : ∀ (ps : List Dig) (k : Nat) (l p : Dig), mFold k l (ps ++ [p]) = if k / 2 ^ ps.length % 2 = 1 then mNode p (mFold k l ps) else mNode (mFold k l ps) p
 | [], k, l, p => by simp [mFold]
 | q :: ps, k, l, p => by
  rw [List.cons_append, mFold, mFold_snoc ps, mFold, List.length_cons, Nat.div_div_eq_div_mul, Nat.pow_succ, Nat.mul_comm 2]
theorem half_step (k b : Nat) : k / 2 ^ (b + 1) = k / 2 ^ b / 2 := by rw [Nat.pow_succ, Nat.div_div_eq_div_mul]
theorem mFold_path (f : Nat → Dig) (k : Nat) : ∀ n, mFold k (f k) (mPath f k n) = mRoot f n (k / 2 ^ n * 2 ^ n)
 | 0 => by simp [mFold, mPath, mRoot]
 | n + 1 => by
  rw [mPath_s, mFold_snoc, length_mPath, mFold_path f k n, mRoot_s, half_step, sibN]
  generalize k / 2 ^ n = q
  have e : 2 ^ (n + 1) = 2 * 2 ^ n := by rw [Nat.pow_succ, Nat.mul_comm]
  by_cases h : q % 2 = 1
  ·rw [if_pos h, if_pos h]
   have e1 : q / 2 * 2 ^ (n + 1) = (q - 1) * 2 ^ n := by rw [e, ← Nat.mul_assoc]; congr 1; omega
   have e2 : (q - 1) * 2 ^ n + 2 ^ n = q * 2 ^ n := by rw [← Nat.succ_mul]; congr 1; omega
   rw [e1, e2]
  ·rw [if_neg h, if_neg h]
   have e1 : q / 2 * 2 ^ (n + 1) = q * 2 ^ n := by rw [e, ← Nat.mul_assoc]; congr 1; omega
   rw [e1, ← Nat.succ_mul]
theorem mFold_root (f : Nat → Dig) {k : Nat} (h : k < 2 ^ 32) : mFold k (f k) (mPath f k 32) = mRoot f 32 0 := by
 rw [mFold_path, Nat.div_eq_of_lt h, Nat.zero_mul]
theorem leafAt_nil (k : Nat) : leafAt [] k = zeroD := rfl
theorem leafAt_none {es : List (Nat × Dig)} {k : Nat} (h : ∀ e ∈ es, e.1 ≠ k) : leafAt es k = zeroD := by
 unfold leafAt
 rw [List.find?_eq_none.2 (fun e he => by simpa using h e he)]
theorem leafAt_some {es : List (Nat × Dig)} (hd : (es.map (·.1)).Nodup) {e : Nat × Dig} (he : e ∈ es) : leafAt es e.1 = eLeaf e.1 e.2 := by
 unfold leafAt
 have : es.find? (fun x => x.1 == e.1) = some e := by
  induction es with
  | nil => cases he
  | cons a es ih =>
   rw [List.map_cons, List.nodup_cons] at hd
   rcases List.mem_cons.1 he with rfl | he
   ·simp
   ·have hne : a.1 ≠ e.1 := fun h => hd.1 (by rw [h]; exact List.mem_map.2 ⟨e, he, rfl⟩)
    rw [List.find?_cons_of_neg (by simpa using hne)]
    exact ih hd.2 he
 rw [this]
theorem leafAt_perm {es fs : List (Nat × Dig)} (hd : (es.map (·.1)).Nodup) (hp : es.Perm fs) (k : Nat) : leafAt es k = leafAt fs k := by
 have hd' : (fs.map (·.1)).Nodup := (hp.map _).nodup_iff.1 hd
 by_cases h : ∃ e ∈ es, e.1 = k
 ·obtain ⟨e, he, rfl⟩ := h
  rw [leafAt_some hd he, leafAt_some hd' (hp.mem_iff.1 he)]
 ·rw [leafAt_none (fun e he hk => h ⟨e, he, hk⟩), leafAt_none (fun e he hk => h ⟨e, hp.mem_iff.2 he, hk⟩)]
theorem leafAt_filter (es : List (Nat × Dig)) (q : Nat → Bool) {k : Nat} (hk : q k = true) : leafAt (es.filter fun e => q e.1) k = leafAt es k := by
 unfold leafAt
 rw [List.find?_filter]
 congr 2
 funext e
 by_cases h : e.1 = k
 ·rw [h, hk]; simp
 ·simp [h]
theorem cut_low : ∀ (es : List (Nat × Dig)) (mid : Nat), es.Pairwise (fun a b => a.1 < b.1) → es.take (es.findIdx fun e => decide (mid ≤ e.1)) = es.filter fun e => decide (e.1 < mid)
 | [], _, _ => rfl
 | e :: es, mid, h => by
  obtain ⟨h1, h2⟩ := List.pairwise_cons.1 h
  rw [List.findIdx_cons]
  by_cases hm : mid ≤ e.1
  ·have : ∀ x ∈ e :: es, ¬ decide (x.1 < mid) = true := fun x hx => by
    rcases List.mem_cons.1 hx with rfl | hx
    ·simp; omega
    ·have := h1 x hx; simp; omega
   rw [List.filter_eq_nil_iff.2 this]
   simp [hm]
  ·have ih := cut_low es mid h2
   simp [hm, ih]
   rw [List.filter_cons_of_pos (by simp; omega)]
theorem cut_high : ∀ (es : List (Nat × Dig)) (mid : Nat), es.Pairwise (fun a b => a.1 < b.1) → es.drop (es.findIdx fun e => decide (mid ≤ e.1)) = es.filter fun e => decide (mid ≤ e.1)
 | [], _, _ => rfl
 | e :: es, mid, h => by
  obtain ⟨h1, h2⟩ := List.pairwise_cons.1 h
  rw [List.findIdx_cons]
  by_cases hm : mid ≤ e.1
  ·have : ∀ x ∈ e :: es, decide (mid ≤ x.1) = true := fun x hx => by
    rcases List.mem_cons.1 hx with rfl | hx
    ·simp; omega
    ·have := h1 x hx; simp; omega
   rw [List.filter_eq_self.2 this]
   simp [hm]
  ·have ih := cut_high es mid h2
   simp [hm, ih]
theorem mRoot_empty (b frm : Nat) : mRoot (leafAt []) b frm = zeroD := mRoot_zero (fun _ _ _ => rfl)
theorem mRoot_halves (es : List (Nat × Dig)) (b frm : Nat) : mRoot (leafAt es) (b + 1) frm = mNode (mRoot (leafAt (es.filter fun e => decide (e.1 < frm + 2 ^ b))) b frm) (mRoot (leafAt (es.filter fun e => decide (frm + 2 ^ b ≤ e.1))) b (frm + 2 ^ b)) := by
 rw [mRoot_s]
 congr 1
 ·exact mRoot_congr b frm (fun k h1 h2 => (leafAt_filter es (fun x => decide (x < frm + 2 ^ b)) (decide_eq_true h2)).symm)
 ·exact mRoot_congr b _ (fun k h1 h2 => (leafAt_filter es (fun x => decide (frm + 2 ^ b ≤ x)) (decide_eq_true h1)).symm)
end Go.Proofs.YtaebeemnipafbaaGreatDoor

set_option maxRecDepth 20000
set_option linter.unusedSimpArgs false
set_option linter.unusedVariables false
namespace Go.Proofs.YtaebeemnipafbaaGreatDoor
open Go.RowKit
def stepN (d : Dig) : Dig := ofN 8 [d]
def walkN (d : Dig) : Nat → Dig
 | 0 => d
 | n + 1 => stepN (walkN d n)
theorem walkN_add (d : Dig) (m n : Nat) : walkN (walkN d m) n = walkN d (m + n) := by
 induction n with
 | zero => rfl
 | succ n ih => rw [walkN, ih]; rfl
theorem digsL_single (d : Dig) : digsL [d] = d.arr.toList := by rw [Dig.toList]; simp [digsL]
theorem eqG_D : Tryz.prog.eqGuardType Tryz.prog.depth 32 = false := by kernel_rfl
end Go.Proofs.YtaebeemnipafbaaGreatDoor

set_option maxRecDepth 20000
set_option linter.unusedSimpArgs false
set_option linter.unusedVariables false
namespace Go.Proofs.YtaebeemnipafbaaGreatDoor
open Go.RowKit
def nodeN (l r : Dig) : Dig := ofN 1 [l, r]
def halfN (n : Nat) : Nat := 2 ^ Nat.log2 (n - 1)
theorem halfN_pos (n : Nat) : 0 < halfN n := Nat.two_pow_pos _
theorem halfN_lt (n : Nat) (h : 2 ≤ n) : halfN n < n := by
 have := Nat.log2_self_le (n := n - 1) (by omega)
 unfold halfN
 omega
theorem halfN_of {k n : Nat} (j : Nat) (hj : k = 2 ^ j) (h1 : k < n) (h2 : n ≤ 2 * k) : halfN n = k := by
 subst hj
 unfold halfN
 have : Nat.log2 (n - 1) = j := by
  have h3 : n - 1 ≠ 0 := by have := Nat.two_pow_pos j; omega
  rw [Nat.log2_eq_iff h3, Nat.pow_succ]
  omega
 rw [this]
def rootN (ls : List Dig) : Dig :=
 if _h : ls.length < 2 then
  match ls with
  | [] => sha []
  | d :: _ => d
 else nodeN (rootN (ls.take (halfN ls.length))) (rootN (ls.drop (halfN ls.length)))
termination_by ls.length
decreasing_by
 ·have := halfN_lt ls.length (by omega)
  rw [List.length_take]
  omega
 ·have := halfN_pos ls.length
  rw [List.length_drop]
  omega
theorem rootN_nil : rootN [] = sha [] := by rw [rootN]; rfl
theorem rootN_one (d : Dig) : rootN [d] = d := by rw [rootN]; rfl
theorem rootN_more (ls : List Dig) (h : 2 ≤ ls.length) : rootN ls = nodeN (rootN (ls.take (halfN ls.length))) (rootN (ls.drop (halfN ls.length))) := by
 rw [rootN, dif_neg (by omega)]
theorem digsL_cut (ls : List Dig) (lo n : Nat) : ((digsL ls).drop (lo * 32)).take (n * 32) = digsL ((ls.drop lo).take n) := by
 have hd : ∀ (l : List Dig) (k : Nat), (digsL l).drop (k * 32) = digsL (l.drop k) := fun l k => by
  induction k generalizing l with
  | zero => simp
  | succ k ih =>
   cases l with
   | nil => simp [digsL]
   | cons d l =>
    have h : digsL (d :: l) = bytesL d.l ++ digsL l := by simp [digsL]
    have e : (k + 1) * 32 = (bytesL d.l).length + k * 32 := by rw [length_bytesL, d.h]; omega
    rw [h, e, ← List.drop_drop, List.drop_left, ih]
    rfl
 have ht : ∀ (l : List Dig) (k : Nat), (digsL l).take (k * 32) = digsL (l.take k) := fun l k => by
  induction k generalizing l with
  | zero => simp [digsL]
  | succ k ih =>
   cases l with
   | nil => simp [digsL]
   | cons d l =>
    have h : ∀ l, digsL (d :: l) = bytesL d.l ++ digsL l := fun l => by simp [digsL]
    have e : (k + 1) * 32 = (bytesL d.l).length + k * 32 := by rw [length_bytesL, d.h]; omega
    rw [h, e, List.take_length_add_append, ih, List.take_succ_cons, h]
 rw [hd, ht]
set_option maxHeartbeats 1000000 in
theorem node_any (l r : Dig) (w : World) (hT : Tb w) : Calls Tryz.prog 99 #[l.v, r.v] w fun e w' => e = .returned (nodeN l r).v ∧ St w w' [] := by
 have hst := St.refl w
 have HT := Lib.hid hT
 have hd : digsL [l, r] = l.arr.toList ++ r.arr.toList := by simp [digsL, Dig.toList]
 have HD := Lib.hid hd
 clear hT hd
 go_enter Tryz.func99, Tryz.ntmps99
 go_wp2_with (first | (go_at_call 126; (try clear hnew); refine (of_any 1 [l, r] _ _ _ _ (HT.out.of hst) (by rw [HD.out]; exact hst.sl 0 rfl) (by decide)).mono ?_; rintro e W8 ⟨rfl, hnew⟩; replace hst := hst.keep hnew) | (refine L_boxA (d := some 2) rfl rfl rfl (ev_tmp rfl) ?_; (try clear hnew); intro g2 W2 hnew; replace hst := hst.trans hnew; simp only [List.cons_append, List.nil_append] at hst) | (refine L_boxA (d := some 3) rfl rfl rfl (ev_tmp rfl) ?_; (try clear hnew); intro g3 W3 hnew; replace hst := hst.trans hnew; simp only [List.cons_append, List.nil_append] at hst) | (refine L_allocA (d := some 4) rfl rfl rfl el_api_Digest ?_; (try clear hnew); intro g4 W4 hnew; replace hst := hst.trans hnew; simp only [List.cons_append, List.nil_append] at hst) | ((refine L_loadA (d := some 5) rfl rfl rfl (by rfl) Tryz.underlying32 rfl el_api_Digest (by (exact hst.get 2 rfl)) (by (exact Dig.size _)) ?_)) | ((refine L_loadA (d := some 6) rfl rfl rfl (by rfl) Tryz.underlying32 rfl el_api_Digest (by (exact hst.get 1 rfl)) (by (exact Dig.size _)) ?_)) | (refine L_buildS (d := some 7) rfl rfl rfl [_, _] (bs_2 (ev_tmp rfl) (ev_tmp rfl)) rfl Tryz.underlying44 el_api_Digest rfl (by (simp [Value.cells, Dig.size]; done)) (by decide) (by decide) ?_; (try clear hnew); intro g7 W7 hnew; replace hst := hst.trans hnew; simp only [List.cons_append, List.nil_append] at hst; simp only [List.flatMap_cons, List.flatMap_nil, List.append_nil, Value.cells, List.toList_toArray] at hst) | (refine wpl_at (.store 32 (.tmp 4) (.tmp 8)) rfl ?_; (refine L_storeA rfl rfl hst rfl (by rfl) (ev_tmp rfl) (by (exact Dig.one _)) el_api_Digest (by (rfl)) 1 rfl (by (rfl)) ?_; clear hst; intro WS4 hst; simp only [List.set_cons_zero, List.set_cons_succ] at hst)))
 refine bp_cell rfl rfl rfl (hst.get 1 rfl) Tryz.underlying32 rfl el_api_Digest (by (rfl)) ?_
 exact ⟨rfl, hst.forget⟩
theorem bitLen_log : ∀ n : Fin 256, n.val ≠ 0 → Lib.bitLen n.val = Nat.log2 n.val + 1 := by decide +kernel
theorem half_shl : ∀ n : Fin 257, 2 ≤ n.val → 1 ≤ Lib.bitLen (n.val - 1) ∧ Lib.bitLen (n.val - 1) ≤ 8 ∧ wrap64 ((2 : Int) ^ (Lib.bitLen (n.val - 1) - 1)) = (halfN n.val : Int) := by decide +kernel
set_option maxHeartbeats 1000000 in
theorem half_any (n : Nat) (h2 : 2 ≤ n) (hn : n ≤ 256) (w : World) : Calls Tryz.prog 91 #[.int .i64 (n : Int)] w fun e w' => e = .returned (.int .i64 (halfN n : Int)) ∧ St w w' [] := by
 have hst := St.refl w
 obtain ⟨hb1, hb8, hh⟩ := half_shl ⟨n, by omega⟩ h2
 have Hh := Lib.hid hh
 have hx : ((n : Int) - 1).toNat = n - 1 := by omega
 simp only at hb1 hb8 hx
 clear hh
 go_enter Tryz.func91, Tryz.ntmps91
 go_wp2_with ((go_at_call 125; refine (Tryz.bits_Len _ _ (by omega) (by omega)).mono ?_; rintro e W6 ⟨rfl, rfl⟩; rw [hx]))
 rw [Hh.out]
 go_ret
 exact ⟨rfl, hst⟩
set_option maxHeartbeats 2000000 in
theorem root_any : ∀ (n : Nat) (ls : List Dig) (A : Option Addr) (c : Nat) (w : World), Tb w → SlR w A n c 32 (digsL ls) → n ≤ 256 →
  Calls Tryz.prog 83 #[.slice A n c] w fun e w' => e = .returned (rootN ls).v ∧ St w w' [] := by
 intro n
 induction n using Nat.strongRecOn with
 | ind n ih =>
 intro ls A c w hT hx hn
 have hst := St.refl w
 have HT := Lib.hid hT
 have hl : ls.length = n := by have := hx.1; rw [length_digsL] at this; omega
 have hcap := hx.2.1
 clear hT
 by_cases h0 : n = 0
 ·subst h0
  obtain rfl : ls = [] := List.eq_nil_of_length_eq_zero hl
  go_enter Tryz.func83, Tryz.ntmps83
  go_wp2_with (first | (go_at_call 80; (try clear hnew); refine (ssum_any [] none 0 0 _ (HT.out.of hst) (SlR.nil_ _ 1) (by decide)).mono ?_; rintro e W8 ⟨rfl, hnew⟩; replace hst := hst.keep hnew) | (refine L_allocA (d := some 2) rfl rfl rfl el_api_Digest ?_; (try clear hnew); intro g2 W2 hnew; replace hst := hst.trans hnew; simp only [List.cons_append, List.nil_append] at hst) | (refine wpl_at (.store 32 (.tmp 2) (.tmp 8)) rfl ?_; (refine L_storeA rfl rfl hst rfl (by rfl) (ev_tmp rfl) (by (exact Dig.one _)) el_api_Digest (by (rfl)) 0 rfl (by (rfl)) ?_; clear hst; intro WS1 hst; simp only [List.set_cons_zero, List.set_cons_succ] at hst)))
  rw [rootN_nil]
  refine bp_cell rfl rfl rfl (hst.get 0 rfl) Tryz.underlying32 rfl el_api_Digest (by (rfl)) ?_
  exact ⟨rfl, hst.forget⟩
 ·by_cases h1 : n = 1
  ·subst h1
   obtain ⟨d, rfl⟩ : ∃ d, ls = [d] := by
    match ls, hl with
    | [d], _ => exact ⟨d, rfl⟩
   have HL := Lib.hid (show ((digsL [d]).drop ((0 : Int).toNat * 32)).take 32 = d.arr.toList by rw [digsL_single]; exact List.take_of_length_le (by simp [Dig.size]))
   go_enter Tryz.func83, Tryz.ntmps83
   go_wp2_with (first | (refine L_loadM (d := some 13) rfl rfl rfl (by rfl) Tryz.underlying32 rfl el_api_Digest (cs := d.arr) (by rw [← HL.out]; exact hr12) (Dig.size _) ?_) | (refine L_allocA (d := some 2) rfl rfl rfl el_api_Digest ?_; (try clear hnew); intro g2 W2 hnew; replace hst := hst.trans hnew; simp only [List.cons_append, List.nil_append] at hst) | (refine L_idxS (d := some 12) rfl rfl rfl (by rfl) (by rfl) Tryz.underlying44 el_api_Digest (by (exact hst.old (by decide) (by assumption))) (by omega) (by omega) ?_; intro o12 p12 ha12 hr12; ((subst ha12))) | (refine wpl_at (.store 32 (.tmp 2) (.tmp 13)) rfl ?_; (refine L_storeA rfl rfl hst rfl (by rfl) (ev_tmp rfl) (by (exact Dig.one _)) el_api_Digest (by (exact Dig.size _)) 0 rfl (by (rfl)) ?_; clear hst; intro WS3 hst; simp only [List.set_cons_zero, List.set_cons_succ] at hst)))
   rw [rootN_one]
   refine bp_cell rfl rfl rfl (hst.get 0 rfl) Tryz.underlying32 rfl el_api_Digest (by (exact Dig.size _)) ?_
   exact ⟨rfl, hst.forget⟩
  ·have hlt := halfN_lt n (by omega)
   have hps := halfN_pos n
   have HN := Lib.hid (show nodeN (rootN (ls.take (halfN n))) (rootN (ls.drop (halfN n))) = rootN ls by rw [rootN_more ls (by omega), hl])
   have H1 := Lib.hid (show ((digsL ls).drop (0 * 32)).take ((halfN n - 0) * 32) = digsL (ls.take (halfN n)) by rw [digsL_cut]; rfl)
   have H2 := Lib.hid (show ((digsL ls).drop (halfN n * 32)).take ((n - halfN n) * 32) = digsL (ls.drop (halfN n)) by rw [digsL_cut, List.take_of_length_le (by rw [List.length_drop]; omega)])
   have h0' : ¬ (n : Int) = 0 := by omega
   have h1' : ¬ (n : Int) = 1 := by omega
   have HF := Lib.hid (fun w => half_any n (by omega) (by omega) w)
   generalize halfN n = k at *
   go_enter Tryz.func83, Tryz.ntmps83
   go_wp2_with (first | (go_at_call 91; refine (HF.out _).mono ?_; rintro e W16 ⟨rfl, hnew⟩; replace hst := hst.keep hnew; clear hnew) | (refine L_allocA (d := some 2) rfl rfl rfl el_api_Digest ?_; (try clear hnew); intro g2 W2 hnew; replace hst := hst.trans hnew; simp only [List.cons_append, List.nil_append] at hst))
   clear hnew h0' h1'
   refine wp_region_idx [(0, 0), (1, 0), (2, 0), (4, 0), (5, 0), (6, 0), (3, 2), (7, 2), (8, 2), (9, 1)] (by kernel_rfl) (by kernel_rfl) ?_
   replace hst := hst.drew
   refine idx_q rfl rfl ?_; go_wp2_with fail
   refine idx_q rfl rfl ?_; go_wp2_with fail
   refine idx_q rfl rfl ?_; go_wp2_with (((refine L_cutS (d := some 19) rfl rfl rfl (by rfl) Tryz.underlying44 el_api_Digest (by decide) (by (exact hst.old (by decide) hx)) 0 k _ (Or.inl ⟨rfl, rfl⟩) (Or.inr ⟨_, _, rfl, by (exact ev_tmp rfl)⟩) (Or.inl ⟨rfl, rfl⟩) (by omega) (by omega) (by omega) (by omega) ?_; intro A19 c19 hs19)))
   refine idx_q rfl rfl ?_; go_wp2_with fail
   refine idx_q rfl rfl ?_; go_wp2_with fail
   refine idx_q rfl rfl ?_; go_wp2_with (((refine L_cutS (d := some 23) rfl rfl rfl (by rfl) Tryz.underlying44 el_api_Digest (by decide) (by (exact hst.old (by decide) hx)) k n _ (Or.inr ⟨_, _, rfl, by (exact ev_tmp rfl)⟩) (Or.inl ⟨rfl, rfl, rfl⟩) (Or.inl ⟨rfl, rfl⟩) (by omega) (by omega) (by omega) (by omega) ?_; intro A23 c23 hs23)))
   refine idx_g rfl ?_; go_wp2_with ((go_at_call_of 83 (Value.slice A19 k c19); (try clear hnew); refine (ih k hlt (ls.take k) A19 c19 _ (HT.out.of hst) (by rw [← H1.out]; exact hs19) (by omega)).mono ?_; rintro e W20 ⟨rfl, hnew⟩; replace hst := hst.keep hnew)); refine ⟨by (exact hnew.below), ?_⟩
   refine idx_g rfl ?_; go_wp2_with ((go_at_call_of 83 (Value.slice A23 (n - k) c23); refine (ih (n - k) (by omega) (ls.drop k) A23 c23 _ (HT.out.of hst) (by rw [← H2.out]; exact hnew.old (by decide) hs23) (by omega)).mono ?_; clear hnew; rintro e W24 ⟨rfl, hnew⟩; replace hst := hst.keep hnew)); refine ⟨by (exact hnew.below), ?_⟩
   refine idx_g rfl ?_; go_wp2_with ((go_at_call 99; (try clear hnew); with_reducible refine (node_any _ _ _ (HT.out.of hst)).mono ?_; rintro e W25 ⟨rfl, hnew⟩; replace hst := hst.keep hnew)); refine ⟨by (exact hnew.below), ?_⟩
   refine idx_e rfl ?_; go_wp2_with ((refine wpl_at (.store 32 (.tmp 2) (.tmp 25)) rfl ?_; (refine L_storeA rfl rfl hst rfl (by rfl) (ev_tmp rfl) (by (exact Dig.one _)) el_api_Digest (by (rfl)) 0 rfl (by (rfl)) ?_; clear hst; intro WS9 hst; simp only [List.set_cons_zero, List.set_cons_succ] at hst)))
   refine idx_nil ?_
   rw [HN.out] at hst
   go_wp2_with fail
   refine bp_cell rfl rfl rfl (hst.get 0 rfl) Tryz.underlying32 rfl el_api_Digest (by (exact Dig.size _)) ?_
   exact ⟨rfl, hst.forget⟩
set_option maxHeartbeats 1000000 in
theorem tRoot_any (ls : List Dig) (A : Option Addr) (n c : Nat) (w : World) (hT : Tb w) (hx : SlR w A n c 32 (digsL ls)) (hn : n ≤ 256) :
  Calls Tryz.prog 38 #[.slice A n c] w fun e w' => e = .returned (.tuple #[(rootN ls).v, .nilIface]) ∧ St w w' [] := by
 have hst := St.refl w
 have HT := Lib.hid hT
 have h1 : ¬ (256 : Int) < (n : Int) := by omega
 clear hT
 go_enter Tryz.func38, Tryz.ntmps38
 go_wp2_with (first | (go_at_call 83; (try clear hnew); with_reducible refine (root_any _ ls _ _ _ (HT.out.of hst) (hst.old (by decide) hx) hn).mono ?_; rintro e W10 ⟨rfl, hnew⟩; replace hst := hst.keep hnew) | (refine L_allocA (d := some 2) rfl rfl rfl el_api_Digest ?_; (try clear hnew); intro g2 W2 hnew; replace hst := hst.trans hnew; simp only [List.cons_append, List.nil_append] at hst) | (refine wpl_at (.store 32 (.tmp 2) (.tmp 10)) rfl ?_; (refine L_storeA rfl rfl hst rfl (by rfl) (ev_tmp rfl) (by (exact Dig.one _)) el_api_Digest (by (exact Dig.size _)) 0 rfl (by (rfl)) ?_; clear hst; intro WS2 hst; simp only [List.set_cons_zero, List.set_cons_succ] at hst)))
 refine bp_cell_tmp rfl rfl rfl rfl (hst.get 0 rfl) Tryz.underlying32 rfl el_api_Digest (by (exact Dig.size _)) ?_
 exact ⟨rfl, hst.forget⟩
theorem tRoot_no (A : Option Addr) (n c : Nat) (w : World) (hn : 256 < n) :
  Calls Tryz.prog 38 #[.slice A n c] w fun e w' => e = .returned (.tuple #[zeroD.v, errV 4]) ∧ St w w' [] := by
 have hst := St.refl w
 have h1 : (256 : Int) < (n : Int) := by omega
 go_enter Tryz.func38, Tryz.ntmps38
 go_wp2_with (first | (refine L_allocA (d := some 2) rfl rfl rfl el_api_Digest ?_; (try clear hnew); intro g2 W2 hnew; replace hst := hst.trans hnew; simp only [List.cons_append, List.nil_append] at hst) | (refine L_build0 (d := some 7) rfl rfl rfl Tryz.underlying32 el_uint8 el_api_Digest ?_) | (refine wpl_at (.store 32 (.tmp 2) (.tmp 7)) rfl ?_; (refine L_storeA rfl rfl hst rfl (by rfl) (ev_tmp rfl) (by (exact Dig.one _)) el_api_Digest (by (rfl)) 0 rfl (by (rfl)) ?_; clear hst; intro WS2 hst; simp only [List.set_cons_zero, List.set_cons_succ] at hst)))
 refine bp_cell_tmp rfl rfl rfl rfl (hst.get 0 rfl) Tryz.underlying32 rfl el_api_Digest (by (rfl)) ?_
 exact ⟨rfl, hst.forget⟩
end Go.Proofs.YtaebeemnipafbaaGreatDoor

set_option maxRecDepth 20000
set_option linter.unusedSimpArgs false
set_option linter.unusedVariables false
namespace Go.Proofs.YtaebeemnipafbaaGreatDoor
open Go.RowKit
theorem cell_of_range1 {W : World} {g off : Nat} {i : Int} {k : Nat} {xs : List Value} {v : Value} (h : W.rangeAt g (off + i.toNat * 1) ((xs.drop (i.toNat * 1)).take 1)) (hk : i.toNat = k) (hv : xs[k]? = some v) : W.cell? ⟨g, off + i.toNat * 1, none⟩ = some v := by
 have := h 0 v (by rw [List.getElem?_take, if_pos (by omega), List.getElem?_drop, hk]; simpa using hv)
 simpa using this
set_option maxHeartbeats 2000000 in
set_option maxRecDepth 100000 in
theorem rblock_any (s : S8) (b : List UInt8) (tb : List Value) (htb : Hid (∀ t, t < 64 → tb[t]? = some (iW (tbl t)))) (A B C : Option Addr) (ca cb cc : Nat) (w : World) (hA : SlR w A 8 ca 1 s.ints) (hB : SlR w B 64 cb 1 tb) (hC : SlR w C 64 cc 1 (bytesL b)) :
  Calls Tryz.prog 117 #[.slice A 8 ca, .slice B 64 cb, .slice C 64 cc] w fun e w' => ∃ D c, e = .returned (.slice D 8 c) ∧ St w w' [.row D 8 c 3 1 (blockS s b).ints] := by
 have hst := St.refl w
 have hl := hC.1
 rw [length_bytesL, Nat.mul_one] at hl
 have Hl := Lib.hid hl
 clear hl
 have hcap := hC.2.1
 go_enter Tryz.func117, Tryz.ntmps117
 go_wp2_with ((refine L_makeS (d := some 21) (n := 64) rfl rfl rfl (by rfl) (by rfl) Tryz.underlying183 el_int rfl (by omega) (by (decide)) ?_; (try clear hnew); intro g21 W21 hnew; replace hst := hst.trans hnew; simp only [List.cons_append, List.nil_append] at hst))
 have hst : St w W21 [.row g21 64 64 3 1 (wRow b 0)] := by rw [wRow_start]; exact hst
 go_loopg [8] 64 (fun gk s8 wr => ∃ t : Nat, Hid (t + gk = 64) ∧ s8 = .int .i64 (t : Int) ∧ St w wr [.row g21 64 64 3 1 (wRow b t)])
 case atStart => exact ⟨0, Lib.hid rfl, rfl, hst⟩
 case round =>
  clear hst
  obtain ⟨t, HT, rfl, hst⟩ := hrel
  have ht := HT.out
  by_cases h16 : t < 16
  ·clear ht
   have HS := Lib.hid (wRow_set b t (by omega) (word b t) (by rw [sched, if_pos h16]))
   have HN := Lib.hid (natE_word b t (by rw [Hl.out]; omega))
   have HX := Lib.hid (show ((bytesL b).drop (4 * t * 1)).take ((4 * t + 4 - 4 * t) * 1) = bytesL ((b.drop (4 * t)).take 4) by rw [bytesL_cut, show 4 * t + 4 - 4 * t = 4 by omega])
   go_wp2_with (first | (go_at_call 77; refine (rnum_any ((b.drop (4 * t)).take 4) A37 4 c37 _ (by rw [← HX.out]; simpa using hs37) (by decide) (by decide)).mono ?_; rintro e W38 ⟨rfl, hnew⟩; rw [HN.out]; replace hst := hst.keep hnew; clear hnew) | ((refine L_cutS (d := some 37) rfl rfl rfl (by rfl) Tryz.underlying22 el_uint8 (by decide) (by (exact hst.old (by decide) hC)) (4*t) (4*t+4) _ (Or.inr ⟨_, _, rfl, by (exact ev_tmp rfl)⟩) (Or.inr ⟨_, _, rfl, by (exact ev_tmp rfl)⟩) (Or.inl ⟨rfl, rfl⟩) (by omega) (by omega) (by omega) (by omega) ?_; intro A37 c37 hs37)) | ((refine L_idxO (d := some 41) rfl rfl hst rfl (by rfl) (by rfl) Tryz.underlying183 el_int 0 rfl (by (rfl)) (by omega) (by omega) ?_; intro o41 p41 ha41; ((subst ha41)))) | (refine wpl_at (.store 3 (.tmp 41) (.tmp 39)) rfl ?_; (refine L_storeR rfl rfl hst rfl (by rfl) (ev_tmp rfl) rfl el_int 0 rfl (by (omega)) ?_; clear hst; intro WS14 hst; simp only [List.set_cons_zero, List.set_cons_succ] at hst)))
   go_roundg (gk - 1)
   case measure => have ht := HT.out; omega
   case rel =>
    have ht := HT.out
    refine ⟨t + 1, Lib.hid (by omega), by go_num, ?_⟩
    rw [← HS.out]
    simpa using hst
  ·by_cases hlt : t < 64
   ·clear ht
    have hnx := wRow_set b t hlt (nextW (sched b t)) (by rw [sched, if_neg h16])
    have hls := length_sched b t
    unfold nextW sig0 sig1 at hnx
    rw [hls] at hnx
    have HS := Lib.hid hnx
    have h15 := wRow_at b t (t - 15) (by omega)
    have h2 := wRow_at b t (t - 2) (by omega)
    have h7 := wRow_at b t (t - 7) (by omega)
    have h0 := wRow_at b t (t - 16) (by omega)
    have H15 := Lib.hid h15
    have H2 := Lib.hid h2
    have H7 := Lib.hid h7
    have H0 := Lib.hid h0
    clear hnx hls h15 h2 h7 h0
    generalize (sched b t).getD (t - 15) zW = x at *
    generalize (sched b t).getD (t - 2) zW = y at *
    generalize (sched b t).getD (t - 7) zW = w7 at *
    generalize (sched b t).getD (t - 16) zW = w0 at *
    have hxor := iw_xor
    have hs3 : ∀ x : Wd, (x.n : Int) / 8 = ((x.shr 3).n : Int) := fun x => iw_shr x 3
    have hs10 : ∀ x : Wd, (x.n : Int) / 1024 = ((x.shr 10).n : Int) := fun x => iw_shr x 10
    go_wp2_with (first | (refine L_load1 (d := some 46) rfl rfl rfl (by rfl) Tryz.underlying3 rfl (cell_of_range1 hr45 (k := t - 15) (by omega) H15.out) ?_) | (refine L_load1 (d := some 51) rfl rfl rfl (by rfl) Tryz.underlying3 rfl (cell_of_range1 hr50 (k := t - 2) (by omega) H2.out) ?_) | (go_at_call_of 139 (Value.int .i64 7); refine (rturn_any x 7 (by decide) (by decide) _).mono ?_; rintro e W38 ⟨rfl, hnew⟩; replace hst := hst.keep hnew; clear hnew) | (go_at_call_of 139 (Value.int .i64 18); refine (rturn_any x 18 (by decide) (by decide) _).mono ?_; rintro e W38 ⟨rfl, hnew⟩; replace hst := hst.keep hnew; clear hnew) | (go_at_call_of 139 (Value.int .i64 17); refine (rturn_any y 17 (by decide) (by decide) _).mono ?_; rintro e W38 ⟨rfl, hnew⟩; replace hst := hst.keep hnew; clear hnew) | (go_at_call_of 139 (Value.int .i64 19); refine (rturn_any y 19 (by decide) (by decide) _).mono ?_; rintro e W38 ⟨rfl, hnew⟩; replace hst := hst.keep hnew; clear hnew) | (refine L_idxS (d := some 45) rfl rfl rfl (by rfl) (by rfl) Tryz.underlying183 el_int (by (exact hst.sl 0 rfl)) (by omega) (by omega) ?_; intro o45 p45 ha45 hr45; ((subst ha45))) | (refine L_idxS (d := some 50) rfl rfl rfl (by rfl) (by rfl) Tryz.underlying183 el_int (by (exact hst.sl 0 rfl)) (by omega) (by omega) ?_; intro o50 p50 ha50 hr50; ((obtain ⟨h1, h2⟩ := some_addr ha50; subst h1; subst h2; clear ha50))))
    clear hxor hs3 hs10 hr45 hr50
    generalize ((y.rot 17).xor (y.rot 19)).xor (y.shr 10) = s1 at *
    generalize ((x.rot 7).xor (x.rot 18)).xor (x.shr 3) = s0 at *
    have b1 := s1.h
    have b2 := s0.h
    have b3 := w7.h
    have b4 := w0.h
    have hsum := iw_sum4 s1 w7 s0 w0
    refine wp_region_idx [(0, 0), (1, 0), (2, 0), (3, 0), (4, 0), (5, 0), (6, 0), (7, 0), (8, 0), (9, 0), (10, 0), (11, 0), (12, 2), (13, 2), (14, 2), (15, 2), (16, 2), (17, 2), (18, 2), (19, 1)] (by kernel_rfl) (by kernel_rfl) ?_
    replace hst := hst.drew
    refine idx_q rfl rfl ?_; go_wp2_with fail
    refine idx_q rfl rfl ?_; go_wp2_with fail
    refine idx_q rfl rfl ?_; go_wp2_with fail
    refine idx_q rfl rfl ?_; go_wp2_with fail
    refine idx_q rfl rfl ?_; go_wp2_with fail
    refine idx_q rfl rfl ?_; go_wp2_with fail
    refine idx_q rfl rfl ?_; go_wp2_with ((refine L_idxS (d := some 74) rfl rfl rfl (by rfl) (by rfl) Tryz.underlying183 el_int (by (exact hst.sl 0 rfl)) (by omega) (by omega) ?_; intro o74 p74 ha74 hr74; ((obtain ⟨h1, h2⟩ := some_addr ha74; subst h1; subst h2; clear ha74))))
    refine idx_q rfl rfl ?_; go_wp2_with ((refine L_load1 (d := some 75) rfl rfl rfl (by rfl) Tryz.underlying3 rfl (cell_of_range1 hr74 (k := t - 7) (by omega) H7.out) ?_))
    refine idx_q rfl rfl ?_; go_wp2_with fail
    refine idx_q rfl rfl ?_; go_wp2_with fail
    refine idx_q rfl rfl ?_; go_wp2_with fail
    refine idx_q rfl rfl ?_; go_wp2_with fail
    refine idx_g rfl ?_; go_wp2_with fail; refine ⟨by (exact Below.refl _ _), ?_⟩
    refine idx_g rfl ?_; go_wp2_with fail; refine ⟨by (exact Below.refl _ _), ?_⟩
    refine idx_g rfl ?_; go_wp2_with ((refine L_idxS (d := some 82) rfl rfl rfl (by rfl) (by rfl) Tryz.underlying183 el_int (by (exact hst.sl 0 rfl)) (by omega) (by omega) ?_; intro o82 p82 ha82 hr82; ((obtain ⟨h1, h2⟩ := some_addr ha82; subst h1; subst h2; clear ha82)))); refine ⟨by (exact Below.refl _ _), ?_⟩
    refine idx_g rfl ?_; go_wp2_with ((refine L_load1 (d := some 83) rfl rfl rfl (by rfl) Tryz.underlying3 rfl (cell_of_range1 hr82 (k := t - 16) (by omega) H0.out) ?_)); refine ⟨by (exact Below.refl _ _), ?_⟩
    refine idx_g rfl ?_; go_wp2_with fail; refine ⟨by (exact Below.refl _ _), ?_⟩
    refine idx_g rfl ?_; go_wp2_with fail; refine ⟨by (exact Below.refl _ _), ?_⟩
    refine idx_g rfl ?_; go_wp2_with (((refine L_idxO (d := some 86) rfl rfl hst rfl (by rfl) (by rfl) Tryz.underlying183 el_int 0 rfl (by (rfl)) (by omega) (by omega) ?_; intro o86 p86 ha86; ((obtain ⟨h1, h2⟩ := some_addr ha86; subst h1; subst h2; clear ha86))))); refine ⟨by (exact Below.refl _ _), ?_⟩
    refine idx_e rfl ?_; go_wp2_with ((refine wpl_at (.store 3 (.tmp 86) (.tmp 85)) rfl ?_; (refine L_storeR rfl rfl hst rfl (by rfl) (ev_tmp rfl) rfl el_int 0 rfl (by (omega)) ?_; clear hst; intro WS19 hst; simp only [List.set_cons_zero, List.set_cons_succ] at hst)))
    refine idx_nil ?_
    clear hsum b1 b2 b3 b4
    go_wp2_with (fail)
    go_roundg (gk - 1)
    case measure => have ht := HT.out; omega
    case rel =>
     have ht := HT.out
     refine ⟨t + 1, Lib.hid (by omega), by go_num, ?_⟩
     rw [← HS.out]
     simpa using hst
   ·obtain rfl : t = 64 := by omega
    clear ht HT h16 hlt
    go_wp2_with (first | (refine L_buildS (d := some 87) rfl rfl rfl [] (bs_0 ) rfl Tryz.underlying183 el_int rfl (by (simp [Value.cells]; done)) (by decide) (by decide) ?_; (try clear hnew); intro g87 W87 hnew; replace hst := hst.trans hnew; simp only [List.cons_append, List.nil_append] at hst; simp only [List.flatMap_cons, List.flatMap_nil, List.append_nil, Value.cells, List.toList_toArray] at hst) | (refine L_appendO (d := some 89) rfl rfl hst rfl (by rfl) (by rfl) Tryz.underlying183 el_int rfl (by decide) (by decide) 0 rfl (by (rfl)) (by (exact hst.old (by decide) hA)) (by (exact s.ints_one)) (by omega) ?_; clear hst; intro A89 c89 W89 hst; simp only [List.set_cons_zero, List.set_cons_succ, List.nil_append, Nat.zero_add] at hst))
    obtain ⟨R, ws, wl, HR0, HRS, HWS, HRE, hst2⟩ : ∃ (R : Nat → S8) (ws : Nat → Wd) (wl : List Value), R 0 = s ∧ Hid (∀ t, R (t + 1) = rnd (R t) (tbl t) (ws t)) ∧ Hid (∀ t, t < 64 → wl[t]? = some (iW (ws t))) ∧ Hid ((R 64).add s = blockS s b) ∧ St w W89 [.row A89 8 c89 3 1 s.ints, .row g21 64 64 3 1 wl] :=
     ⟨rounds b s, fun t => (sched b 64).getD t zW, wRow b 64, rfl, Lib.hid fun _ => rfl, Lib.hid fun t ht => wRow_at b 64 t ht, Lib.hid rfl, hst⟩
    clear hst
    have hst : St w W89 [.row A89 8 c89 3 1 (R 0).ints, .row g21 64 64 3 1 wl] := by rw [HR0]; exact hst2
    clear hst2 HR0
    clear hnew
    go_loopg [14, 15, 16, 17, 18, 19] 64 (fun gk s14 s15 s16 s17 s18 s19 wr => ∃ t : Nat, Hid (t + gk = 64) ∧ s14 = .int .i64 (t : Int) ∧ St w wr [.row A89 8 c89 3 1 (R t).ints, .row g21 64 64 3 1 wl])
    case atStart => exact ⟨0, Lib.hid rfl, rfl, hst⟩
    case round =>
     clear hst
     obtain ⟨t, HT, rfl, hst⟩ := hrel
     have ht := HT.out
     by_cases hlt : t < 64
     ·clear ht
      have HR := Lib.hid (HRS.out t)
      unfold rnd at HR
      have HK := Lib.hid (htb.out t hlt)
      have HW := Lib.hid (HWS.out t hlt)
      generalize R t = v at *
      generalize tbl t = kt at *
      generalize ws t = wt at *
      have hxor := iw_xor
      have hand := iw_and
      have hnot := iw_not v.e
      go_wp2_with (first | (refine L_load1 (d := some 96) rfl rfl rfl (by rfl) Tryz.underlying3 rfl (cell_of_range1 hr95 (k := 0) (by decide) (show v.ints[0]? = some (iW v.a) from rfl)) ?_) | (refine L_load1 (d := some 99) rfl rfl rfl (by rfl) Tryz.underlying3 rfl (cell_of_range1 hr98 (k := 4) (by decide) (show v.ints[4]? = some (iW v.e) from rfl)) ?_) | (refine L_idxS (d := some 95) rfl rfl rfl (by rfl) (by rfl) Tryz.underlying183 el_int (by (exact hst.sl 0 rfl)) (by omega) (by omega) ?_; intro o95 p95 ha95 hr95; ((subst ha95))) | (refine L_idxS (d := some 98) rfl rfl rfl (by rfl) (by rfl) Tryz.underlying183 el_int (by (exact hst.sl 0 rfl)) (by omega) (by omega) ?_; intro o98 p98 ha98 hr98; ((obtain ⟨h1, h2⟩ := some_addr ha98; subst h1; subst h2; clear ha98))))
      obtain ⟨pn, hpn, hpb, hpm⟩ := sum5 v.h (((v.e.rot 6).xor (v.e.rot 11)).xor (v.e.rot 25)) ((v.e.and v.f).xor (v.e.not.and v.g)) kt wt
      obtain ⟨qn, hqn, hqb, hqm⟩ := sum2 (((v.a.rot 2).xor (v.a.rot 13)).xor (v.a.rot 22)) (((v.a.and v.b).xor (v.a.and v.c)).xor (v.b.and v.c))
      have hm4 := Lib.hid (iw_sumN v.d _ pn hpb hpm)
      have hm0 := Lib.hid (iw_sumM _ _ pn qn hpb hqb hpm hqm)
      clear hpm hqm hr95
      have b1 := v.h.h
      have b2 := (((v.e.rot 6).xor (v.e.rot 11)).xor (v.e.rot 25)).h
      have b3 := ((v.e.and v.f).xor (v.e.not.and v.g)).h
      have b4 := kt.h
      have b5 := wt.h
      refine wp_region_idx [(0, 0), (1, 0), (2, 0), (3, 0), (5, 0), (8, 0), (12, 0), (13, 0), (14, 0), (15, 0), (16, 0), (17, 0), (18, 0), (19, 0), (20, 0), (21, 0), (22, 0), (23, 0), (25, 0), (26, 0), (27, 0), (28, 0), (30, 0), (31, 0), (32, 0), (33, 0), (4, 2), (6, 2), (7, 0), (9, 2), (10, 2), (11, 2), (24, 2), (29, 2), (34, 2), (35, 2)] (by kernel_rfl) (by kernel_rfl) ?_
      replace hst := hst.drew
      refine idx_q rfl rfl ?_; go_wp2_with fail
      refine idx_q rfl rfl ?_; go_wp2_with ((refine L_idxS (d := some 101) rfl rfl rfl (by rfl) (by rfl) Tryz.underlying183 el_int (by (exact hst.sl 0 rfl)) (by omega) (by omega) ?_; intro o101 p101 ha101 hr101; ((obtain ⟨h1, h2⟩ := some_addr ha101; subst h1; subst h2; clear ha101))))
      refine idx_q rfl rfl ?_; go_wp2_with ((refine L_load1 (d := some 102) rfl rfl rfl (by rfl) Tryz.underlying3 rfl (cell_of_range1 hr101 (k := 7) (by (decide)) (show v.ints[7]? = some (iW v.h) from rfl)) ?_))
      refine idx_q rfl rfl ?_; go_wp2_with fail
      refine idx_q rfl rfl ?_; go_wp2_with fail
      refine idx_q rfl rfl ?_; go_wp2_with fail
      refine idx_q rfl rfl ?_; go_wp2_with fail
      refine idx_q rfl rfl ?_; go_wp2_with fail
      refine idx_q rfl rfl ?_; go_wp2_with ((refine L_idxS (d := some 114) rfl rfl rfl (by rfl) (by rfl) Tryz.underlying183 el_int (by (exact hst.sl 0 rfl)) (by omega) (by omega) ?_; intro o114 p114 ha114 hr114; ((obtain ⟨h1, h2⟩ := some_addr ha114; subst h1; subst h2; clear ha114))))
      refine idx_q rfl rfl ?_; go_wp2_with ((refine L_load1 (d := some 115) rfl rfl rfl (by rfl) Tryz.underlying3 rfl (cell_of_range1 hr114 (k := 5) (by (decide)) (show v.ints[5]? = some (iW v.f) from rfl)) ?_))
      refine idx_q rfl rfl ?_; go_wp2_with fail
      refine idx_q rfl rfl ?_; go_wp2_with fail
      refine idx_q rfl rfl ?_; go_wp2_with fail
      refine idx_q rfl rfl ?_; go_wp2_with fail
      refine idx_q rfl rfl ?_; go_wp2_with ((refine L_idxS (d := some 120) rfl rfl rfl (by rfl) (by rfl) Tryz.underlying183 el_int (by (exact hst.sl 0 rfl)) (by omega) (by omega) ?_; intro o120 p120 ha120 hr120; ((obtain ⟨h1, h2⟩ := some_addr ha120; subst h1; subst h2; clear ha120))))
      refine idx_q rfl rfl ?_; go_wp2_with ((refine L_load1 (d := some 121) rfl rfl rfl (by rfl) Tryz.underlying3 rfl (cell_of_range1 hr120 (k := 6) (by (decide)) (show v.ints[6]? = some (iW v.g) from rfl)) ?_))
      refine idx_q rfl rfl ?_; go_wp2_with fail
      refine idx_q rfl rfl ?_; go_wp2_with fail
      refine idx_q rfl rfl ?_; go_wp2_with fail
      refine idx_q rfl rfl ?_; go_wp2_with fail
      refine idx_q rfl rfl ?_; go_wp2_with ((refine L_idxS (d := some 127) rfl rfl rfl (by rfl) (by rfl) Tryz.underlying183 el_int (by (exact hst.old (by decide) hB)) (by omega) (by omega) ?_; intro o127 p127 ha127 hr127; ((subst ha127))))
      refine idx_q rfl rfl ?_; go_wp2_with ((refine L_load1 (d := some 128) rfl rfl rfl (by rfl) Tryz.underlying3 rfl (cell_of_range1 hr127 (k := t) (by (omega)) HK.out) ?_))
      refine idx_q rfl rfl ?_; go_wp2_with fail
      refine idx_q rfl rfl ?_; go_wp2_with fail
      refine idx_q rfl rfl ?_; go_wp2_with ((refine L_idxS (d := some 132) rfl rfl rfl (by rfl) (by rfl) Tryz.underlying183 el_int (by (exact hst.sl 1 rfl)) (by omega) (by omega) ?_; intro o132 p132 ha132 hr132; ((subst ha132))))
      refine idx_q rfl rfl ?_; go_wp2_with ((refine L_load1 (d := some 133) rfl rfl rfl (by rfl) Tryz.underlying3 rfl (cell_of_range1 hr132 (k := t) (by (omega)) HW.out) ?_))
      refine idx_g rfl ?_; go_wp2_with ((go_at_call_of 139 (Value.int .i64 6); (try clear hnew); refine (rturn_any v.e 6 (by decide) (by decide) _).mono ?_; rintro e W38 ⟨rfl, hnew⟩; replace hst := hst.keep hnew)); refine ⟨by (exact hnew.below), ?_⟩
      refine idx_g rfl ?_; go_wp2_with ((go_at_call_of 139 (Value.int .i64 11); (try clear hnew); refine (rturn_any v.e 11 (by decide) (by decide) _).mono ?_; rintro e W38 ⟨rfl, hnew⟩; replace hst := hst.keep hnew)); refine ⟨by (exact hnew.below), ?_⟩
      refine idx_q rfl rfl ?_; go_wp2_with fail
      refine idx_g rfl ?_; go_wp2_with ((go_at_call_of 139 (Value.int .i64 25); (try clear hnew); refine (rturn_any v.e 25 (by decide) (by decide) _).mono ?_; rintro e W38 ⟨rfl, hnew⟩; replace hst := hst.keep hnew)); refine ⟨by (exact hnew.below), ?_⟩
      refine idx_g rfl ?_; go_wp2_with fail; refine ⟨by (exact Below.refl _ _), ?_⟩
      refine idx_g rfl ?_; go_wp2_with fail; refine ⟨by (exact Below.refl _ _), ?_⟩
      refine idx_g rfl ?_; go_wp2_with fail; refine ⟨by (exact Below.refl _ _), ?_⟩
      refine idx_g rfl ?_; go_wp2_with fail; refine ⟨by (exact Below.refl _ _), ?_⟩
      refine idx_g rfl ?_; go_wp2_with fail; refine ⟨by (exact Below.refl _ _), ?_⟩
      refine idx_g rfl ?_; go_wp2_with fail; refine ⟨by (exact Below.refl _ _), ?_⟩
      refine idx_nil ?_
      go_wp2_with fail
      clear hpn hnew b1 b2 b3 b4 b5 hnot hr98 hr101 hr114 hr120 hr127 hr132
      have b6 := (((v.a.rot 2).xor (v.a.rot 13)).xor (v.a.rot 22)).h
      have b7 := (((v.a.and v.b).xor (v.a.and v.c)).xor (v.b.and v.c)).h
      refine wp_region_idx [(0, 0), (2, 0), (5, 0), (8, 0), (9, 0), (10, 0), (11, 0), (12, 0), (13, 0), (14, 0), (15, 0), (16, 0), (17, 0), (18, 0), (19, 0), (20, 0), (21, 0), (22, 0), (23, 0), (24, 0), (25, 0), (26, 0), (1, 2), (3, 2), (4, 0), (6, 2), (7, 2), (27, 2), (28, 2)] (by kernel_rfl) (by kernel_rfl) ?_
      replace hst := hst.drew
      refine idx_q rfl rfl ?_; go_wp2_with fail
      refine idx_q rfl rfl ?_; go_wp2_with fail
      refine idx_q rfl rfl ?_; go_wp2_with fail
      refine idx_q rfl rfl ?_; go_wp2_with fail
      refine idx_q rfl rfl ?_; go_wp2_with fail
      refine idx_q rfl rfl ?_; go_wp2_with ((refine L_idxS (d := some 145) rfl rfl rfl (by rfl) (by rfl) Tryz.underlying183 el_int (by (exact hst.sl 0 rfl)) (by omega) (by omega) ?_; intro o145 p145 ha145 hr145; ((obtain ⟨h1, h2⟩ := some_addr ha145; subst h1; subst h2; clear ha145))))
      refine idx_q rfl rfl ?_; go_wp2_with ((refine L_load1 (d := some 146) rfl rfl rfl (by rfl) Tryz.underlying3 rfl (cell_of_range1 hr145 (k := 1) (by (decide)) (show v.ints[1]? = some (iW v.b) from rfl)) ?_))
      refine idx_q rfl rfl ?_; go_wp2_with fail
      refine idx_q rfl rfl ?_; go_wp2_with fail
      refine idx_q rfl rfl ?_; go_wp2_with fail
      refine idx_q rfl rfl ?_; go_wp2_with ((refine L_idxS (d := some 150) rfl rfl rfl (by rfl) (by rfl) Tryz.underlying183 el_int (by (exact hst.sl 0 rfl)) (by omega) (by omega) ?_; intro o150 p150 ha150 hr150; ((obtain ⟨h1, h2⟩ := some_addr ha150; subst h1; subst h2; clear ha150))))
      refine idx_q rfl rfl ?_; go_wp2_with ((refine L_load1 (d := some 151) rfl rfl rfl (by rfl) Tryz.underlying3 rfl (cell_of_range1 hr150 (k := 2) (by (decide)) (show v.ints[2]? = some (iW v.c) from rfl)) ?_))
      refine idx_q rfl rfl ?_; go_wp2_with fail
      refine idx_q rfl rfl ?_; go_wp2_with fail
      refine idx_q rfl rfl ?_; go_wp2_with fail
      refine idx_q rfl rfl ?_; go_wp2_with ((refine L_idxS (d := some 155) rfl rfl rfl (by rfl) (by rfl) Tryz.underlying183 el_int (by (exact hst.sl 0 rfl)) (by omega) (by omega) ?_; intro o155 p155 ha155 hr155; ((obtain ⟨h1, h2⟩ := some_addr ha155; subst h1; subst h2; clear ha155))))
      refine idx_q rfl rfl ?_; go_wp2_with ((refine L_load1 (d := some 156) rfl rfl rfl (by rfl) Tryz.underlying3 rfl (cell_of_range1 hr155 (k := 1) (by (decide)) (show v.ints[1]? = some (iW v.b) from rfl)) ?_))
      refine idx_q rfl rfl ?_; go_wp2_with fail
      refine idx_q rfl rfl ?_; go_wp2_with ((refine L_idxS (d := some 158) rfl rfl rfl (by rfl) (by rfl) Tryz.underlying183 el_int (by (exact hst.sl 0 rfl)) (by omega) (by omega) ?_; intro o158 p158 ha158 hr158; ((obtain ⟨h1, h2⟩ := some_addr ha158; subst h1; subst h2; clear ha158))))
      refine idx_q rfl rfl ?_; go_wp2_with ((refine L_load1 (d := some 159) rfl rfl rfl (by rfl) Tryz.underlying3 rfl (cell_of_range1 hr158 (k := 2) (by (decide)) (show v.ints[2]? = some (iW v.c) from rfl)) ?_))
      refine idx_q rfl rfl ?_; go_wp2_with fail
      refine idx_q rfl rfl ?_; go_wp2_with fail
      refine idx_g rfl ?_; go_wp2_with ((go_at_call_of 139 (Value.int .i64 2); (try clear hnew); refine (rturn_any v.a 2 (by decide) (by decide) _).mono ?_; rintro e W38 ⟨rfl, hnew⟩; replace hst := hst.keep hnew)); refine ⟨by (exact hnew.below), ?_⟩
      refine idx_g rfl ?_; go_wp2_with ((go_at_call_of 139 (Value.int .i64 13); (try clear hnew); refine (rturn_any v.a 13 (by decide) (by decide) _).mono ?_; rintro e W38 ⟨rfl, hnew⟩; replace hst := hst.keep hnew)); refine ⟨by (exact hnew.below), ?_⟩
      refine idx_q rfl rfl ?_; go_wp2_with fail
      refine idx_g rfl ?_; go_wp2_with ((go_at_call_of 139 (Value.int .i64 22); (try clear hnew); refine (rturn_any v.a 22 (by decide) (by decide) _).mono ?_; rintro e W38 ⟨rfl, hnew⟩; replace hst := hst.keep hnew)); refine ⟨by (exact hnew.below), ?_⟩
      refine idx_g rfl ?_; go_wp2_with fail; refine ⟨by (exact Below.refl _ _), ?_⟩
      refine idx_g rfl ?_; go_wp2_with fail; refine ⟨by (exact Below.refl _ _), ?_⟩
      refine idx_g rfl ?_; go_wp2_with fail; refine ⟨by (exact Below.refl _ _), ?_⟩
      refine idx_nil ?_
      go_wp2_with fail
      clear hqn hnew b6 b7 hxor hand hr145 hr150 hr155 hr158
      go_wp2_with (fail)
      have hst : St w W38 [.row (some ⟨o95, p95, none⟩) 8 c89 3 1 (shV v 7), .row (some ⟨o132, p132, none⟩) 64 64 3 1 wl] := hst
      obtain ⟨gko, rfl⟩ : ∃ x, x = gk := ⟨_, rfl⟩
      go_loopg [19] 7 (fun gk s19 wr => ∃ i : Nat, Hid (i = gk) ∧ i ≤ 7 ∧ s19 = .int .i64 (i : Int) ∧ St w wr [.row (some ⟨o95, p95, none⟩) 8 c89 3 1 (shV v i), .row (some ⟨o132, p132, none⟩) 64 64 3 1 wl])
      case atStart => exact ⟨7, Lib.hid rfl, by decide, rfl, hst⟩
      case round =>
       clear hst
       obtain ⟨i, HI, hi7, rfl, hst⟩ := hrel
       by_cases hi0 : 0 < i
       ·obtain ⟨i, rfl⟩ : ∃ k, i = k + 1 := ⟨i - 1, by omega⟩
        have HA := Lib.hid (shV_at v i (by omega))
        have HS := Lib.hid (shV_set v i (by omega))
        generalize v.get i = x at HA HS
        go_wp2_with (first | (refine L_load1 (d := some 173) rfl rfl rfl (by rfl) Tryz.underlying3 rfl (cell_of_range1 hr172 (k := i) (by omega) HA.out) ?_) | (refine L_idxS (d := some 172) rfl rfl rfl (by rfl) (by rfl) Tryz.underlying183 el_int (by (exact hst.sl 0 rfl)) (by omega) (by omega) ?_; intro o172 p172 ha172 hr172; ((obtain ⟨h1, h2⟩ := some_addr ha172; subst h1; subst h2; clear ha172))) | ((refine L_idxO (d := some 174) rfl rfl hst rfl (by rfl) (by rfl) Tryz.underlying183 el_int 0 rfl (by (rfl)) (by omega) (by omega) ?_; intro o174 p174 ha174; ((obtain ⟨h1, h2⟩ := some_addr ha174; subst h1; subst h2; clear ha174)))) | (refine wpl_at (.store 3 (.tmp 174) (.tmp 173)) rfl ?_; (refine L_storeR rfl rfl hst rfl (by rfl) (ev_tmp rfl) rfl el_int 0 rfl (by (omega)) ?_; clear hst; intro WS8 hst; simp only [List.set_cons_zero, List.set_cons_succ] at hst)))
        go_roundg (gk - 1)
        case measure => have hi := HI.out; omega
        case rel =>
         have hi := HI.out
         refine ⟨i, Lib.hid (by omega), by omega, by go_num, ?_⟩
         rw [← HS.out]
         simpa using hst
       ·obtain rfl : i = 0 := by omega
        have b8 := v.d.h
        have hm4 := hm4.out
        have hm0 := hm0.out
        go_wp2_with (first | (refine L_load1 (d := some 178) rfl rfl rfl (by rfl) Tryz.underlying3 rfl (cell_of_range1 hr177 (k := 4) (by decide) (shV_4 v)) ?_) | (refine L_idxS (d := some 177) rfl rfl rfl (by rfl) (by rfl) Tryz.underlying183 el_int (by (exact hst.sl 0 rfl)) (by omega) (by omega) ?_; intro o177 p177 ha177 hr177; ((obtain ⟨h1, h2⟩ := some_addr ha177; subst h1; subst h2; clear ha177))) | ((refine L_idxO (d := some 182) rfl rfl hst rfl (by rfl) (by rfl) Tryz.underlying183 el_int 0 rfl (by (rfl)) (by omega) (by omega) ?_; intro o182 p182 ha182; ((obtain ⟨h1, h2⟩ := some_addr ha182; subst h1; subst h2; clear ha182)))) | (refine wpl_at (.store 3 (.tmp 182) (.tmp 181)) rfl ?_; (refine L_storeR rfl rfl hst rfl (by rfl) (ev_tmp rfl) rfl el_int 0 rfl (by (omega)) ?_; clear hst; intro WS8 hst; simp only [List.set_cons_zero, List.set_cons_succ] at hst)) | ((refine L_idxO (d := some 188) rfl rfl hst rfl (by rfl) (by rfl) Tryz.underlying183 el_int 0 rfl (by (rfl)) (by omega) (by omega) ?_; intro o188 p188 ha188; ((obtain ⟨h1, h2⟩ := some_addr ha188; subst h1; subst h2; clear ha188)))) | (refine wpl_at (.store 3 (.tmp 188) (.tmp 187)) rfl ?_; (refine L_storeR rfl rfl hst rfl (by rfl) (ev_tmp rfl) rfl el_int 0 rfl (by (omega)) ?_; clear hst; intro WS6 hst; simp only [List.set_cons_zero, List.set_cons_succ] at hst)))
        go_roundg (gko - 1)
        case measure => have ht := HT.out; omega
        case rel =>
         have ht := HT.out
         refine ⟨t + 1, Lib.hid (by omega), by go_num, ?_⟩
         rw [HR.out]
         exact hst
     ·obtain rfl : t = 64 := by omega
      clear ht HT hlt
      go_wp2_with (fail)
      generalize R 64 = v at *
      have hst : St w wr [.row A89 8 c89 3 1 (addV v s 0), .row g21 64 64 3 1 wl] := hst
      go_loopg [20] 8 (fun gk s20 wr => ∃ i : Nat, Hid (i + gk = 8) ∧ s20 = .int .i64 (i : Int) ∧ St w wr [.row A89 8 c89 3 1 (addV v s i), .row g21 64 64 3 1 wl])
      case atStart => exact ⟨0, Lib.hid rfl, rfl, hst⟩
      case round =>
       clear hst
       obtain ⟨i, HI, rfl, hst⟩ := hrel
       have hi := HI.out
       by_cases hi8 : i < 8
       ·clear hi
        have HA := Lib.hid (addV_at v s i hi8)
        have HB := Lib.hid (s.ints_at i hi8)
        have HS := Lib.hid (addV_set v s i hi8)
        generalize v.get i = x at *
        generalize s.get i = y at *
        have b1 := x.h
        have b2 := y.h
        have hm := iw_sum2 x y
        go_wp2_with (fail)
        refine wp_region_idx [(0, 0), (1, 0), (2, 0), (3, 0), (4, 0), (5, 0), (6, 0), (7, 2), (8, 2), (9, 2), (10, 2), (11, 2), (12, 2), (13, 1)] (by kernel_rfl) (by kernel_rfl) ?_
        replace hst := hst.drew
        refine idx_q rfl rfl ?_; go_wp2_with fail
        refine idx_q rfl rfl ?_; go_wp2_with fail
        refine idx_q rfl rfl ?_; go_wp2_with fail
        refine idx_q rfl rfl ?_; go_wp2_with fail
        refine idx_q rfl rfl ?_; go_wp2_with ((refine L_idxS (d := some 197) rfl rfl rfl (by rfl) (by rfl) Tryz.underlying183 el_int (by (exact hst.sl 0 rfl)) (by omega) (by omega) ?_; intro o197 p197 ha197 hr197; ((subst ha197))))
        refine idx_q rfl rfl ?_; go_wp2_with ((refine L_load1 (d := some 198) rfl rfl rfl (by rfl) Tryz.underlying3 rfl (cell_of_range1 hr197 (k := i) (by omega) HA.out) ?_))
        refine idx_q rfl rfl ?_; go_wp2_with fail
        refine idx_g rfl ?_; go_wp2_with fail; refine ⟨by (exact Below.refl _ _), ?_⟩
        refine idx_g rfl ?_; go_wp2_with ((refine L_idxS (d := some 201) rfl rfl rfl (by rfl) (by rfl) Tryz.underlying183 el_int (by (exact hst.old (by decide) hA)) (by omega) (by omega) ?_; intro o201 p201 ha201 hr201; ((subst ha201)))); refine ⟨by (exact Below.refl _ _), ?_⟩
        refine idx_g rfl ?_; go_wp2_with ((refine L_load1 (d := some 202) rfl rfl rfl (by rfl) Tryz.underlying3 rfl (cell_of_range1 hr201 (k := i) (by omega) HB.out) ?_)); refine ⟨by (exact Below.refl _ _), ?_⟩
        refine idx_g rfl ?_; go_wp2_with fail; refine ⟨by (exact Below.refl _ _), ?_⟩
        refine idx_g rfl ?_; go_wp2_with fail; refine ⟨by (exact Below.refl _ _), ?_⟩
        refine idx_g rfl ?_; go_wp2_with (((refine L_idxO (d := some 205) rfl rfl hst rfl (by rfl) (by rfl) Tryz.underlying183 el_int 0 rfl (by (rfl)) (by omega) (by omega) ?_; intro o205 p205 ha205; ((obtain ⟨h1, h2⟩ := some_addr ha205; subst h1; subst h2; clear ha205))))); refine ⟨by (exact Below.refl _ _), ?_⟩
        refine idx_e rfl ?_; go_wp2_with ((refine wpl_at (.store 3 (.tmp 205) (.tmp 204)) rfl ?_; (refine L_storeR rfl rfl hst rfl (by rfl) (ev_tmp rfl) rfl el_int 0 rfl (by (omega)) ?_; clear hst; intro WS13 hst; simp only [List.set_cons_zero, List.set_cons_succ] at hst)))
        refine idx_nil ?_
        go_wp2_with (fail)
        go_roundg (gk - 1)
        case measure => have hi := HI.out; omega
        case rel =>
         have hi := HI.out
         refine ⟨i + 1, Lib.hid (by omega), by go_num, ?_⟩
         rw [← HS.out]
         simpa using hst
       ·obtain rfl : i = 8 := by omega
        clear hi HI
        go_wp2_with (fail)
        rw [addV_end, HRE.out] at hst
        go_ret
        exact ⟨_, _, rfl, hst.pick [0] (by decide)⟩
end Go.Proofs.YtaebeemnipafbaaGreatDoor

set_option maxRecDepth 20000
set_option linter.unusedSimpArgs false
set_option linter.unusedVariables false
namespace Go.Proofs.YtaebeemnipafbaaGreatDoor
open Go.RowKit
theorem bigE_eight (n : Nat) : bigE 8 n = eight n := rfl
def padAt (b : List UInt8) (z : Nat) : List UInt8 := b ++ [128] ++ List.replicate z 0
theorem padAt_succ (b : List UInt8) (z : Nat) : padAt b z ++ [0] = padAt b (z + 1) := by simp [padAt, List.replicate_succ']
theorem padAt_0 (b : List UInt8) : padAt b 0 = b ++ [128] := by simp [padAt]
theorem padAt_end (b : List UInt8) (h : b.length * 8 < 18446744073709551616) : padAt b (zerosFor b.length) ++ bigE 8 (b.length * 8) = padded b := by
 rw [bigE_eight, padAt, padded, Nat.mod_eq_of_lt h]
theorem length_padAt (b : List UInt8) (z : Nat) : (padAt b z).length = b.length + 1 + z := by simp [padAt]; omega
theorem dCells_next (s : S8) (i : Nat) (hi : i < 32) : (dCells s i).setIfInBounds i (byteV (UInt8.ofNat ((s.get (i / 4)).n >>> (24 - 8 * (i % 4))))) = dCells s (i + 1) := by
 have := dCells_set s (i / 4) (i % 4) (by omega) (by omega)
 rw [show 4 * (i / 4) + i % 4 = i by omega] at this
 exact this
set_option maxHeartbeats 2000000 in
set_option maxRecDepth 100000 in
theorem rsum_any (b : List UInt8) (A : Option Addr) (n c : Nat) (w : World) (hx : SlR w A n c 1 (bytesL b)) (hn : n ≤ 140737488355000) :
  Calls Tryz.prog 76 #[.slice A n c] w fun e w' => e = .returned (sha b).v ∧ St w w' [] := by
 have hst := St.refl w
 have hl := hx.1
 rw [length_bytesL, Nat.mul_one] at hl
 obtain ⟨z, K, P, hz, hK, HE, HP, HF⟩ : ∃ (z K : Nat) (P : List UInt8), z = (119 - n % 64) % 64 ∧ n + 1 + z + 8 = 64 * K ∧ Hid (padAt b z ++ bigE 8 (n * 8) = P) ∧ Hid (P.length = 64 * K) ∧ Hid ((blocksS begS P K).bytes = (sha b).l) := by
  have he := padAt_end b (by omega)
  have hpl := length_padded b
  have hpn : (padded b).length = n + 1 + zerosFor b.length + 8 := by rw [← he, List.length_append, length_padAt, length_bigE, hl]
  rw [hl] at he hpn
  exact ⟨zerosFor n, (padded b).length / 64, padded b, rfl, by omega, Lib.hid he, Lib.hid (by omega), Lib.hid rfl⟩
 have Hl := Lib.hid hl
 have Hz := Lib.hid hz
 have H0 := Lib.hid (show bytesL b ++ [Value.int .u8 128] = bytesL (padAt b 0) by rw [padAt_0, bytesL_append]; rfl)
 have HS := Lib.hid (fun z => show bytesL (padAt b z) ++ [Value.int .u8 0] = bytesL (padAt b (z + 1)) by rw [← padAt_succ, bytesL_append]; rfl)
 have hz64 : z < 64 := by omega
 have HK := Lib.hid hK
 have HPut : ∀ w, Calls Tryz.prog 93 #[.int .i64 ((n : Int) * 8), .int .i64 8] w fun e w' => ∃ A, e = .returned (.tuple #[.slice A 8 8, .bool ((((n * 8) >>> 64 : Nat) : Int) == 0)]) ∧ St w w' [.row A 8 8 5 1 (bytesL (bigE 8 (n * 8)))] := fun w => by
  have := rput_any (n * 8) 8 w (by decide) (by decide) (by omega)
  rw [show ((n * 8 : Nat) : Int) = (n : Int) * 8 by omega] at this
  exact this
 have HPut := Lib.hid HPut
 rename_i HPut'
 clear hz hl hK HPut'
 go_enter Tryz.func76, Tryz.ntmps76
 go_wp2_with (first | (refine L_allocA (d := some 2) rfl rfl rfl el_api_Digest ?_; (try clear hnew); intro g2 W2 hnew; replace hst := hst.trans hnew; simp only [List.cons_append, List.nil_append] at hst) | (refine L_buildS (d := some 11) rfl rfl rfl [] (bs_0 ) rfl Tryz.underlying22 el_uint8 rfl (by (simp [Value.cells]; done)) (by decide) (by decide) ?_; (try clear hnew); intro g11 W11 hnew; replace hst := hst.trans hnew; simp only [List.cons_append, List.nil_append] at hst; simp only [List.flatMap_cons, List.flatMap_nil, List.append_nil, Value.cells, List.toList_toArray] at hst) | (refine L_appendO (d := some 13) rfl rfl hst rfl (by rfl) (by rfl) Tryz.underlying22 el_uint8 rfl (by decide) (by decide) 0 rfl (by (rfl)) (by (exact hst.old (by decide) hx)) (by (exact oneCell_bytes)) (by omega) ?_; clear hst; intro A13 c13 W13 hst; simp only [List.set_cons_zero, List.set_cons_succ, List.nil_append, Nat.zero_add] at hst) | (refine L_buildS (d := some 14) rfl rfl rfl [_] (bs_1 ev_const) rfl Tryz.underlying22 el_uint8 rfl (by (simp [Value.cells]; done)) (by decide) (by decide) ?_; (try clear hnew); intro g14 W14 hnew; replace hst := hst.trans hnew; simp only [List.cons_append, List.nil_append] at hst; simp only [List.flatMap_cons, List.flatMap_nil, List.append_nil, Value.cells, List.toList_toArray] at hst) | (refine L_appendO (d := some 15) rfl rfl hst rfl (by rfl) (by rfl) Tryz.underlying22 el_uint8 rfl (by decide) (by decide) 1 rfl (by (omega)) (by (exact hst.sl 0 rfl)) (by (simp [Value.oneCell']; done)) (by omega) ?_; clear hst; intro A15 c15 W15 hst; simp only [List.set_cons_zero, List.set_cons_succ, List.nil_append, Nat.zero_add] at hst))
 have hst : St w W15 [.row A15 (n + 1 + 0) c15 5 1 (bytesL (padAt b 0)), .blk g2 32 zeroD.arr] := by
  rw [← H0.out]
  exact hst.pick [1, 2] (by decide)
 clear hnew
 go_loopg [3] z (fun gk s3 wr => ∃ (j : Nat) (A' : Option Addr) (c' : Nat), Hid (j + gk = z) ∧ s3 = .slice A' (n + 1 + j) c' ∧ St w wr [.row A' (n + 1 + j) c' 5 1 (bytesL (padAt b j)), .blk g2 32 zeroD.arr])
 case atStart => exact ⟨0, A15, c15, Lib.hid (by omega), rfl, hst⟩
 case round =>
  clear hst
  obtain ⟨j, A', c', HJ, rfl, hst⟩ := hrel
  have hz := Hz.out
  have hj := HJ.out
  have hj64 : j < 64 := by omega
  by_cases h0 : 0 < gk
  ·have hr : (((n : Int) + 1 + (j : Int)) % 64 != 56) = true := by rw [bne_iff_ne]; omega
   clear hz hj
   go_wp2_with (first | (refine L_buildS (d := some 21) rfl rfl rfl [_] (bs_1 ev_const) rfl Tryz.underlying22 el_uint8 rfl (by (simp [Value.cells]; done)) (by decide) (by decide) ?_; (try clear hnew); intro g21 W21 hnew; replace hst := hst.trans hnew; simp only [List.cons_append, List.nil_append] at hst; simp only [List.flatMap_cons, List.flatMap_nil, List.append_nil, Value.cells, List.toList_toArray] at hst) | (refine L_appendO (d := some 22) rfl rfl hst rfl (by rfl) (by rfl) Tryz.underlying22 el_uint8 rfl (by decide) (by decide) 1 rfl (by (rfl)) (by (exact hst.sl 0 rfl)) (by (simp [Value.oneCell']; done)) (by omega) ?_; clear hst; intro A22 c22 W22 hst; simp only [List.set_cons_zero, List.set_cons_succ, List.nil_append, Nat.zero_add] at hst))
   go_roundg (gk - 1)
   case measure => omega
   case rel =>
    have hj := HJ.out
    refine ⟨j + 1, A22, c22, Lib.hid (by omega), rfl, ?_⟩
    rw [← HS.out]
    exact hst.pick [1, 2] (by decide)
  ·have hr : (((n : Int) + 1 + (j : Int)) % 64 != 56) = false := by rw [bne_eq_false_iff_eq]; omega
   obtain rfl : j = z := by omega
   clear hz hj HJ h0 HS
   go_wp2_with (first | (go_at_call 93; refine (HPut.out _).mono ?_; rintro e W27 ⟨A27, rfl, hnew⟩; replace hst := hst.trans hnew; clear hnew; simp only [List.cons_append, List.nil_append] at hst) | (go_at_call 116; (try clear hnew); refine (rrounds_any _).mono ?_; rintro e W34 ⟨A34, rfl, hnew⟩; replace hst := hst.trans hnew; clear hnew; simp only [List.cons_append, List.nil_append] at hst) | (refine L_appendO (d := some 32) rfl rfl hst rfl (by rfl) (by rfl) Tryz.underlying22 el_uint8 rfl (by decide) (by decide) 1 rfl (by (rfl)) (by (exact hst.sl 0 rfl)) (by (exact oneCell_bytes)) (by omega) ?_; clear hst; intro A32 c32 W32 hst; simp only [List.set_cons_zero, List.set_cons_succ, List.nil_append, Nat.zero_add] at hst) | (refine L_buildS (d := some 33) rfl rfl rfl [_, _, _, _, _, _, _, _] (bs_8 ev_const ev_const ev_const ev_const ev_const ev_const ev_const ev_const) rfl Tryz.underlying183 el_int rfl (by (simp [Value.cells]; done)) (by decide) (by decide) ?_; (try clear hnew); intro g33 W33 hnew; replace hst := hst.trans hnew; simp only [List.cons_append, List.nil_append] at hst; simp only [List.flatMap_cons, List.flatMap_nil, List.append_nil, Value.cells, List.toList_toArray] at hst))
   rw [HK.out]
   obtain ⟨tb, htb, hst2⟩ : ∃ tb, Hid (∀ t, t < 64 → tb[t]? = some (iW (tbl t))) ∧ St w W34 [.row g33 8 8 3 1 (blocksS begS P 0).ints, .row A32 (64 * K) c32 5 1 (bytesL P), .row A34 64 64 3 1 tb, .blk g2 32 zeroD.arr] :=
    ⟨tableI, Lib.hid tableI_at, by
     have h := hst.pick [1, 3, 0, 4] (by decide)
     simp only [List.filterMap_cons, List.filterMap_nil, List.getElem?_cons_succ, List.getElem?_cons_zero] at h
     rw [← bytesL_append, HE.out, HK.out] at h
     exact h⟩
   clear hst hr HPut H0
   have hst := hst2
   clear hst2
   have hcap := (hst.sl 1 rfl).2.1
   go_loopg [6, 8] K (fun gk s6 s8 wr => ∃ (k : Nat) (H : Option Addr) (hc : Nat), Hid (k + gk = K) ∧ s6 = .slice H 8 hc ∧ s8 = .int .i64 ((64 * k : Nat) : Int) ∧ St w wr [.row H 8 hc 3 1 (blocksS begS P k).ints, .row A32 (64 * K) c32 5 1 (bytesL P), .row A34 64 64 3 1 tb, .blk g2 32 zeroD.arr])
   case atStart => exact ⟨0, _, _, Lib.hid (by omega), rfl, rfl, hst⟩
   case round =>
    clear hst
    obtain ⟨k, H, hc, HKK, rfl, rfl, hst⟩ := hrel
    have hk := HKK.out
    by_cases hkK : k < K
    ·clear hk
     have HX := Lib.hid (show ((bytesL P).drop (64 * k * 1)).take ((64 * k + 64 - 64 * k) * 1) = bytesL ((P.drop (64 * k)).take 64) by rw [bytesL_cut, show 64 * k + 64 - 64 * k = 64 by omega])
     have HN := Lib.hid (show blocksS begS P (k + 1) = blockS (blocksS begS P k) ((P.drop (64 * k)).take 64) by rw [← blockS_take]; rfl)
     have e1 : ((64 * k : Nat) : Int) = 64 * (k : Int) := by omega
     have hKb : K ≤ 2199023255600 := by have := HK.out; omega
     rw [e1]
     clear e1
     generalize blocksS begS P k = S at *
     go_wp2_with (first | (go_at_call 117; (try clear hnew); refine (rblock_any S ((P.drop (64 * k)).take 64) tb htb _ _ _ _ _ _ _ (hst.sl 0 rfl) (hst.sl 2 rfl) (by rw [← HX.out]; simpa using hs47)).mono ?_; rintro e W48 ⟨A48, c48, rfl, hnew⟩; replace hst := hst.trans hnew; clear hnew; simp only [List.cons_append, List.nil_append] at hst) | ((refine L_cutS (d := some 47) rfl rfl rfl (by rfl) Tryz.underlying22 el_uint8 (by decide) (by (exact hst.sl 1 rfl)) (64*k) (64*k+64) _ (Or.inr ⟨_, _, rfl, by (exact ev_tmp rfl)⟩) (Or.inr ⟨_, _, rfl, by (exact ev_tmp rfl)⟩) (Or.inl ⟨rfl, rfl⟩) (by omega) (by omega) (by omega) (by omega) ?_; intro A47 c47 hs47)))
     go_roundg (gk - 1)
     case measure => have hk := HKK.out; omega
     case rel =>
      have hk := HKK.out
      refine ⟨k + 1, A48, c48, Lib.hid (by omega), rfl, by (rfl), ?_⟩
      rw [HN.out]
      exact hst.pick [0, 2, 3, 4] (by decide)
    ·obtain rfl : k = K := by omega
     clear hk HKK
     generalize blocksS begS P k = S at *
     have e1 : ((64 * k : Nat) : Int) = 64 * (k : Int) := by omega
     rw [e1]
     clear e1
     have hKb : k ≤ 2199023255600 := by have := HK.out; omega
     go_wp2_with ((refine L_allocA (d := some 9) rfl rfl rfl el_api_Digest ?_; (try clear hnew); intro g9 W9 hnew; replace hst := hst.trans hnew; simp only [List.cons_append, List.nil_append] at hst))
     have hst : St w W9 [.blk g9 32 (dCells S 0), .row H 8 hc 3 1 S.ints, .blk g2 32 zeroD.arr] := hst.pick [0, 1, 4] (by decide)
     clear hnew
     go_loopg [10] 32 (fun gk s10 wr => ∃ i : Nat, Hid (i + gk = 32) ∧ s10 = .int .i64 (i : Int) ∧ St w wr [.blk g9 32 (dCells S i), .row H 8 hc 3 1 S.ints, .blk g2 32 zeroD.arr])
     case atStart => exact ⟨0, Lib.hid rfl, rfl, hst⟩
     case round =>
      clear hst
      obtain ⟨i, HI, rfl, hst⟩ := hrel
      have hi := HI.out
      by_cases hi32 : i < 32
      ·clear hi
       have HA := Lib.hid (S.ints_at (i / 4) (by omega))
       have hset := dCells_next S i hi32
       rw [byteV_shr, Nat.mul_comm 8 (i % 4)] at hset
       have HSet := Lib.hid hset
       have hsz := Lib.hid (size_dCells S i (by omega))
       clear hset
       generalize S.get (i / 4) = x at *
       have b1 := x.h
       go_wp2_with (first | (refine L_load1 (d := some 58) rfl rfl rfl (by rfl) Tryz.underlying3 rfl (cell_of_range1 hr57 (k := i / 4) (by omega) HA.out) ?_) | (refine L_store1 rfl rfl hst rfl (by rfl) (ev_tmp rfl) rfl el_uint8 0 rfl (by rw [hsz.out]; omega) ?_; clear hst; intro WS11 hst; simp only [List.set_cons_zero, List.set_cons_succ] at hst) | (refine L_idxS (d := some 57) rfl rfl rfl (by rfl) (by rfl) Tryz.underlying183 el_int (by (exact hst.sl 1 rfl)) (by omega) (by omega) ?_; intro o57 p57 ha57 hr57; ((subst ha57))))
       rw [HSet.out] at hst
       go_roundg (gk - 1)
       case measure => have hi := HI.out; omega
       case rel =>
        have hi := HI.out
        exact ⟨i + 1, Lib.hid (by omega), by go_num, hst⟩
      ·obtain rfl : i = 32 := by omega
       clear hi HI
       rw [dCells_32, HF.out] at hst
       go_wp2_with (first | ((refine L_loadA (d := some 66) rfl rfl rfl (by rfl) Tryz.underlying32 rfl el_api_Digest (by (exact hst.get 0 rfl)) (by (rfl)) ?_)) | (refine wpl_at (.store 32 (.tmp 2) (.tmp 66)) rfl ?_; (refine L_storeA rfl rfl hst rfl (by rfl) (ev_tmp rfl) (by (exact Dig.one _)) el_api_Digest (by (rfl)) 2 rfl (by (rfl)) ?_; clear hst; intro WS1 hst; simp only [List.set_cons_zero, List.set_cons_succ] at hst)))
       refine bp_cell rfl rfl rfl (hst.get 2 rfl) Tryz.underlying32 rfl el_api_Digest (by (rfl)) ?_
       exact ⟨rfl, hst.forget⟩
end Go.Proofs.YtaebeemnipafbaaGreatDoor

set_option maxRecDepth 20000
set_option linter.unusedSimpArgs false
set_option linter.unusedVariables false
namespace Go.Proofs.YtaebeemnipafbaaGreatDoor
open Go.RowKit
def leafBN (b : List UInt8) : Dig := sha (0 :: b)
set_option maxHeartbeats 1000000 in
theorem tleaf_any (b : List UInt8) (A : Option Addr) (n c : Nat) (w : World) (hT : Tb w) (hx : SlR w A n c 1 (bytesL b)) (hn : n ≤ 140737488354000) :
  Calls Tryz.prog 82 #[.slice A n c] w fun e w' => e = .returned (leafBN b).v ∧ St w w' [] := by
 have hst := St.refl w
 have HT := Lib.hid hT
 have HB := Lib.hid (show [Value.int .u8 0] ++ bytesL b = bytesL (0 :: b) from rfl)
 clear hT
 go_enter Tryz.func82, Tryz.ntmps82
 go_wp2_with (first | (go_at_call 80; (try clear hnew); refine (ssum_any (List.cons 0 b) _ _ _ _ (HT.out.of hst) (by rw [← HB.out]; exact hst.sl 0 rfl) (by omega)).mono ?_; rintro e Wk1 ⟨rfl, hnew⟩; replace hst := hst.keep hnew) | (refine L_allocA (d := some 2) rfl rfl rfl el_api_Digest ?_; (try clear hnew); intro g2 W2 hnew; replace hst := hst.trans hnew; simp only [List.cons_append, List.nil_append] at hst) | (refine L_buildS (d := some 3) rfl rfl rfl [_] (bs_1 ev_const) rfl Tryz.underlying22 el_uint8 rfl (by (simp [Value.cells]; done)) (by decide) (by decide) ?_; (try clear hnew); intro g3 W3 hnew; replace hst := hst.trans hnew; simp only [List.cons_append, List.nil_append] at hst; simp only [List.flatMap_cons, List.flatMap_nil, List.append_nil, Value.cells, List.toList_toArray] at hst) | (refine L_appendO (d := some 5) rfl rfl hst rfl (by rfl) (by rfl) Tryz.underlying22 el_uint8 rfl (by decide) (by decide) 0 rfl (by (rfl)) (by (exact hst.old (by decide) hx)) (by (exact oneCell_bytes)) (by omega) ?_; clear hst; intro A5 c5 W5 hst; simp only [List.set_cons_zero, List.set_cons_succ, List.nil_append, Nat.zero_add] at hst) | (refine wpl_at (.store 32 (.tmp 2) (.tmp 6)) rfl ?_; (refine L_storeA rfl rfl hst rfl (by rfl) (ev_tmp rfl) (by (exact Dig.one _)) el_api_Digest (by (rfl)) 1 rfl (by (rfl)) ?_; clear hst; intro WS4 hst; simp only [List.set_cons_zero, List.set_cons_succ, HB.out] at hst)))
 refine bp_cell rfl rfl rfl (hst.get 1 rfl) Tryz.underlying32 rfl el_api_Digest (by (rfl)) ?_
 exact ⟨rfl, hst.forget⟩
set_option maxHeartbeats 1000000 in
theorem rleaf_any (b : List UInt8) (A : Option Addr) (n c : Nat) (w : World) (hx : SlR w A n c 1 (bytesL b)) (hn : n ≤ 140737488354000) :
  Calls Tryz.prog 50 #[.slice A n c] w fun e w' => e = .returned (leafBN b).v ∧ St w w' [] := by
 have hst := St.refl w
 have HB := Lib.hid (show [Value.int .u8 0] ++ bytesL b = bytesL (0 :: b) from rfl)
 go_enter Tryz.func50, Tryz.ntmps50
 go_wp2_with (first | (go_at_call 76; (try clear hnew); refine (rsum_any (List.cons 0 b) _ _ _ _ (by rw [← HB.out]; exact hst.sl 0 rfl) (by omega)).mono ?_; rintro e Wk2 ⟨rfl, hnew⟩; replace hst := hst.keep hnew) | (refine L_allocA (d := some 2) rfl rfl rfl el_api_Digest ?_; (try clear hnew); intro g2 W2 hnew; replace hst := hst.trans hnew; simp only [List.cons_append, List.nil_append] at hst) | (refine L_buildS (d := some 3) rfl rfl rfl [_] (bs_1 ev_const) rfl Tryz.underlying22 el_uint8 rfl (by (simp [Value.cells]; done)) (by decide) (by decide) ?_; (try clear hnew); intro g3 W3 hnew; replace hst := hst.trans hnew; simp only [List.cons_append, List.nil_append] at hst; simp only [List.flatMap_cons, List.flatMap_nil, List.append_nil, Value.cells, List.toList_toArray] at hst) | (refine L_appendO (d := some 5) rfl rfl hst rfl (by rfl) (by rfl) Tryz.underlying22 el_uint8 rfl (by decide) (by decide) 0 rfl (by (rfl)) (by (exact hst.old (by decide) hx)) (by (exact oneCell_bytes)) (by omega) ?_; clear hst; intro A5 c5 W5 hst; simp only [List.set_cons_zero, List.set_cons_succ, List.nil_append, Nat.zero_add] at hst) | (refine wpl_at (.store 32 (.tmp 2) (.tmp 6)) rfl ?_; (refine L_storeA rfl rfl hst rfl (by rfl) (ev_tmp rfl) (by (exact Dig.one _)) el_api_Digest (by (rfl)) 1 rfl (by (rfl)) ?_; clear hst; intro WS4 hst; simp only [List.set_cons_zero, List.set_cons_succ, HB.out] at hst)))
 refine bp_cell rfl rfl rfl (hst.get 1 rfl) Tryz.underlying32 rfl el_api_Digest (by (rfl)) ?_
 exact ⟨rfl, hst.forget⟩
end Go.Proofs.YtaebeemnipafbaaGreatDoor

set_option maxRecDepth 20000
set_option linter.unusedSimpArgs false
set_option linter.unusedVariables false
namespace Go.Proofs.YtaebeemnipafbaaGreatDoor
def okB (b : UInt8) : Bool := decide (97 ≤ b.toNat ∧ b.toNat ≤ 122 ∨ 48 ≤ b.toNat ∧ b.toNat ≤ 57 ∨ b.toNat = 45)
def isNm (l : List UInt8) : Bool := decide (0 < l.length ∧ l.length ≤ 30) && l.all okB
def idxN (l : List UInt8) : Nat := natE ((sha (12 :: l)).l.take 4)
structure NoteN where
 name : List UInt8
 key : Dig
 turn : Int
theorem NoteN.eta (n : NoteN) : (⟨n.name, n.key, n.turn⟩ : NoteN) = n := rfl
theorem NoteN.ext' {n m : NoteN} (h1 : n.name = m.name) (h2 : n.key = m.key) (h3 : n.turn = m.turn) : n = m := by
 cases n; cases m; simp_all
def noteB (n : NoteN) : List UInt8 := UInt8.ofNat n.name.length :: (n.name ++ (n.key.l ++ bigE 4 n.turn.toNat))
def noteOk (n : NoteN) : Bool := isNm n.name && decide (0 ≤ n.turn ∧ n.turn < 4294967296)
def ntLeaf (n : NoteN) : Dig := leafBN (noteB n)
theorem isNm_len {l : List UInt8} (h : isNm l = true) : 0 < l.length ∧ l.length ≤ 30 := by
 rw [isNm, Bool.and_eq_true] at h
 exact of_decide_eq_true h.1
theorem length_noteB (n : NoteN) : (noteB n).length = n.name.length + 37 := by
 simp [noteB, bigE, n.key.h]
def lastI : List NoteN → List UInt8 → Option Nat
 | [], _ => none
 | n :: ns, s => match lastI ns s with | some j => some (j + 1) | none => if n.name = s then some 0 else none
theorem lastI_snoc : ∀ (ns : List NoteN) (n : NoteN) (s : List UInt8), lastI (ns ++ [n]) s = if n.name = s then some ns.length else lastI ns s
 | [], n, s => by simp [lastI]
 | m :: ns, n, s => by
  rw [List.cons_append, lastI, lastI_snoc ns n s]
  by_cases h : n.name = s
  ·simp [h]
  ·simp only [h, if_false, lastI]
theorem lastI_some : ∀ {ns : List NoteN} {s : List UInt8} {j : Nat}, lastI ns s = some j → ∃ n, ns[j]? = some n ∧ n.name = s
 | [], s, j, h => by cases h
 | m :: ns, s, j, h => by
  rw [lastI] at h
  cases hl : lastI ns s with
  | some i =>
   rw [hl] at h
   obtain rfl : i + 1 = j := Option.some.inj h
   exact lastI_some (ns := ns) hl
  | none =>
   rw [hl] at h
   simp only at h
   split at h
   ·rename_i hm
    obtain rfl : 0 = j := Option.some.inj h
    exact ⟨m, rfl, hm⟩
   ·cases h
theorem lastI_none : ∀ {ns : List NoteN} {s : List UInt8}, lastI ns s = none ↔ ∀ n ∈ ns, n.name ≠ s
 | [], s => by simp [lastI]
 | m :: ns, s => by
  rw [lastI]
  cases hl : lastI ns s with
  | some i =>
   obtain ⟨n, h1, h2⟩ := lastI_some hl
   simp only [reduceCtorEq, List.mem_cons, ne_eq, false_iff]
   intro h
   exact h n (.inr (List.mem_of_getElem? h1)) h2
  | none =>
   have := lastI_none.1 hl
   by_cases h : m.name = s
   ·simp [h]
   ·simp [h]
    exact this
theorem lastI_lt {ns : List NoteN} {s : List UInt8} {j : Nat} (h : lastI ns s = some j) : j < ns.length := by
 obtain ⟨n, h1, _⟩ := lastI_some h
 exact (List.getElem?_eq_some_iff.1 h1).1
def lastN? (ns : List NoteN) (s : List UInt8) : Option NoteN := (lastI ns s).bind fun j => ns[j]?
theorem lastN_snoc (ns : List NoteN) (n : NoteN) (s : List UInt8) : lastN? (ns ++ [n]) s = if n.name = s then some n else lastN? ns s := by
 unfold lastN?
 rw [lastI_snoc]
 by_cases h : n.name = s
 ·simp [h]
 ·simp only [h, if_false]
  cases hl : lastI ns s with
  | none => rfl
  | some j => simp only [Option.bind_some]; rw [List.getElem?_append_left (lastI_lt hl)]
def namesC (ns : List NoteN) : Nat := ((List.range ns.length).filter fun i => decide ((ns[i]?.bind fun n => lastI ns n.name) = some i)).length
def takenN (ns : List NoteN) (s : List UInt8) : Bool := ns.any fun n => decide (n.name ≠ s ∧ idxN n.name = idxN s)
def addE (ns : List NoteN) (s : List UInt8) : Nat :=
 if isNm s = true then (if 256 ≤ ns.length ∨ lastI ns s = none ∧ 64 ≤ namesC ns then 4 else if takenN ns s = true then 7 else 0) else 1
def turnN (ns : List NoteN) (s : List UInt8) : Int := match lastN? ns s with | some n => n.turn + 1 | none => 0
def newN (ns : List NoteN) (s : List UInt8) (k : Dig) : NoteN := ⟨s, k, turnN ns s⟩
def addL (ns : List NoteN) (s : List UInt8) (k : Dig) : List NoteN := if addE ns s = 0 then ns ++ [newN ns s k] else ns
inductive Logged : List NoteN → Prop
 | nil : Logged []
 | add {ns : List NoteN} {s : List UInt8} {k : Dig} : Logged ns → addE ns s = 0 → Logged (ns ++ [newN ns s k])
theorem Logged.addL {ns : List NoteN} (h : Logged ns) (s : List UInt8) (k : Dig) : Logged (addL ns s k) := by
 unfold Go.Proofs.YtaebeemnipafbaaGreatDoor.addL
 split
 ·exact .add h (by assumption)
 ·exact h
theorem addE_zero {ns : List NoteN} {s : List UInt8} (h : addE ns s = 0) : isNm s = true ∧ ns.length < 256 ∧ (lastI ns s = none → namesC ns < 64) ∧ ∀ n ∈ ns, idxN n.name = idxN s → n.name = s := by
 unfold addE at h
 by_cases h1 : isNm s = true
 ·rw [if_pos h1] at h
  by_cases h2 : 256 ≤ ns.length ∨ lastI ns s = none ∧ 64 ≤ namesC ns
  ·rw [if_pos h2] at h; cases h
  rw [if_neg h2] at h
  by_cases h3 : takenN ns s = true
  ·rw [if_pos h3] at h; cases h
  refine ⟨h1, by omega, fun e => ?_, fun n hn hi => ?_⟩
  ·by_cases h4 : 64 ≤ namesC ns
   ·exact absurd (.inr ⟨e, h4⟩) h2
   ·omega
  ·by_cases h4 : n.name = s
   ·exact h4
   ·exact absurd (List.any_eq_true.2 ⟨n, hn, decide_eq_true ⟨h4, hi⟩⟩) h3
 ·rw [if_neg h1] at h; cases h
theorem Logged.len {ns : List NoteN} (h : Logged ns) : ns.length ≤ 256 := by
 induction h with
 | nil => simp
 | add h0 he ih => have := (addE_zero he).2.1; simp; omega
theorem Logged.nm {ns : List NoteN} (h : Logged ns) : ∀ n ∈ ns, isNm n.name = true := by
 induction h with
 | nil => simp
 | add h0 he ih =>
  intro n hn
  rcases List.mem_append.1 hn with hn | hn
  ·exact ih n hn
  ·rw [List.mem_singleton.1 hn]; exact (addE_zero he).1
theorem Logged.idx {ns : List NoteN} (h : Logged ns) : ∀ n ∈ ns, ∀ m ∈ ns, idxN n.name = idxN m.name → n.name = m.name := by
 induction h with
 | nil => simp
 | @add ns s k h0 he ih =>
  intro n hn m hm hi
  have hs := (addE_zero he).2.2.2
  rcases List.mem_append.1 hn with hn | hn
  ·rcases List.mem_append.1 hm with hm | hm
   ·exact ih n hn m hm hi
   ·rw [List.mem_singleton.1 hm] at hi ⊢; exact hs n hn hi
  ·rcases List.mem_append.1 hm with hm | hm
   ·rw [List.mem_singleton.1 hn] at hi ⊢; exact (hs m hm hi.symm).symm
   ·rw [List.mem_singleton.1 hn, List.mem_singleton.1 hm]
theorem Logged.turnOf {ns : List NoteN} (h : Logged ns) : ∀ s, turnN ns s = ((ns.countP fun n => decide (n.name = s) : Nat) : Int) := by
 induction h with
 | nil => intro s; rfl
 | @add ns s k h0 he ih =>
  intro t
  unfold turnN
  rw [lastN_snoc, List.countP_append, List.countP_singleton]
  by_cases ht : s = t
  ·subst ht
   have := ih s
   simp only [newN, if_true, decide_true]
   rw [this]
   simp
  ·have := ih t
   unfold turnN at this
   simp only [newN, ht, if_false, decide_false, Bool.false_eq_true, Nat.add_zero]
   exact this
theorem Logged.turn_le {ns : List NoteN} (h : Logged ns) (s : List UInt8) : 0 ≤ turnN ns s ∧ turnN ns s ≤ ns.length := by
 rw [h.turnOf]
 have := List.countP_le_length (p := fun n : NoteN => decide (n.name = s)) (l := ns)
 omega
theorem Logged.new_ok {ns : List NoteN} (h : Logged ns) {s : List UInt8} (hs : isNm s = true) (k : Dig) : noteOk (newN ns s k) = true := by
 have h1 := h.turn_le s
 have h2 := h.len
 unfold noteOk newN
 rw [Bool.and_eq_true]
 exact ⟨hs, decide_eq_true ⟨h1.1, by show turnN ns s < _; omega⟩⟩
theorem Logged.ok {ns : List NoteN} (h : Logged ns) : ∀ n ∈ ns, noteOk n = true := by
 induction h with
 | nil => simp
 | @add ns s k h0 he ih =>
  intro n hn
  rcases List.mem_append.1 hn with hn | hn
  ·exact ih n hn
  ·rw [List.mem_singleton.1 hn]; exact h0.new_ok (addE_zero he).1 k
def lgF (ns : List NoteN) (k : Nat) : Dig := match ns.reverse.find? (fun n => idxN n.name == k) with | some n => eLeaf k (ntLeaf n) | none => zeroD
theorem lgF_snoc (ns : List NoteN) (n : NoteN) (k : Nat) : lgF (ns ++ [n]) k = if idxN n.name = k then eLeaf k (ntLeaf n) else lgF ns k := by
 unfold lgF
 rw [List.reverse_append, List.reverse_singleton, List.singleton_append, List.find?_cons]
 by_cases h : idxN n.name = k
 ·simp [h]
 ·rw [beq_eq_false_iff_ne.2 h, if_neg h]
theorem Logged.lgF_at {ns : List NoteN} (h : Logged ns) : ∀ {s n}, lastN? ns s = some n → lgF ns (idxN s) = eLeaf (idxN s) (ntLeaf n) := by
 induction h with
 | nil => intro s n hn; cases hn
 | @add ns t k h0 he ih =>
  intro s n hn
  rw [lastN_snoc] at hn
  rw [lgF_snoc]
  by_cases ht : t = s
  ·subst ht
   simp only [newN, if_true, Option.some.injEq] at hn
   subst hn
   simp only [newN, if_true]
  ·simp only [newN, ht, if_false] at hn
   have hne : idxN t ≠ idxN s := by
    intro hi
    unfold lastN? at hn
    cases hl : lastI ns s with
    | none => rw [hl] at hn; cases hn
    | some j =>
     obtain ⟨m, hm1, hm2⟩ := lastI_some hl
     have := (addE_zero he).2.2.2 m (List.mem_of_getElem? hm1) (by rw [hm2, hi])
     exact ht (this.symm.trans hm2)
   simp only [newN, hne, if_false]
   exact ih hn
theorem lgF_none {ns : List NoteN} {k : Nat} (h : ∀ n ∈ ns, idxN n.name ≠ k) : lgF ns k = zeroD := by
 unfold lgF
 rw [List.find?_eq_none.2 (fun n hn => by simpa using h n (List.mem_reverse.1 hn))]
theorem idxN_lt (s : List UInt8) : idxN s < 4294967296 := by
 unfold idxN
 have h := natE_lt ((sha (12 :: s)).l.take 4)
 have hl : ((sha (12 :: s)).l.take 4).length = 4 := by rw [List.length_take, Dig.h]; rfl
 rw [hl] at h
 exact h
def lvN (ns : List NoteN) : List Dig := ns.map ntLeaf
def mapN (ns : List NoteN) : Dig := mRoot (lgF ns) 32 0
end Go.Proofs.YtaebeemnipafbaaGreatDoor

set_option maxRecDepth 20000
set_option linter.unusedSimpArgs false
set_option linter.unusedVariables false
namespace Go.Proofs.YtaebeemnipafbaaGreatDoor
open Go.Shelf
def bsOf (l : List UInt8) : ByteArray := ⟨l.toArray⟩
theorem bsOf_size (l : List UInt8) : (bsOf l).size = l.length := by simp [bsOf, ByteArray.size]
theorem bsOf_list (l : List UInt8) : (bsOf l).data.toList = l := by simp [bsOf]
theorem bsOf_inj {a b : List UInt8} (h : bsOf a = bsOf b) : a = b := by rw [← bsOf_list a, h, bsOf_list]
theorem bsOf_eta (s : ByteArray) : s = bsOf s.data.toList := by cases s; simp [bsOf]
theorem bsOf_get (l : List UInt8) (i : Nat) (h : i < l.length) : (bsOf l).get! i = l[i] := by
 show (bsOf l).data[i]! = _
 simp [bsOf, h]
theorem bsOf_nil : (bsOf []).toList.isEmpty = true := by
 rw [List.isEmpty_iff]
 exact (toList_nil_iff_emptyBytes _).2 rfl
theorem bsOf_cons {l : List UInt8} (h : l ≠ []) : (bsOf l).toList.isEmpty = false := by
 cases he : (bsOf l).toList.isEmpty with
 | false => rfl
 | true =>
  rw [List.isEmpty_iff] at he
  have := (toList_nil_iff_emptyBytes _).1 he
  exact absurd (bsOf_inj (a := l) (b := []) this) h
def nmP (r : Nat) : Bool := !decide (97 ≤ r ∧ r ≤ 122 ∨ 48 ≤ r ∧ r ≤ 57 ∨ r = 45)
theorem nmP_ge {r : Nat} (h : 128 ≤ r) : nmP r = true := by
 unfold nmP
 rw [decide_eq_false (by omega)]
 rfl
theorem nmP_byte (b : UInt8) : nmP b.toNat = !okB b := rfl
theorem decode_lt {s : ByteArray} {i : Nat} (h : (s.get! i).toNat < 128) : Utf8.decode s i = ((s.get! i).toNat, 1) := by
 unfold Utf8.decode
 simp only [Nat.add_zero]
 rw [if_pos h]
theorem decode_ge {s : ByteArray} {i : Nat} (h : 128 ≤ (s.get! i).toNat) : 128 ≤ (Utf8.decode s i).1 := by
 unfold Utf8.decode
 simp only [Nat.add_zero]
 rw [if_neg (by omega)]
 repeat' split
 all_goals first | (simp [Utf8.runeError]; done) | (rename_i hc; simp only [Bool.and_eq_true, decide_eq_true_eq, ge_iff_le] at hc; first | exact hc | exact Nat.le_trans (by decide) hc.1)
theorem name_from (l : List UInt8) : ∀ (f pos : Nat), l.length - pos ≤ f → decide (0 ≤ Lib.idxFuncFrom nmP true (bsOf l) f pos) = !((l.drop pos).all okB)
 | 0, pos, h => by
  rw [List.drop_eq_nil_of_le (by omega)]
  rfl
 | f + 1, pos, h => by
  unfold Lib.idxFuncFrom
  rw [bsOf_size]
  by_cases hp : pos < l.length
  ·rw [if_pos hp, List.drop_eq_getElem_cons hp, List.all_cons]
   have hg := bsOf_get l pos hp
   by_cases hb : (l[pos]).toNat < 128
   ·rw [decode_lt (by rw [hg]; exact hb), hg]
    simp only
    rw [nmP_byte]
    by_cases hk : okB l[pos] = true
    ·rw [hk]
     simp only [Bool.not_true, Bool.false_eq_true, if_false, Bool.true_and]
     exact name_from l f (pos + 1) (by omega)
    ·rw [Bool.eq_false_iff.2 hk]
     simp
   ·have h1 := decode_ge (s := bsOf l) (i := pos) (by rw [hg]; omega)
    rw [nmP_ge h1]
    have hk : okB l[pos] = false := by
     unfold okB
     rw [decide_eq_false (by omega)]
    rw [hk]
    simp
  ·rw [if_neg hp, List.drop_eq_nil_of_le (by omega)]
   rfl
theorem name_idx (l : List UInt8) : decide (0 ≤ Lib.idxFunc nmP true (bsOf l)) = !l.all okB := by
 have := name_from l (bsOf l).size 0 (by rw [bsOf_size]; omega)
 rw [List.drop_zero] at this
 exact this
end Go.Proofs.YtaebeemnipafbaaGreatDoor

set_option maxRecDepth 20000
set_option linter.unusedSimpArgs false
set_option linter.unusedVariables false
namespace Go.Proofs.YtaebeemnipafbaaGreatDoor
open Go.ChangeShapes Go.WideShapes Go.ChangeAt Go.RowKit Go.Deep
def hdCells (n : Int) (r m t : Dig) : List Value := .int .i64 n :: (r.arr.toList ++ (m.arr.toList ++ t.arr.toList))
theorem length_hdCells (n : Int) (r m t : Dig) : (hdCells n r m t).length = 97 := by simp [hdCells, Dig.size]
def pairsL (l : List (Int × Dig)) : List Value := l.flatMap fun p => .int .i64 p.1 :: p.2.arr.toList
theorem length_pairsL (l : List (Int × Dig)) : (pairsL l).length = l.length * 33 := by
 induction l with
 | nil => rfl
 | cons p l ih =>
  have : pairsL (p :: l) = (.int .i64 p.1 :: p.2.arr.toList) ++ pairsL l := by simp [pairsL]
  rw [this, List.length_append, ih, List.length_cons, List.length_cons, Array.length_toList, Dig.size]
  omega
section
variable {P : Program} {H : Type} {enc : TypeId × Value → H} {W : World} {base : Nat} {spare : Nat → Bool} {held : Bool}
theorem trod_struct4 {t : TypeId} {f0 f1 f2 f3 : Field} {fuel : Nat} {cs : List Value} {x : DataW H × List MemPlace} (ht : P.underlying t = some (.struct #[f0, f1, f2, f3])) (h : DataW.trod enc P W base spare held fuel t cs = some x) :
  ∃ y0 y1 y2 y3 n, x = (.agg [y0.1, y1.1, y2.1, y3.1], y0.2 ++ (y1.2 ++ (y2.2 ++ y3.2))) ∧ cs.length = P.cellsOf t ∧ DataW.trod enc P W base spare held n f0.type ((cs.drop f0.offset).take (P.cellsOf f0.type)) = some y0 ∧
   DataW.trod enc P W base spare held n f1.type ((cs.drop f1.offset).take (P.cellsOf f1.type)) = some y1 ∧ DataW.trod enc P W base spare held n f2.type ((cs.drop f2.offset).take (P.cellsOf f2.type)) = some y2 ∧ DataW.trod enc P W base spare held n f3.type ((cs.drop f3.offset).take (P.cellsOf f3.type)) = some y3 := by
 obtain ⟨xs, n, _, rfl, hl, hlen, hf⟩ := DataW.trod_struct ht h
 match xs, hlen with
 | [y0, y1, y2, y3], _ => exact ⟨y0, y1, y2, y3, n, by simp, hl, by simpa using hf 0 f0 rfl, by simpa using hf 1 f1 rfl, by simpa using hf 2 f2 rfl, by simpa using hf 3 f3 rfl⟩
theorem pair_of_trod {t te e8 : TypeId} {f0 f1 : Field} {fuel : Nat} {cs : List Value} {x : DataW H × List MemPlace} (ht : P.underlying t = some (.struct #[f0, f1])) (h0 : P.underlying f0.type = some (.int .i64)) (h1 : f1.type = te) (hte : P.underlying te = some (.array 32 e8)) (he : P.underlying e8 = some (.int .u8)) (hce : P.cellsOf e8 = 1) (hct : P.cellsOf te = 32)
  (o0 : f0.offset = 0) (o1 : f1.offset = 1) (c0 : P.cellsOf f0.type = 1) (ct : P.cellsOf t = 33) (h : DataW.trod enc P W base spare held fuel t cs = some x) :
  ∃ (n : Int) (d : Dig), cs = .int .i64 n :: d.arr.toList ∧ (Lit.int .i64 n).wf = true := by
 obtain ⟨y0, y1, m, _, hl, k0, k1⟩ := trod_struct2 ht h
 rw [o0, c0, List.drop_zero] at k0
 rw [h1, o1, hct] at k1
 rw [ct] at hl
 obtain ⟨n, hc, _, hw⟩ := DataW.trod_int h0 k0
 obtain ⟨d, hd⟩ := dig_of_trod hte he hce hct k1
 refine ⟨n, d, ?_, hw⟩
 match cs, hl with
 | c :: r, hl =>
  simp only [List.take_succ_cons, List.take_zero, List.cons.injEq, and_true] at hc
  rw [List.drop_succ_cons, List.drop_zero, List.take_of_length_le (by simp at hl; omega)] at hd
  rw [hc, hd, Dig.toList]
theorem open_head {r : Reach} {b0 : Nat} {t te e8 : TypeId} {f0 f1 f2 f3 : Field} {v : Value} {d : DataW H} {p : List MemPlace} (ht : P.underlying t = some (.struct #[f0, f1, f2, f3])) (h0 : P.underlying f0.type = some (.int .i64)) (h1 : f1.type = te) (h2 : f2.type = te) (h3 : f3.type = te) (hte : P.underlying te = some (.array 32 e8)) (he : P.underlying e8 = some (.int .u8)) (hce : P.cellsOf e8 = 1) (hct : P.cellsOf te = 32)
  (o0 : f0.offset = 0) (o1 : f1.offset = 1) (o2 : f2.offset = 33) (o3 : f3.offset = 65) (c0 : P.cellsOf f0.type = 1) (ct : P.cellsOf t = 97)
  (hval : Value.okWide P W r b0 t v) (h : DataW.Trod enc P W base spare held t v d p) : ∃ (n : Int) (x y z : Dig), v = .agg (hdCells n x y z).toArray ∧ (Lit.int .i64 n).wf = true := by
 simp only [Value.okWide, ht] at hval
 obtain ⟨cs, rfl, _⟩ := hval
 obtain ⟨fuel, hf⟩ := h
 simp only [Value.cells] at hf
 obtain ⟨y0, y1, y2, y3, m, _, hl, k0, k1, k2, k3⟩ := trod_struct4 ht hf
 rw [o0, c0, List.drop_zero] at k0
 rw [h1, o1, hct] at k1
 rw [h2, o2, hct] at k2
 rw [h3, o3, hct] at k3
 rw [ct] at hl
 obtain ⟨n, hc, _, hw⟩ := DataW.trod_int h0 k0
 obtain ⟨x, hx⟩ := dig_of_trod hte he hce hct k1
 obtain ⟨y, hy⟩ := dig_of_trod hte he hce hct k2
 obtain ⟨z, hz⟩ := dig_of_trod hte he hce hct k3
 refine ⟨n, x, y, z, ?_, hw⟩
 have e : cs.toList = hdCells n x y z := by
  have q : cs.toList = cs.toList.take 1 ++ ((cs.toList.drop 1).take 32 ++ ((cs.toList.drop 33).take 32 ++ (cs.toList.drop 65).take 32)) := by
   have a1 : (cs.toList.drop 65).take 32 = cs.toList.drop 65 := List.take_of_length_le (by rw [List.length_drop]; omega)
   have a2 : (cs.toList.drop 33).take 32 ++ cs.toList.drop 65 = cs.toList.drop 33 := by
    have := List.take_append_drop 32 (cs.toList.drop 33)
    rwa [List.drop_drop] at this
   have a3 : (cs.toList.drop 1).take 32 ++ cs.toList.drop 33 = cs.toList.drop 1 := by
    have := List.take_append_drop 32 (cs.toList.drop 1)
    rwa [List.drop_drop] at this
   rw [a1, a2, a3, List.take_append_drop]
  rw [q, hc, hx, hy, hz]
  simp [hdCells, Dig.toList]
 rw [← e]
theorem open_pairsS {r : Reach} {b0 : Nat} {t t1 te e8 : TypeId} {f0 f1 : Field} {v : Value} {d : DataW H} {p : List MemPlace} (hts : P.underlying t = some (.slice t1)) (ht : P.underlying t1 = some (.struct #[f0, f1])) (h0 : P.underlying f0.type = some (.int .i64)) (h1 : f1.type = te) (hte : P.underlying te = some (.array 32 e8)) (he : P.underlying e8 = some (.int .u8)) (hce : P.cellsOf e8 = 1) (hct : P.cellsOf te = 32)
  (o0 : f0.offset = 0) (o1 : f1.offset = 1) (c0 : P.cellsOf f0.type = 1) (ct : P.cellsOf t1 = 33)
  (hval : Value.okWide P W r b0 t v) (h : DataW.Trod enc P W base spare held t v d p) :
  ∃ A n c ps, v = .slice A n c ∧ SlR W A n c 33 (pairsL ps) ∧ (∀ q ∈ ps, (Lit.int .i64 q.1).wf = true) ∧ ((d = .nil ∧ n = 0) ∨ ∃ el sp, d = .slice el sp ∧ el.length = n) := by
 obtain ⟨a0, len0, cap0, rfl⟩ := okWide_slice hts hval
 obtain ⟨fuel, hf⟩ := h
 rcases open_slice hts hf with ⟨hcs, hx⟩ | ⟨a, len, cap, m, k, D, Pl, hcs, hb, hl, hm, hmm, hx, hel⟩
 ·simp only [Value.cells, List.cons.injEq, Value.slice.injEq, and_true] at hcs
  obtain ⟨rfl, rfl, rfl⟩ := hcs
  simp only [Prod.mk.injEq] at hx
  exact ⟨none, 0, 0, [], rfl, SlR.nil_ W 33, (fun q hq => by cases hq), .inl ⟨hx.1, rfl⟩⟩
 ·simp only [Value.cells, List.cons.injEq, Value.slice.injEq, and_true] at hcs
  obtain ⟨rfl, rfl, rfl⟩ := hcs
  simp only [Prod.mk.injEq] at hx
  rw [ct] at hel
  have hlm : len0 ≤ m := by rw [hmm]; split <;> omega
  have hin : Inhabited (Int × Dig) := ⟨(0, zeroD)⟩
  obtain ⟨bs, hbs⟩ := choose_below (α := Int × Dig) (n := len0) (p := fun i b => W.cells? base (a.add (i * 33)) 33 = some (.int .i64 b.1 :: b.2.arr.toList) ∧ (Lit.int .i64 b.1).wf = true) (fun i hi => by
   obtain ⟨cs', k1, k2⟩ := hel i (by omega)
   obtain ⟨n, q, rfl, hw⟩ := pair_of_trod ht h0 h1 hte he hce hct o0 o1 c0 ct k2
   exact ⟨(n, q), k1, hw⟩)
  have hs := slr_of (W := W) (base := base) (A := some a) (n := len0) (c := cap0) (s := 33) (by decide) (fun i => .int .i64 (bs i).1 :: (bs i).2.arr.toList) hl hm (fun _ => ⟨a, rfl, fun i hi => (hbs i hi).1⟩)
  refine ⟨some a, len0, cap0, (List.range len0).map bs, rfl, ?_, ?_, .inr ⟨_, _, hx.1, by simp⟩⟩
  ·have hfl : ∀ l : List Nat, l.flatMap (fun i => (.int .i64 (bs i).1 :: (bs i).2.arr.toList : List Value)) = pairsL (l.map bs) := by
    intro l
    induction l with
    | nil => rfl
    | cons x l ih => simp only [List.flatMap_cons, ih, List.map_cons, pairsL]
   rw [hfl] at hs
   exact hs
  ·intro q hq
   obtain ⟨i, hi, rfl⟩ := List.mem_map.1 hq
   exact (hbs i (List.mem_range.1 hi)).2
end
end Go.Proofs.YtaebeemnipafbaaGreatDoor

set_option maxRecDepth 20000
set_option linter.unusedSimpArgs false
set_option linter.unusedVariables false
namespace Go.Proofs.YtaebeemnipafbaaGreatDoor
open Go.RowKit
def hdArr (n : Int) (x y z : Dig) : Array Value := (hdCells n x y z).toArray
theorem hdArr_size (n : Int) (x y z : Dig) : (hdArr n x y z).size = 97 := by simp [hdArr, length_hdCells]
theorem hdArr_list (n : Int) (x y z : Dig) : (hdArr n x y z).toList = .int .i64 n :: (x.arr.toList ++ (y.arr.toList ++ z.arr.toList)) := rfl
theorem hdArr_0 {n : Int} {x y z : Dig} : (hdArr n x y z)[0]? = some (.int .i64 n) := rfl
theorem hdArr_one (n : Int) (x y z : Dig) : ∀ u ∈ (hdArr n x y z).toList, u.oneCell' = true := by
 intro u hu
 rw [hdArr_list] at hu
 simp only [List.mem_cons, List.mem_append, Dig.toList] at hu
 rcases hu with rfl | hu | hu | hu
 ·rfl
 all_goals exact oneCell_bytes u hu
theorem hdArr_all (n : Int) (x y z : Dig) : (hdArr n x y z).all (·.oneCell') = true := Array.all_eq_true_iff_forall_mem.2 fun u hu => hdArr_one n x y z u (Array.mem_toList_iff.2 hu)
theorem range_of_list {W : World} {g t off : Nat} {cs : Array Value} {fr : Nat × Nat} (h : W.heap[g]? = some (.cells cs t fr)) {l : List Value} (hl : ∀ j v, l[j]? = some v → cs.toList[off + j]? = some v) : W.rangeAt g off l :=
 rangeAt_of_cells h (fun j v hv => by rw [← Array.getElem?_toList]; exact hl j v hv)
theorem hdArr_root {W : World} {g t : Nat} {n : Int} {x y z : Dig} {fr : Nat × Nat} (h : W.heap[g]? = some (.cells (hdArr n x y z) t fr)) : W.rangeAt g 1 x.arr.toList :=
 range_of_list h (fun j v hv => by
  have hj := (List.getElem?_eq_some_iff.1 hv).1
  rw [hdArr_list, Nat.add_comm, List.getElem?_cons_succ, List.getElem?_append_left hj]
  exact hv)
theorem hdArr_map {W : World} {g t : Nat} {n : Int} {x y z : Dig} {fr : Nat × Nat} (h : W.heap[g]? = some (.cells (hdArr n x y z) t fr)) : W.rangeAt g 33 y.arr.toList :=
 range_of_list h (fun j v hv => by
  have hj := (List.getElem?_eq_some_iff.1 hv).1
  have hx : x.arr.toList.length = 32 := by simp [Dig.size]
  rw [hdArr_list, show 33 + j = (32 + j) + 1 by omega, List.getElem?_cons_succ, List.getElem?_append_right (by omega), hx, show 32 + j - 32 = j by omega, List.getElem?_append_left hj]
  exact hv)
theorem hdArr_tag {W : World} {g t : Nat} {n : Int} {x y z : Dig} {fr : Nat × Nat} (h : W.heap[g]? = some (.cells (hdArr n x y z) t fr)) : W.rangeAt g 65 z.arr.toList :=
 range_of_list h (fun j v hv => by
  have hx : x.arr.toList.length = 32 := by simp [Dig.size]
  have hy : y.arr.toList.length = 32 := by simp [Dig.size]
  rw [hdArr_list, show 65 + j = (64 + j) + 1 by omega, List.getElem?_cons_succ, List.getElem?_append_right (by omega), hx, show 64 + j - 32 = 32 + j by omega, List.getElem?_append_right (by omega), hy, show 32 + j - 32 = j by omega]
  exact hv)
theorem hdArr_inj {n m : Int} {x y z x' y' z' : Dig} (h : hdArr n x y z = hdArr m x' y' z') : n = m ∧ x = x' ∧ y = y' ∧ z = z' := by
 have h := congrArg Array.toList h
 rw [hdArr_list, hdArr_list] at h
 simp only [List.cons.injEq, Value.int.injEq, true_and] at h
 have l : ∀ d : Dig, d.arr.toList.length = 32 := fun d => by simp [Dig.size]
 obtain ⟨h1, h2⟩ := h
 obtain ⟨h3, h4⟩ := List.append_inj h2 (by rw [l, l])
 obtain ⟨h5, h6⟩ := List.append_inj h4 (by rw [l, l])
 have inj : ∀ d e : Dig, d.arr.toList = e.arr.toList → d = e := fun d e h => by
  rw [Dig.toList, Dig.toList] at h
  have := bytesL_inj h
  cases d
  cases e
  simp only at this
  subst this
  rfl
 exact ⟨h1, inj _ _ h3, inj _ _ h5, inj _ _ h6⟩
theorem hdArr_putTag (n : Int) (x y z d : Dig) : putAt (hdArr n x y z) 65 d.arr.toList = hdArr n x y d := by
 have l : ∀ d : Dig, d.arr.toList.length = 32 := fun d => by simp [Dig.size]
 have e : (hdArr n x y z).toList = (.int .i64 n :: (x.arr.toList ++ y.arr.toList)) ++ z.arr.toList := by rw [hdArr_list]; simp
 have e' : (hdArr n x y d).toList = (.int .i64 n :: (x.arr.toList ++ y.arr.toList)) ++ d.arr.toList := by rw [hdArr_list]; simp
 have hl : (Value.int .i64 n :: (x.arr.toList ++ y.arr.toList)).length = 65 := by simp [l, Dig.size]
 unfold putAt
 apply Array.ext'
 rw [e, e', List.take_left' hl, List.drop_append, hl, List.drop_eq_nil_of_le (by rw [hl, l]; omega), List.drop_eq_nil_of_le (by rw [l, l]; omega)]
 simp
section
variable {P : Program} {ops : Array Oper} {rest : List Oper} {o : Oper} {a : Act} {W : World} {Q : Exit → Act → World → Prop} {d : Option Tmp}
theorem L_sliceMid (hd : o.dst = d) (hw : Region.wanted o (yielded ops a.tmps) = true) {T : TypeId} {x : Operand} (ho : o.op = .slice T x none none none) {g off : Nat} (hx : a.eval x = .pointer (some ⟨g, off, none⟩))
  {n : Nat} {e : TypeId} (hu : P.underlying T = some (.array n e)) {z : Value} {s b : Nat} (he : ElemIs P e z s b) {cs : Array Value} (hg : W.rangeAt g off cs.toList) (hc : cs.size = n * s) (hn : n ≤ maxLen)
  (h : SlR W (some ⟨g, off, none⟩) n n s cs.toList → wpList P ops Q rest (a.put d (.slice (some ⟨g, off, none⟩) n n)) W) : wpList P ops Q (o :: rest) a W := by
 refine L_val hd hw ?_ (h ⟨by simp [hc], Nat.le_refl _, hn, fun _ => ⟨g, off, rfl, hg⟩⟩)
 unfold execOp
 simp only [ho, hx]
 have hb : (Instr.sliceBounds false n n none none none).run P W = .ok (0, n, n) W := by simp [Instr.sliceBounds]
 simp [Instr.sliceAt, run_underlying hu, Instr.sureAddr, hb, he.run_size, Addr.add_mid]
theorem L_shrI (hd : o.dst = d) (hw : Region.wanted o (yielded ops a.tmps) = true) {t t' : TypeId} {x y : Operand} (ho : o.op = .binOp .shr t x y t') {k k' : IntKind} {m : Int} {c : Nat} (hx : a.eval x = .int k m) (hy : a.eval y = .int k' ((c : Nat) : Int)) (hc : c ≤ k.bits)
  (h : wpList P ops Q rest (a.put d (.int k (m / 2 ^ c))) W) : wpList P ops Q (o :: rest) a W := by
 refine L_val hd hw ?_ h
 unfold execOp
 simp only [ho, hx, hy]
 have h1 : (eqGuard .shr t x y (.int k m) (.int k' (c : Int))).run P W = .ok () W := by simp [eqGuard]
 have h2 : (Go.binOp .shr t (.int k m) (.int k' (c : Int))).run P W = .ok (.int k (m / 2 ^ c)) W := by
  show (Op.shift .shr k m k' (c : Int)).run P W = _
  have hneg : ¬ (c : Int) < 0 := by omega
  have hm : min c k.bits = c := by omega
  simp only [Op.shift, hneg, if_false, Int.toNat_natCast, hm, Sem.run_pure]
  congr 2
  exact Int.fdiv_eq_ediv_of_nonneg _ (by exact Int.pow_nonneg (by omega))
 simp [h1, h2]
end
def unsN (n : Int) : Nat := (n % 18446744073709551616).toNat
def byteS (n : Int) (i : Nat) : UInt8 := UInt8.ofNat (unsN n / 2 ^ (8 * i))
theorem byteS_val (n : Int) (i : Nat) (h : i < 8) : IntKind.u8.wrap (n / 2 ^ (8 * i)) = ((byteS n i).toNat : Int) := by
 have h1 := Int.emod_nonneg n (show (18446744073709551616 : Int) ≠ 0 by decide)
 have hu : ((unsN n : Nat) : Int) = n % 18446744073709551616 := by unfold unsN; omega
 rw [byteS, UInt8.toNat_ofNat']
 show (n / 2 ^ (8 * i)) % 256 = _
 rcases (show i = 0 ∨ i = 1 ∨ i = 2 ∨ i = 3 ∨ i = 4 ∨ i = 5 ∨ i = 6 ∨ i = 7 by omega) with rfl | rfl | rfl | rfl | rfl | rfl | rfl | rfl <;> simp only [Nat.reduceMul, Int.reducePow, Nat.reducePow] <;> omega
section
variable {P : Program} {ops : Array Oper} {rest : List Oper} {o : Oper} {a : Act} {W : World} {Q : Exit → Act → World → Prop} {d : Option Tmp}
theorem L_cvS (hd : o.dst = d) (hw : Region.wanted o (yielded ops a.tmps) = true) {s t : TypeId} {x : Operand} (ho : o.op = .convert s t x) {k : IntKind} {n : Int} (i : Nat) (hi : i < 8) (hx : a.eval x = .int k (n / 2 ^ (8 * i))) {ds : TypeDesc} (hs : P.underlying s = some ds) (ht : P.underlying t = some (.int .u8))
  (h : wpList P ops Q rest (a.put d (byteV (byteS n i))) W) : wpList P ops Q (o :: rest) a W := by
 refine L_val hd hw ?_ h
 unfold execOp
 simp only [ho, hx]
 have hb : byteV (byteS n i) = .int .u8 (IntKind.u8.wrap (n / 2 ^ (8 * i))) := by rw [byteS_val n i hi]; rfl
 rw [hb]
 simp [convert, run_underlying hs, run_underlying ht, Conv.intToInt]
theorem L_cvU (hd : o.dst = d) (hw : Region.wanted o (yielded ops a.tmps) = true) {s t : TypeId} {x : Operand} (ho : o.op = .convert s t x) {k : IntKind} {n : Int} (hx : a.eval x = .int k n) {ds : TypeDesc} (hs : P.underlying s = some ds) (ht : P.underlying t = some (.int .u64))
  (h : wpList P ops Q rest (a.put d (.int .u64 ((unsN n : Nat) : Int))) W) : wpList P ops Q (o :: rest) a W := by
 refine L_val hd hw ?_ h
 unfold execOp
 simp only [ho, hx]
 have h1 := Int.emod_nonneg n (show (18446744073709551616 : Int) ≠ 0 by decide)
 have hu : ((unsN n : Nat) : Int) = IntKind.u64.wrap n := by
  show _ = n % 18446744073709551616
  unfold unsN
  omega
 rw [hu]
 simp [convert, run_underlying hs, run_underlying ht, Conv.intToInt]
end
def sz4 (n : Int) : List UInt8 := [byteS n 3, byteS n 2, byteS n 1, byteS n 0]
def sz8 (n : Int) : List UInt8 := [byteS n 7, byteS n 6, byteS n 5, byteS n 4, byteS n 3, byteS n 2, byteS n 1, byteS n 0]
theorem el_api_Head : ElemIs Tryz.prog 41 (.agg (hdArr 0 zeroD zeroD zeroD)) 97 104 := by unfold ElemIs; kernel_rfl
end Go.Proofs.YtaebeemnipafbaaGreatDoor

set_option maxRecDepth 20000
set_option linter.unusedSimpArgs false
set_option linter.unusedVariables false
namespace Go.Proofs.YtaebeemnipafbaaGreatDoor
open Go.ChangeShapes Go.WideShapes Go.ChangeAt Go.RowKit Go.Deep
abbrev Hd := Int × Dig × Dig × Dig
def Hd.cells (h : Hd) : List Value := hdCells h.1 h.2.1 h.2.2.1 h.2.2.2
def headsL (l : List Hd) : List Value := l.flatMap Hd.cells
theorem length_headsL (l : List Hd) : (headsL l).length = l.length * 97 := by
 induction l with
 | nil => rfl
 | cons p l ih =>
  have : headsL (p :: l) = Hd.cells p ++ headsL l := by simp [headsL]
  rw [this, List.length_append, ih, Hd.cells, length_hdCells, List.length_cons]
  omega
abbrev DPiece := Option Addr × Nat × Nat × List Dig
def DPiece.v (p : DPiece) : Value := .slice p.1 p.2.1 p.2.2.1
section
variable {P : Program} {H : Type} {enc : TypeId × Value → H} {W : World} {base : Nat} {spare : Nat → Bool} {held : Bool}
theorem head_of_trod {t te e8 : TypeId} {f0 f1 f2 f3 : Field} {fuel : Nat} {cs : List Value} {x : DataW H × List MemPlace} (ht : P.underlying t = some (.struct #[f0, f1, f2, f3])) (h0 : P.underlying f0.type = some (.int .i64)) (h1 : f1.type = te) (h2 : f2.type = te) (h3 : f3.type = te) (hte : P.underlying te = some (.array 32 e8)) (he : P.underlying e8 = some (.int .u8)) (hce : P.cellsOf e8 = 1) (hct : P.cellsOf te = 32)
  (o0 : f0.offset = 0) (o1 : f1.offset = 1) (o2 : f2.offset = 33) (o3 : f3.offset = 65) (c0 : P.cellsOf f0.type = 1) (ct : P.cellsOf t = 97) (hf : DataW.trod enc P W base spare held fuel t cs = some x) :
  ∃ q : Hd, cs = q.cells ∧ (Lit.int .i64 q.1).wf = true := by
 obtain ⟨y0, y1, y2, y3, m, _, hl, k0, k1, k2, k3⟩ := trod_struct4 ht hf
 rw [o0, c0, List.drop_zero] at k0
 rw [h1, o1, hct] at k1
 rw [h2, o2, hct] at k2
 rw [h3, o3, hct] at k3
 rw [ct] at hl
 obtain ⟨n, hc, _, hw⟩ := DataW.trod_int h0 k0
 obtain ⟨x, hx⟩ := dig_of_trod hte he hce hct k1
 obtain ⟨y, hy⟩ := dig_of_trod hte he hce hct k2
 obtain ⟨z, hz⟩ := dig_of_trod hte he hce hct k3
 refine ⟨(n, x, y, z), ?_, hw⟩
 have q : cs = cs.take 1 ++ ((cs.drop 1).take 32 ++ ((cs.drop 33).take 32 ++ (cs.drop 65).take 32)) := by
  have a1 : (cs.drop 65).take 32 = cs.drop 65 := List.take_of_length_le (by rw [List.length_drop]; omega)
  have a2 : (cs.drop 33).take 32 ++ cs.drop 65 = cs.drop 33 := by
   have := List.take_append_drop 32 (cs.drop 33)
   rwa [List.drop_drop] at this
  have a3 : (cs.drop 1).take 32 ++ cs.drop 33 = cs.drop 1 := by
   have := List.take_append_drop 32 (cs.drop 1)
   rwa [List.drop_drop] at this
  rw [a1, a2, a3, List.take_append_drop]
 rw [q, hc, hx, hy, hz]
 simp [Hd.cells, hdCells, Dig.toList]
theorem open_headsS {r : Reach} {b0 : Nat} {t t1 te e8 : TypeId} {f0 f1 f2 f3 : Field} {v : Value} {d : DataW H} {p : List MemPlace} (hts : P.underlying t = some (.slice t1)) (ht : P.underlying t1 = some (.struct #[f0, f1, f2, f3])) (h0 : P.underlying f0.type = some (.int .i64)) (h1 : f1.type = te) (h2 : f2.type = te) (h3 : f3.type = te) (hte : P.underlying te = some (.array 32 e8)) (he : P.underlying e8 = some (.int .u8)) (hce : P.cellsOf e8 = 1) (hct : P.cellsOf te = 32)
  (o0 : f0.offset = 0) (o1 : f1.offset = 1) (o2 : f2.offset = 33) (o3 : f3.offset = 65) (c0 : P.cellsOf f0.type = 1) (ct : P.cellsOf t1 = 97)
  (hval : Value.okWide P W r b0 t v) (h : DataW.Trod enc P W base spare held t v d p) :
  ∃ A n c hs, v = .slice A n c ∧ SlR W A n c 97 (headsL hs) ∧ (∀ q ∈ hs, (Lit.int .i64 q.1).wf = true) ∧ ((d = .nil ∧ n = 0) ∨ ∃ el sp, d = .slice el sp ∧ el.length = n) := by
 obtain ⟨a0, len0, cap0, rfl⟩ := okWide_slice hts hval
 obtain ⟨fuel, hf⟩ := h
 rcases open_slice hts hf with ⟨hcs, hx⟩ | ⟨a, len, cap, m, k, D, Pl, hcs, hb, hl, hm, hmm, hx, hel⟩
 ·simp only [Value.cells, List.cons.injEq, Value.slice.injEq, and_true] at hcs
  obtain ⟨rfl, rfl, rfl⟩ := hcs
  simp only [Prod.mk.injEq] at hx
  exact ⟨none, 0, 0, [], rfl, SlR.nil_ W 97, (fun q hq => by cases hq), .inl ⟨hx.1, rfl⟩⟩
 ·simp only [Value.cells, List.cons.injEq, Value.slice.injEq, and_true] at hcs
  obtain ⟨rfl, rfl, rfl⟩ := hcs
  simp only [Prod.mk.injEq] at hx
  rw [ct] at hel
  have hlm : len0 ≤ m := by rw [hmm]; split <;> omega
  have hin : Inhabited Hd := ⟨(0, zeroD, zeroD, zeroD)⟩
  obtain ⟨bs, hbs⟩ := choose_below (α := Hd) (n := len0) (p := fun i b => W.cells? base (a.add (i * 97)) 97 = some b.cells ∧ (Lit.int .i64 b.1).wf = true) (fun i hi => by
   obtain ⟨cs', k1, k2⟩ := hel i (by omega)
   obtain ⟨q, rfl, hw⟩ := head_of_trod ht h0 h1 h2 h3 hte he hce hct o0 o1 o2 o3 c0 ct k2
   exact ⟨q, k1, hw⟩)
  have hs := slr_of (W := W) (base := base) (A := some a) (n := len0) (c := cap0) (s := 97) (by decide) (fun i => (bs i).cells) hl hm (fun _ => ⟨a, rfl, fun i hi => (hbs i hi).1⟩)
  refine ⟨some a, len0, cap0, (List.range len0).map bs, rfl, ?_, ?_, .inr ⟨_, _, hx.1, by simp⟩⟩
  ·have hfl : ∀ l : List Nat, l.flatMap (fun i => (bs i).cells) = headsL (l.map bs) := by
    intro l
    induction l with
    | nil => rfl
    | cons x l ih => simp only [List.flatMap_cons, ih, List.map_cons, headsL]
   rw [hfl] at hs
   exact hs
  ·intro q hq
   obtain ⟨i, hi, rfl⟩ := List.mem_map.1 hq
   exact (hbs i (List.mem_range.1 hi)).2
theorem dpiece_of_trod {t e e8 : TypeId} {fuel : Nat} {cs : List Value} {x : DataW H × List MemPlace} (ht : P.underlying t = some (.slice e)) (hte : P.underlying e = some (.array 32 e8)) (he : P.underlying e8 = some (.int .u8)) (hce : P.cellsOf e8 = 1) (hct : P.cellsOf e = 32) (hf : DataW.trod enc P W base spare held fuel t cs = some x) :
  ∃ p : DPiece, cs = [p.v] ∧ SlR W p.1 p.2.1 p.2.2.1 32 (digsL p.2.2.2) := by
 rcases open_slice ht hf with ⟨hcs, hx⟩ | ⟨a, len0, cap0, m, k, D, Pl, hcs, hb, hl, hm, hmm, hx, hel⟩
 ·exact ⟨(none, 0, 0, []), hcs, SlR.nil_ W 32⟩
 ·rw [hct] at hel
  have hlm : len0 ≤ m := by rw [hmm]; split <;> omega
  have hin : Inhabited Dig := ⟨zeroD⟩
  obtain ⟨bs, hbs⟩ := choose_below (α := Dig) (n := len0) (p := fun i b => W.cells? base (a.add (i * 32)) 32 = some (bytesL b.l)) (fun i hi => by
   obtain ⟨cs', h1, h2⟩ := hel i (by omega)
   obtain ⟨q, rfl⟩ := dig_of_trod hte he hce hct h2
   exact ⟨q, h1⟩)
  have hs := slr_of (W := W) (base := base) (A := some a) (n := len0) (c := cap0) (s := 32) (by decide) (fun i => bytesL (bs i).l) hl hm (fun _ => ⟨a, rfl, hbs⟩)
  have hfl : ∀ l : List Nat, l.flatMap (fun i => bytesL (bs i).l) = digsL (l.map bs) := by
   intro l
   induction l with
   | nil => rfl
   | cons x l ih => simp only [List.flatMap_cons, ih, List.map_cons, digsL]
  rw [hfl] at hs
  exact ⟨(some a, len0, cap0, (List.range len0).map bs), hcs, hs⟩
theorem open_digss {r : Reach} {b0 : Nat} {t u e e8 : TypeId} {v : Value} {d : DataW H} {p : List MemPlace} (ht : P.underlying t = some (.slice u)) (hu : P.underlying u = some (.slice e)) (hte : P.underlying e = some (.array 32 e8)) (he : P.underlying e8 = some (.int .u8)) (hce : P.cellsOf e8 = 1) (hct : P.cellsOf e = 32) (hcu : P.cellsOf u = 1)
  (hval : Value.okWide P W r b0 t v) (h : DataW.Trod enc P W base spare held t v d p) :
  ∃ (A : Option Addr) (n c : Nat) (f : Nat → DPiece), v = .slice A n c ∧ SlR W A n c 1 ((List.range n).map fun i => (f i).v) ∧ (∀ i, i < n → SlR W (f i).1 (f i).2.1 (f i).2.2.1 32 (digsL (f i).2.2.2)) ∧ ((d = .nil ∧ n = 0) ∨ ∃ el sp, d = .slice el sp ∧ el.length = n) := by
 obtain ⟨a0, len0, cap0, rfl⟩ := okWide_slice ht hval
 obtain ⟨fuel, hf⟩ := h
 rcases open_slice ht hf with ⟨hcs, hx⟩ | ⟨a, len, cap, m, k, D, Pl, hcs, hb, hl, hm, hmm, hx, hel⟩
 ·simp only [Value.cells, List.cons.injEq, Value.slice.injEq, and_true] at hcs
  obtain ⟨rfl, rfl, rfl⟩ := hcs
  simp only [Prod.mk.injEq] at hx
  exact ⟨none, 0, 0, fun _ => (none, 0, 0, []), rfl, SlR.nil_ W 1, fun i hi => absurd hi (by omega), .inl ⟨hx.1, rfl⟩⟩
 ·simp only [Value.cells, List.cons.injEq, Value.slice.injEq, and_true] at hcs
  obtain ⟨rfl, rfl, rfl⟩ := hcs
  simp only [Prod.mk.injEq] at hx
  rw [hcu] at hel
  have hlm : len0 ≤ m := by rw [hmm]; split <;> omega
  have hin : Inhabited DPiece := ⟨(none, 0, 0, [])⟩
  obtain ⟨f, hf'⟩ := choose_below (α := DPiece) (n := len0) (p := fun i q => W.cells? base (a.add (i * 1)) 1 = some [q.v] ∧ SlR W q.1 q.2.1 q.2.2.1 32 (digsL q.2.2.2)) (fun i hi => by
   obtain ⟨cs', h1, h2⟩ := hel i (by omega)
   obtain ⟨q, rfl, h3⟩ := dpiece_of_trod hu hte he hce hct h2
   exact ⟨q, h1, h3⟩)
  have hs := slr_of (W := W) (base := base) (A := some a) (n := len0) (c := cap0) (s := 1) (by decide) (fun i => [(f i).v]) hl hm (fun _ => ⟨a, rfl, fun i hi => (hf' i hi).1⟩)
  have hfl : ∀ l : List Nat, l.flatMap (fun i => [(f i).v]) = l.map fun i => (f i).v := by
   intro l
   induction l with
   | nil => rfl
   | cons x l ih => simp [ih]
  rw [hfl] at hs
  exact ⟨some a, len0, cap0, f, rfl, hs, fun i hi => (hf' i hi).2, .inr ⟨_, _, hx.1, by simp⟩⟩
end
end Go.Proofs.YtaebeemnipafbaaGreatDoor

set_option maxRecDepth 20000
set_option linter.unusedSimpArgs false
set_option linter.unusedVariables false
namespace Go.Proofs.YtaebeemnipafbaaGreatDoor
open Go.RowKit
section
variable {P : Program}
theorem run_eqDig (dd : Nat) {t e : TypeId} {z : Value} {bb : Nat} (ht : P.underlying t = some (.array 32 e)) (he : P.underlying e = some (.int .u8)) (hi : ElemIs P e z 1 bb) (a b : Dig) (w : World) :
  (Op.equalIn (dd + 2) t (.agg a.arr) (.agg b.arr)).run P w = .ok (decide (a = b)) w := by
 obtain ⟨i, hii, _, hs, _⟩ := hi.parts
 have hc : P.cellsOf e = 1 := by simp [Program.cellsOf, hii, hs]
 rw [run_equalIn_array w (dd + 1) a.arr b.arr ht hii, hc, List.range_eq_range']
 have := run_eqItems_bytes (P := P) dd he a.l b.l w 32 0 (by rw [a.h]) (by rw [a.h, b.h])
 simp only [List.drop_zero] at this
 rw [Dig.arr, Dig.arr, this]
 congr 1
 by_cases h : a = b
 ·subst h; simp
 ·have : a.l ≠ b.l := fun e => h (Dig.ext' e)
  simp [h, this]
theorem run_partD {t e : TypeId} {z : Value} {bb : Nat} (ht : P.underlying t = some (.array 32 e)) (hi : ElemIs P t z 32 bb) {cs : Array Value} {o : Nat} {d : Dig} (hc : (cs.toList.drop o).take 32 = d.arr.toList) (w : World) :
  (part t cs o).run P w = .ok (.agg d.arr) w := by
 obtain ⟨i, hii, _, hs, _⟩ := hi.parts
 have hagg : (isAgg t).run P w = .ok true w := by
  unfold isAgg
  rw [Sem.run_bind, run_underlying ht]
  rfl
 have hx : cs.extract o (o + 32) = d.arr := by
  apply Array.ext'
  rw [Array.toList_extract, List.extract_eq_take_drop, show o + 32 - o = 32 by omega]
  exact hc
 simp [part, hagg, sizeOf, typeInfo, hii, hs, hx]
end
section
variable {P : Program} {t ti td e8 : TypeId} {zd : Value} {bd : Nat} {z8 : Value} {b8 : Nat}
theorem hd_part (n : Int) (x y z : Dig) : ((hdArr n x y z).toList.drop 1).take 32 = x.arr.toList ∧ ((hdArr n x y z).toList.drop 33).take 32 = y.arr.toList ∧ ((hdArr n x y z).toList.drop 65).take 32 = z.arr.toList := by
 have l : ∀ d : Dig, d.arr.toList.length = 32 := fun d => by simp [Dig.size]
 rw [hdArr_list]
 refine ⟨?_, ?_, ?_⟩
 ·rw [List.drop_succ_cons, List.drop_zero, List.take_left' (l x)]
 ·rw [List.drop_succ_cons, List.drop_left' (l x), List.take_left' (l y)]
 ·rw [List.drop_succ_cons, ← List.append_assoc, List.drop_left' (by rw [List.length_append, l, l]), List.take_of_length_le (by rw [l]; exact Nat.le_refl _)]
theorem run_eqHead {f0 f1 f2 f3 : Field} (hS0 : P.underlying t = some (.struct #[f0, f1, f2, f3])) (hp : P.stoodInHeld t = false) (n0 : f0.name ≠ "_") (n1 : f1.name ≠ "_") (n2 : f2.name ≠ "_") (n3 : f3.name ≠ "_")
  (hi : P.underlying f0.type = some (.int .i64)) (h1 : f1.type = td) (h2 : f2.type = td) (h3 : f3.type = td) (o0 : f0.offset = 0) (o1 : f1.offset = 1) (o2 : f2.offset = 33) (o3 : f3.offset = 65)
  (ht : P.underlying td = some (.array 32 e8)) (hd : ElemIs P td zd 32 bd) (he : P.underlying e8 = some (.int .u8)) (h8 : ElemIs P e8 z8 1 b8) (n m : Int) (x y z x' y' z' : Dig) (w : World) :
  (Op.equalIn 10000 t (.agg (hdArr n x y z)) (.agg (hdArr m x' y' z'))).run P w = .ok (decide (n = m ∧ x = x' ∧ y = y' ∧ z = z')) w := by
 have hFo : P.fieldsOf t = #[f0, f1, f2, f3] := by unfold Program.fieldsOf; rw [hS0]
 rw [show (10000 : Nat) = 9999 + 1 from rfl, run_equalIn_agg w 9999 t _ _ (by rw [hFo]; exact hS0) hp, hFo]
 obtain ⟨p1, p2, p3⟩ := hd_part n x y z
 obtain ⟨q1, q2, q3⟩ := hd_part m x' y' z'
 have i0 := run_part1 (P := P) (d := .int .i64) hi rfl (hdArr_0 (n := n) (x := x) (y := y) (z := z)) w
 have j0 := run_part1 (P := P) (d := .int .i64) hi rfl (hdArr_0 (n := m) (x := x') (y := y') (z := z')) w
 have i1 := run_partD ht hd p1 w
 have i2 := run_partD ht hd p2 w
 have i3 := run_partD ht hd p3 w
 have j1 := run_partD ht hd q1 w
 have j2 := run_partD ht hd q2 w
 have j3 := run_partD ht hd q3 w
 have e0 : (Op.equalIn 9999 f0.type (.int .i64 n) (.int .i64 m)).run P w = .ok (n == m) w := run_equalIn_int w 9998 f0.type .i64 .i64 n m hi
 have e1 : (Op.equalIn 9999 td (.agg x.arr) (.agg x'.arr)).run P w = .ok (decide (x = x')) w := run_eqDig (P := P) 9997 ht he h8 x x' w
 have e2 : (Op.equalIn 9999 td (.agg y.arr) (.agg y'.arr)).run P w = .ok (decide (y = y')) w := run_eqDig (P := P) 9997 ht he h8 y y' w
 have e3 : (Op.equalIn 9999 td (.agg z.arr) (.agg z'.arr)).run P w = .ok (decide (z = z')) w := run_eqDig (P := P) 9997 ht he h8 z z' w
 simp only [Op.eqFields, n0, n1, n2, n3, ne_eq, not_false_eq_true, if_true, h1, h2, h3, o0, o1, o2, o3, Sem.run_bind, i0, i1, i2, i3, j0, j1, j2, j3, e0, Result.andThen_ok, e1, e2, e3]
 by_cases a0 : n = m
 ·rw [beq_iff_eq.2 a0]
  simp only [Bool.not_true, Bool.false_eq_true, if_false, Sem.run_bind, i1, j1, i2, j2, i3, j3, Result.andThen_ok, e1, e2, e3]
  by_cases a1 : x = x'
  ·rw [decide_eq_true a1]
   simp only [Bool.not_true, Bool.false_eq_true, if_false, Sem.run_bind, i2, j2, i3, j3, Result.andThen_ok, e2, e3]
   by_cases a2 : y = y'
   ·rw [decide_eq_true a2]
    simp only [Bool.not_true, Bool.false_eq_true, if_false, Sem.run_bind, i3, j3, Result.andThen_ok, e3]
    by_cases a3 : z = z' <;> simp [a0, a1, a2, a3]
   ·rw [decide_eq_false a2]
    simp [a2]
  ·rw [decide_eq_false a1]
   simp [a1]
 ·simp [a0]
theorem run_eqPair {f0 f1 : Field} (hS0 : P.underlying t = some (.struct #[f0, f1])) (hp : P.stoodInHeld t = false) (n0 : f0.name ≠ "_") (n1 : f1.name ≠ "_")
  (hi : P.underlying f0.type = some (.int .i64)) (h1 : f1.type = td) (o0 : f0.offset = 0) (o1 : f1.offset = 1)
  (ht : P.underlying td = some (.array 32 e8)) (hd : ElemIs P td zd 32 bd) (he : P.underlying e8 = some (.int .u8)) (h8 : ElemIs P e8 z8 1 b8) (n m : Int) (x x' : Dig) (w : World) :
  (Op.equalIn 10000 t (.agg (.int .i64 n :: x.arr.toList).toArray) (.agg (.int .i64 m :: x'.arr.toList).toArray)).run P w = .ok (decide (n = m ∧ x = x')) w := by
 have hFo : P.fieldsOf t = #[f0, f1] := by unfold Program.fieldsOf; rw [hS0]
 rw [show (10000 : Nat) = 9999 + 1 from rfl, run_equalIn_agg w 9999 t _ _ (by rw [hFo]; exact hS0) hp, hFo]
 have l : ∀ d : Dig, d.arr.toList.length = 32 := fun d => by simp [Dig.size]
 have p : ∀ (n : Int) (d : Dig), (((Value.int .i64 n :: d.arr.toList).toArray).toList.drop 1).take 32 = d.arr.toList := fun n d => by
  rw [List.toList_toArray, List.drop_succ_cons, List.drop_zero, List.take_of_length_le (by rw [l]; exact Nat.le_refl _)]
 have i0 := run_part1 (P := P) (d := .int .i64) hi rfl (cs := (Value.int .i64 n :: x.arr.toList).toArray) (k := 0) (v := .int .i64 n) rfl w
 have j0 := run_part1 (P := P) (d := .int .i64) hi rfl (cs := (Value.int .i64 m :: x'.arr.toList).toArray) (k := 0) (v := .int .i64 m) rfl w
 have i1 := run_partD ht hd (p n x) w
 have j1 := run_partD ht hd (p m x') w
 have e0 : (Op.equalIn 9999 f0.type (.int .i64 n) (.int .i64 m)).run P w = .ok (n == m) w := run_equalIn_int w 9998 f0.type .i64 .i64 n m hi
 have e1 : (Op.equalIn 9999 td (.agg x.arr) (.agg x'.arr)).run P w = .ok (decide (x = x')) w := run_eqDig (P := P) 9997 ht he h8 x x' w
 simp only [Op.eqFields, n0, n1, ne_eq, not_false_eq_true, if_true, h1, o0, o1, Sem.run_bind, i0, i1, j0, j1, e0, Result.andThen_ok, e1]
 by_cases a0 : n = m
 ·rw [beq_iff_eq.2 a0]
  simp only [Bool.not_true, Bool.false_eq_true, if_false, Sem.run_bind, i1, j1, Result.andThen_ok, e1]
  by_cases a1 : x = x' <;> simp [a0, a1]
 ·simp [a0]
end
section
variable {P : Program} {ops : Array Oper} {rest : List Oper} {o : Oper} {a : Act} {W : World} {Q : Exit → Act → World → Prop} {d : Option Tmp}
theorem L_eqA (hd : o.dst = d) (hw : Region.wanted o (yielded ops a.tmps) = true) {t t' : TypeId} {x y : Operand} (ho : o.op = .binOp .eql t x y t') {cs cs' : Array Value} (hg : P.eqGuardType P.depth t = false) (hx : a.eval x = .agg cs) (hy : a.eval y = .agg cs') {r : Bool}
  (hr : (Op.equalIn 10000 t (.agg cs) (.agg cs')).run P W = .ok r W) (h : wpList P ops Q rest (a.put d (.bool r)) W) : wpList P ops Q (o :: rest) a W := by
 refine L_val hd hw ?_ h
 unfold execOp
 simp only [ho, hx, hy]
 have h1 : (eqGuard .eql t x y (.agg cs) (.agg cs')).run P W = .ok () W := by simp [eqGuard, program, Sem.run, hg]
 have h2 := run_eql_struct (P := P) W t cs cs'
 rw [hr] at h2
 simp [h1, h2]
theorem L_neA (hd : o.dst = d) (hw : Region.wanted o (yielded ops a.tmps) = true) {t t' : TypeId} {x y : Operand} (ho : o.op = .binOp .neq t x y t') {cs cs' : Array Value} (hg : P.eqGuardType P.depth t = false) (hx : a.eval x = .agg cs) (hy : a.eval y = .agg cs') {r : Bool}
  (hr : (Op.equalIn 10000 t (.agg cs) (.agg cs')).run P W = .ok r W) (h : wpList P ops Q rest (a.put d (.bool (!r))) W) : wpList P ops Q (o :: rest) a W := by
 refine L_val hd hw ?_ h
 unfold execOp
 simp only [ho, hx, hy]
 have h1 : (eqGuard .neq t x y (.agg cs) (.agg cs')).run P W = .ok () W := by simp [eqGuard, program, Sem.run, hg]
 have h2 := run_neq_struct (P := P) W t cs cs'
 rw [hr] at h2
 simp [h1, h2]
end
theorem eqG_Head : Tryz.prog.eqGuardType Tryz.prog.depth 41 = false := by kernel_rfl
theorem eqHead (n m : Int) (x y z x' y' z' : Dig) (w : World) : (Op.equalIn 10000 41 (.agg (hdArr n x y z)) (.agg (hdArr m x' y' z'))).run Tryz.prog w = .ok (decide (n = m ∧ x = x' ∧ y = y' ∧ z = z')) w :=
 run_eqHead Tryz.underlying41 (by kernel_rfl) (by decide) (by decide) (by decide) (by decide) Tryz.underlying3 rfl rfl rfl rfl rfl rfl rfl Tryz.underlying32 el_api_Digest Tryz.underlying5 el_uint8 n m x y z x' y' z' w
end Go.Proofs.YtaebeemnipafbaaGreatDoor

set_option maxRecDepth 20000
set_option linter.unusedSimpArgs false
set_option linter.unusedVariables false
namespace Go.Proofs.YtaebeemnipafbaaGreatDoor
open Go.RowKit
theorem headsL_app (a b : List Hd) : headsL (a ++ b) = headsL a ++ headsL b := by simp [headsL]
theorem headsL_one (q : Hd) : headsL [q] = (hdArr q.1 q.2.1 q.2.2.1 q.2.2.2).toList := by simp [headsL, Hd.cells, hdArr]
theorem heads_at (hs : List Hd) (i : Nat) (h : i < hs.length) : ((headsL hs).drop ((i : Int).toNat * 97)).take 97 = (hdArr hs[i].1 hs[i].2.1 hs[i].2.2.1 hs[i].2.2.2).toList := by
 have e : hs = hs.take i ++ ([hs[i]] ++ hs.drop (i + 1)) := by
  rw [List.singleton_append, ← List.drop_eq_getElem_cons h, List.take_append_drop]
 conv => lhs; rw [e]
 have hl : (headsL (hs.take i)).length = (i : Int).toNat * 97 := by rw [length_headsL, List.length_take, Nat.min_eq_left (by omega)]; rfl
 rw [headsL_app, List.drop_left' hl, headsL_app, headsL_one, List.take_left' (by rw [Array.length_toList, hdArr_size])]
theorem head_cells {W : World} {g off i : Nat} {hs : List Hd} (h : W.rangeAt g (off + (i : Int).toNat * 97) (((headsL hs).drop ((i : Int).toNat * 97)).take 97)) (hi : i < hs.length) : W.rangeAt g (off + (i : Int).toNat * 97) (hdArr hs[i].1 hs[i].2.1 hs[i].2.2.1 hs[i].2.2.2).toList := by
 rwa [heads_at hs i hi] at h
theorem dpiece_at {W : World} {g off i n : Nat} {f : Nat → DPiece} (h : W.rangeAt g (off + (i : Int).toNat * 1) ((((List.range n).map fun i => (f i).v).drop ((i : Int).toNat * 1)).take 1)) (hi : i < n) : W.cell? ⟨g, off + (i : Int).toNat * 1, none⟩ = some (.slice (f i).1 (f i).2.1 (f i).2.2.1) := by
 have := h 0 (f i).v (by simp [hi])
 simpa [DPiece.v] using this
def flipD (d : Dig) : Dig := ⟨(d.l.headD 0 ^^^ 1) :: d.l.tail, by
 have := d.h
 rw [List.length_cons, List.length_tail]
 omega⟩
theorem flip_ne (d : Dig) : flipD d ≠ d := by
 intro h
 have h1 := congrArg Dig.l h
 have hd := d.h
 cases hl : d.l with
 | nil => rw [hl] at hd; simp at hd
 | cons a r =>
  simp only [flipD, hl, List.headD_cons, List.tail_cons, List.cons.injEq, and_true] at h1
  have h2 := congrArg (a ^^^ ·) h1
  simp only [← UInt8.xor_assoc, UInt8.xor_self, UInt8.zero_xor] at h2
  exact absurd h2 (by decide)
theorem hdArr_65 {n : Int} {x y z : Dig} : (hdArr n x y z)[65]? = some (byteV (z.l.headD 0)) := by
 have l : ∀ d : Dig, d.arr.toList.length = 32 := fun d => by simp [Dig.size]
 rw [← Array.getElem?_toList, hdArr_list, show 65 = 64 + 1 from rfl, List.getElem?_cons_succ, List.getElem?_append_right (by rw [l]; omega), l, List.getElem?_append_right (by rw [l]; omega), l]
 have hd := z.h
 rw [Dig.toList]
 cases hl : z.l with
 | nil => rw [hl] at hd; simp at hd
 | cons a r => simp [bytesL]
theorem hdArr_flip (n : Int) (x y z : Dig) : (hdArr n x y z).setIfInBounds 65 (byteV (z.l.headD 0 ^^^ 1)) = hdArr n x y (flipD z) := by
 have l : ∀ d : Dig, d.arr.toList.length = 32 := fun d => by simp [Dig.size]
 apply Array.ext'
 rw [Array.toList_setIfInBounds, hdArr_list, hdArr_list, show 65 = 64 + 1 from rfl, List.set_cons_succ, List.set_append_right _ _ (by rw [l]; omega), l, List.set_append_right _ _ (by rw [l]; omega), l]
 have hd := z.h
 rw [Dig.toList z, Dig.toList (flipD z)]
 cases hl : z.l with
 | nil => rw [hl] at hd; simp at hd
 | cons a r => simp [bytesL, flipD, hl]
section
variable {P : Program} {ops : Array Oper} {rest : List Oper} {o : Oper} {a : Act} {W : World} {Q : Exit → Act → World → Prop} {d : Option Tmp}
theorem L_fieldD (hd : o.dst = d) (hw : Region.wanted o (yielded ops a.tmps) = true) {T : TypeId} {x : Operand} {k : Nat} (ho : o.op = .field T x k) {fs : Array Field} (hu : P.underlying T = some (.struct fs)) {fl : Field} (hf : fs[k]? = some fl) {cs : Array Value} (hx : a.eval x = .agg cs)
  {e : TypeId} (ht : P.underlying fl.type = some (.array 32 e)) {z : Value} {b : Nat} (hi : ElemIs P fl.type z 32 b) {q : Dig} (hc : (cs.toList.drop fl.offset).take 32 = q.arr.toList)
  (h : wpList P ops Q rest (a.put d (.agg q.arr)) W) : wpList P ops Q (o :: rest) a W := by
 refine L_val hd hw ?_ h
 unfold execOp
 simp only [ho, hx]
 simp [Instr.field, run_underlying hu, hf, asAgg, run_partD ht hi hc]
end
end Go.Proofs.YtaebeemnipafbaaGreatDoor

set_option maxRecDepth 20000
set_option linter.unusedSimpArgs false
set_option linter.unusedVariables false
namespace Go.Proofs.YtaebeemnipafbaaGreatDoor
open Go.RowKit
def prArr (n : Int) (d : Dig) : Array Value := (.int .i64 n :: d.arr.toList).toArray
theorem prArr_size (n : Int) (d : Dig) : (prArr n d).size = 33 := by simp [prArr, Dig.size]
theorem prArr_list (n : Int) (d : Dig) : (prArr n d).toList = .int .i64 n :: d.arr.toList := rfl
theorem prArr_0 {n : Int} {d : Dig} : (prArr n d)[0]? = some (.int .i64 n) := rfl
theorem prArr_one (n : Int) (d : Dig) : ∀ u ∈ (prArr n d).toList, u.oneCell' = true := by
 intro u hu
 rw [prArr_list] at hu
 rcases List.mem_cons.1 hu with rfl | hu
 ·rfl
 ·rw [Dig.toList] at hu
  exact oneCell_bytes u hu
theorem prArr_all (n : Int) (d : Dig) : (prArr n d).all (·.oneCell') = true := Array.all_eq_true_iff_forall_mem.2 fun u hu => prArr_one n d u (Array.mem_toList_iff.2 hu)
theorem prArr_range {W : World} {g t : Nat} {n : Int} {d : Dig} {fr : Nat × Nat} (h : W.heap[g]? = some (.cells (prArr n d) t fr)) : W.rangeAt g 1 d.arr.toList :=
 rangeAt_of_cells h (fun j v hv => by
  have : (prArr n d)[1 + j]? = (prArr n d).toList[1 + j]? := (Array.getElem?_toList ..).symm
  rw [this, prArr_list, Nat.add_comm, List.getElem?_cons_succ]
  exact hv)
theorem pairsL_app (a b : List (Int × Dig)) : pairsL (a ++ b) = pairsL a ++ pairsL b := by simp [pairsL]
theorem pairsL_one (n : Int) (d : Dig) : pairsL [(n, d)] = (prArr n d).toList := by simp [pairsL, prArr_list]
theorem pairs_at (ss : List (Int × Dig)) (i : Nat) (h : i < ss.length) : ((pairsL ss).drop ((i : Int).toNat * 33)).take 33 = (prArr ss[i].1 ss[i].2).toList := by
 have e : ss = ss.take i ++ ([(ss[i].1, ss[i].2)] ++ ss.drop (i + 1)) := by
  rw [List.singleton_append, ← List.drop_eq_getElem_cons h, List.take_append_drop]
 conv => lhs; rw [e]
 have hl : (pairsL (ss.take i)).length = (i : Int).toNat * 33 := by rw [length_pairsL, List.length_take, Nat.min_eq_left (by omega)]; rfl
 rw [pairsL_app, List.drop_left' hl, pairsL_app, pairsL_one, List.take_left' (by rw [Array.length_toList, prArr_size])]
theorem pair_cells {W : World} {g off i : Nat} {ss : List (Int × Dig)} (h : W.rangeAt g (off + (i : Int).toNat * 33) (((pairsL ss).drop ((i : Int).toNat * 33)).take 33)) (hi : i < ss.length) : W.rangeAt g (off + (i : Int).toNat * 33) (prArr ss[i].1 ss[i].2).toList := by
 rwa [pairs_at ss i hi] at h
section
variable {P : Program} {ops : Array Oper} {rest : List Oper} {o : Oper} {a : Act} {W : World} {Q : Exit → Act → World → Prop} {d : Option Tmp}
theorem L_buildP (hd : o.dst = d) (hw : Region.wanted o (yielded ops a.tmps) = true) {T : TypeId} {x y : Operand} (ho : o.op = .build T #[(0, x), (1, y)]) {f0 f1 : Field} (hu : P.underlying T = some (.struct #[f0, f1])) {z0 z1 : Value} {b0 b1 : Nat} (h0 : ElemIs P f0.type z0 1 b0) (h1 : ElemIs P f1.type z1 32 b1) (o0 : f0.offset = 0) (o1 : f1.offset = 1)
  {cs : Array Value} {b : Nat} (he : ElemIs P T (.agg cs) 33 b) (hcs : cs.size = 33) {n : Int} {q : Dig} (hx : a.eval x = .int .i64 n) (hy : a.eval y = .agg q.arr)
  (h : wpList P ops Q rest (a.put d (.agg (prArr n q))) W) : wpList P ops Q (o :: rest) a W := by
 refine L_val hd hw ?_ h
 have hq : q.arr.size = 32 := Dig.size q
 have hf := fold_put q.arr.toList 0 1 (cs.setIfInBounds 0 (.int .i64 n)) (by simp [hcs, hq])
 have hz : (q.arr.zipIdx.foldl (fun cs x => match x with | (c, j) => cs.setIfInBounds (1 + j) c) (cs.setIfInBounds 0 (.int .i64 n))) = putAt (cs.setIfInBounds 0 (.int .i64 n)) 1 q.arr.toList := by
  rw [← Array.foldl_toList, Array.toList_zipIdx]
  simpa using hf
 have hp : putAt (cs.setIfInBounds 0 (.int .i64 n)) 1 q.arr.toList = prArr n q := by
  obtain ⟨l⟩ := cs
  match l, hcs with
  | c :: l, hcs =>
   have hl : l.length = 32 := by simpa using hcs
   unfold putAt prArr
   simp [hq]
   omega
 rw [hp] at hz
 have hz' : (q.arr.zipIdx.foldl (fun cs x => cs.setIfInBounds (1 + x.2) x.1) (cs.setIfInBounds 0 (.int .i64 n))) = prArr n q := hz
 rw [show q.arr.zipIdx.size = 32 by simp [hq]] at hz'
 unfold execOp
 simp only [ho]
 have hfill : Instr.fill (fun x => ([(0, 1), (1, 32)] : List (Nat × Nat))[x]?) cs [(0, .int .i64 n), (1, .agg q.arr)] = some (prArr n q) := by
  have e1 : ¬ (cs.size < 1) := by omega
  simp [Instr.fill, Value.cells, hq, hcs, hz']
 simp [Instr.build, he.run_zero, run_underlying hu, Value.cells, hx, hy, h0.run_size, h1.run_size, o0, o1]
 rw [hfill]
 rfl
theorem L_buildPF (hd : o.dst = d) (hw : Region.wanted o (yielded ops a.tmps) = true) {T : TypeId} {x : Operand} (ho : o.op = .build T #[(0, x)]) {f0 f1 f2 f3 : Field} (hu : P.underlying T = some (.struct #[f0, f1, f2, f3])) {z0 z1 z2 z3 : Value} {s1 s2 s3 b0 b1 b2 b3 : Nat} (h0 : ElemIs P f0.type z0 1 b0) (h1 : ElemIs P f1.type z1 s1 b1) (h2 : ElemIs P f2.type z2 s2 b2) (h3 : ElemIs P f3.type z3 s3 b3) (o0 : f0.offset = 0)
  {cs : Array Value} {s b : Nat} (he : ElemIs P T (.agg cs) s b) (hcs : 0 < cs.size) {v : Value} (hx : a.eval x = v) (hv : v.oneCell' = true)
  (h : wpList P ops Q rest (a.put d (.agg (cs.setIfInBounds 0 v))) W) : wpList P ops Q (o :: rest) a W := by
 have hc : v.cells = #[v] := by cases v <;> simp_all [Value.oneCell', Value.cells]
 refine L_val hd hw ?_ h
 unfold execOp
 simp only [ho]
 have hfill : Instr.fill (fun x => ([(0, 1), (f1.offset, s1), (f2.offset, s2), (f3.offset, s3)] : List (Nat × Nat))[x]?) cs [(0, v)] = some (cs.setIfInBounds 0 v) := by
  have e1 : ¬ (cs.size < 1) := by omega
  have hne : cs ≠ #[] := fun e => by rw [e] at hcs; exact absurd hcs (by decide)
  simp [Instr.fill, hc, hne]
 simp [Instr.build, he.run_zero, run_underlying hu, Value.cells, hx, h0.run_size, h1.run_size, h2.run_size, h3.run_size, o0]
 rw [hfill]
 rfl
end
end Go.Proofs.YtaebeemnipafbaaGreatDoor

set_option maxRecDepth 20000
set_option linter.unusedSimpArgs false
set_option linter.unusedVariables false
namespace Go.Proofs.YtaebeemnipafbaaGreatDoor
open Go.RowKit
theorem range_part {W : World} {g t : Nat} {cs : Array Value} {fr : Nat × Nat} (h : W.heap[g]? = some (.cells cs t fr)) (pre l post : List Value) (hl : cs.toList = pre ++ (l ++ post)) {off : Nat} (ho : pre.length = off) : W.rangeAt g off l :=
 range_of_list h (fun j v hv => by
  have hj := (List.getElem?_eq_some_iff.1 hv).1
  rw [hl, ← ho, List.getElem?_append_right (by omega), show pre.length + j - pre.length = j by omega, List.getElem?_append_left hj]
  exact hv)
theorem cell_part {cs : Array Value} (pre : List Value) (v : Value) (post : List Value) (hl : cs.toList = pre ++ (v :: post)) {off : Nat} (ho : pre.length = off) : cs[off]? = some v := by
 rw [← Array.getElem?_toList, hl, ← ho, List.getElem?_append_right (Nat.le_refl _), Nat.sub_self]
 rfl
theorem set_part {cs ds : Array Value} (pre : List Value) (v u : Value) (post : List Value) (hl : cs.toList = pre ++ (v :: post)) (hd : ds.toList = pre ++ (u :: post)) {off : Nat} (ho : pre.length = off) : cs.setIfInBounds off u = ds := by
 apply Array.ext'
 rw [Array.toList_setIfInBounds, hl, hd, ← ho, List.set_append_right _ _ (Nat.le_refl _), Nat.sub_self]
 rfl
theorem put_part {cs ds : Array Value} (pre l m post : List Value) (hl : cs.toList = pre ++ (l ++ post)) (hd : ds.toList = pre ++ (m ++ post)) (hm : m.length = l.length) {off : Nat} (ho : pre.length = off) : putAt cs off m = ds := by
 apply Array.ext'
 unfold putAt
 rw [List.toList_toArray, hl, hd, ← ho, List.take_left, hm, ← List.drop_drop, List.drop_left, List.drop_left, List.append_assoc]
theorem dig_len (d : Dig) : d.arr.toList.length = 32 := by simp [Dig.size]
theorem dig_cells (d : Dig) : ∀ u ∈ d.arr.toList, u.oneCell' = true := by
 rw [Dig.toList]
 exact oneCell_bytes
def ntArr (s : List UInt8) (k : Dig) (n : Int) : Array Value := (.string (bsOf s) :: (k.arr.toList ++ [.int .i64 n])).toArray
theorem ntArr_list (s : List UInt8) (k : Dig) (n : Int) : (ntArr s k n).toList = .string (bsOf s) :: (k.arr.toList ++ [.int .i64 n]) := rfl
theorem ntArr_size (s : List UInt8) (k : Dig) (n : Int) : (ntArr s k n).size = 34 := by simp [ntArr, Dig.size]
theorem ntArr_len (s : List UInt8) (k : Dig) (n : Int) : (ntArr s k n).toList.length = 34 := by rw [Array.length_toList, ntArr_size]
theorem ntArr_0 {s : List UInt8} {k : Dig} {n : Int} : (ntArr s k n)[0]? = some (.string (bsOf s)) := rfl
theorem ntArr_33 {s : List UInt8} {k : Dig} {n : Int} : (ntArr s k n)[33]? = some (.int .i64 n) :=
 cell_part (.string (bsOf s) :: k.arr.toList) _ [] (by rw [ntArr_list]; rfl) (by simp [Dig.size])
theorem ntArr_key {W : World} {g t : Nat} {s : List UInt8} {k : Dig} {n : Int} {fr : Nat × Nat} (h : W.heap[g]? = some (.cells (ntArr s k n) t fr)) : W.rangeAt g 1 k.arr.toList :=
 range_part h [.string (bsOf s)] _ [.int .i64 n] rfl rfl
theorem ntArr_one (s : List UInt8) (k : Dig) (n : Int) : ∀ u ∈ (ntArr s k n).toList, u.oneCell' = true := by
 intro u hu
 rw [ntArr_list] at hu
 simp only [List.mem_cons, List.mem_append, List.not_mem_nil, or_false] at hu
 rcases hu with rfl | hu | rfl
 ·rfl
 ·exact dig_cells k u hu
 ·rfl
theorem ntArr_all (s : List UInt8) (k : Dig) (n : Int) : (ntArr s k n).all (·.oneCell') = true := Array.all_eq_true_iff_forall_mem.2 fun u hu => ntArr_one s k n u (Array.mem_toList_iff.2 hu)
theorem ntArr_turn (s : List UInt8) (k : Dig) (n m : Int) : (ntArr s k n).setIfInBounds 33 (.int .i64 m) = ntArr s k m :=
 set_part (.string (bsOf s) :: k.arr.toList) (.int .i64 n) (.int .i64 m) [] (by rw [ntArr_list]; rfl) (by rw [ntArr_list]; rfl) (by simp [Dig.size])
theorem ntArr_putKey (s : List UInt8) (k d : Dig) (n : Int) : putAt (ntArr s k n) 1 d.arr.toList = ntArr s d n :=
 put_part [.string (bsOf s)] k.arr.toList d.arr.toList [.int .i64 n] rfl rfl (by rw [dig_len, dig_len]) rfl
theorem ntArr_name (s u : List UInt8) (k : Dig) (n : Int) : putAt (ntArr u k n) 0 [.string (bsOf s)] = ntArr s k n :=
 put_part (cs := ntArr u k n) (ds := ntArr s k n) [] [.string (bsOf u)] [.string (bsOf s)] (k.arr.toList ++ [Value.int .i64 n]) rfl rfl rfl rfl
theorem ntArr_inj {s u : List UInt8} {k d : Dig} {n m : Int} (h : ntArr s k n = ntArr u d m) : s = u ∧ k = d ∧ n = m := by
 have h := congrArg Array.toList h
 rw [ntArr_list, ntArr_list] at h
 simp only [List.cons.injEq, Value.string.injEq] at h
 obtain ⟨h1, h2⟩ := h
 obtain ⟨h3, h4⟩ := List.append_inj h2 (by rw [dig_len, dig_len])
 refine ⟨bsOf_inj h1, ?_, by simpa using h4⟩
 rw [Dig.toList, Dig.toList] at h3
 exact Dig.ext' (bytesL_inj h3)
def NoteN.arr (n : NoteN) : Array Value := ntArr n.name n.key n.turn
def NoteN.v (n : NoteN) : Value := .agg n.arr
def notesL (ns : List NoteN) : List Value := ns.flatMap fun n => n.arr.toList
theorem length_notesL (ns : List NoteN) : (notesL ns).length = ns.length * 34 := by
 induction ns with
 | nil => rfl
 | cons n ns ih => simp only [notesL, List.flatMap_cons, List.length_append] at ih ⊢; rw [ih, show n.arr.toList.length = 34 from ntArr_len _ _ _, List.length_cons]; omega
theorem notesL_app (a b : List NoteN) : notesL (a ++ b) = notesL a ++ notesL b := by simp [notesL]
theorem notesL_one (n : NoteN) : notesL [n] = n.arr.toList := by simp [notesL]
theorem notes_at (ns : List NoteN) (i : Nat) (h : i < ns.length) : ((notesL ns).drop ((i : Int).toNat * 34)).take 34 = (ns[i]).arr.toList := by
 have e : ns = ns.take i ++ ([ns[i]] ++ ns.drop (i + 1)) := by
  rw [List.singleton_append, ← List.drop_eq_getElem_cons h, List.take_append_drop]
 conv => lhs; rw [e]
 have hl : (notesL (ns.take i)).length = (i : Int).toNat * 34 := by rw [length_notesL, List.length_take, Nat.min_eq_left (by omega)]; rfl
 rw [notesL_app, List.drop_left' hl, notesL_app, notesL_one, List.take_left' (show (ns[i]).arr.toList.length = 34 from ntArr_len _ _ _)]
theorem note_cells {W : World} {g off i : Nat} {ns : List NoteN} (h : W.rangeAt g (off + (i : Int).toNat * 34) (((notesL ns).drop ((i : Int).toNat * 34)).take 34)) (hi : i < ns.length) : W.rangeAt g (off + (i : Int).toNat * 34) (ns[i]).arr.toList := by
 rwa [notes_at ns i hi] at h
def fdArr (s : List UInt8) (k : Dig) (n i : Int) (A : Option Addr) (m c : Nat) (B : Option Addr) (p q : Nat) : Array Value := ((ntArr s k n).toList ++ ([.int .i64 i, .slice A m c, .slice B p q] : List Value)).toArray
section
variable {s : List UInt8} {k : Dig} {n i : Int} {A : Option Addr} {m c : Nat} {B : Option Addr} {p q : Nat}
theorem fdArr_list : (fdArr s k n i A m c B p q).toList = (ntArr s k n).toList ++ [.int .i64 i, .slice A m c, .slice B p q] := rfl
theorem fdArr_size' : (fdArr s k n i A m c B p q).size = 37 := by simp [fdArr, ntArr_size]
theorem fdArr_0 : (fdArr s k n i A m c B p q)[0]? = some (.string (bsOf s)) := rfl
theorem fdArr_33 : (fdArr s k n i A m c B p q)[33]? = some (.int .i64 n) :=
 cell_part (.string (bsOf s) :: k.arr.toList) _ [.int .i64 i, .slice A m c, .slice B p q] (by rw [fdArr_list, ntArr_list]; simp) (by simp [Dig.size])
theorem fdArr_34 : (fdArr s k n i A m c B p q)[34]? = some (.int .i64 i) := cell_part (ntArr s k n).toList _ [.slice A m c, .slice B p q] fdArr_list (ntArr_len _ _ _)
theorem fdArr_35 : (fdArr s k n i A m c B p q)[35]? = some (.slice A m c) := cell_part ((ntArr s k n).toList ++ [.int .i64 i]) _ [.slice B p q] (by rw [fdArr_list]; simp) (by rw [List.length_append, ntArr_len]; rfl)
theorem fdArr_36 : (fdArr s k n i A m c B p q)[36]? = some (.slice B p q) := cell_part ((ntArr s k n).toList ++ [.int .i64 i, .slice A m c]) _ [] (by rw [fdArr_list]; simp) (by rw [List.length_append, ntArr_len]; rfl)
theorem fdArr_note {W : World} {g t : Nat} {fr : Nat × Nat} (h : W.heap[g]? = some (.cells (fdArr s k n i A m c B p q) t fr)) : W.rangeAt g 0 (ntArr s k n).toList := range_part h [] _ [.int .i64 i, .slice A m c, .slice B p q] rfl rfl
theorem fdArr_key {W : World} {g t : Nat} {fr : Nat × Nat} (h : W.heap[g]? = some (.cells (fdArr s k n i A m c B p q) t fr)) : W.rangeAt g 1 k.arr.toList := range_part h [.string (bsOf s)] _ [.int .i64 n, .int .i64 i, .slice A m c, .slice B p q] (by rw [fdArr_list, ntArr_list]; simp) rfl
theorem fdArr_all' : (fdArr s k n i A m c B p q).all (·.oneCell') = true := Array.all_eq_true_iff_forall_mem.2 fun u hu => by
 rw [← Array.mem_toList_iff, fdArr_list] at hu
 simp only [List.mem_append, List.mem_cons, List.not_mem_nil, or_false] at hu
 rcases hu with hu | rfl | rfl | rfl
 ·exact ntArr_one _ _ _ u hu
 all_goals rfl
theorem fdArr_putNote (s' : List UInt8) (k' : Dig) (n' : Int) : putAt (fdArr s k n i A m c B p q) 0 (ntArr s' k' n').toList = fdArr s' k' n' i A m c B p q := put_part (cs := fdArr s k n i A m c B p q) (ds := fdArr s' k' n' i A m c B p q) [] (ntArr s k n).toList (ntArr s' k' n').toList [.int .i64 i, .slice A m c, .slice B p q] rfl rfl (by rw [ntArr_len, ntArr_len]) rfl
theorem fdArr_put34 (i' : Int) : (fdArr s k n i A m c B p q).setIfInBounds 34 (.int .i64 i') = fdArr s k n i' A m c B p q := set_part (ntArr s k n).toList _ _ [.slice A m c, .slice B p q] fdArr_list fdArr_list (ntArr_len _ _ _)
theorem fdArr_put35 (A' : Option Addr) (m' c' : Nat) : (fdArr s k n i A m c B p q).setIfInBounds 35 (.slice A' m' c') = fdArr s k n i A' m' c' B p q := set_part ((ntArr s k n).toList ++ [.int .i64 i]) (.slice A m c) (.slice A' m' c') [.slice B p q] (by rw [fdArr_list]; simp) (by rw [fdArr_list]; simp) (by rw [List.length_append, ntArr_len]; rfl)
theorem fdArr_put36 (A' : Option Addr) (m' c' : Nat) : (fdArr s k n i A m c B p q).setIfInBounds 36 (.slice A' m' c') = fdArr s k n i A m c A' m' c' := set_part ((ntArr s k n).toList ++ [.int .i64 i, .slice A m c]) (.slice B p q) (.slice A' m' c') [] (by rw [fdArr_list]; simp) (by rw [fdArr_list]; simp) (by rw [List.length_append, ntArr_len]; rfl)
end
theorem fdArr_size (s : List UInt8) (k : Dig) (n i : Int) (A : Option Addr) (m c : Nat) (B : Option Addr) (p q : Nat) : (fdArr s k n i A m c B p q).size = 37 := fdArr_size'
theorem fdArr_all (s : List UInt8) (k : Dig) (n i : Int) (A : Option Addr) (m c : Nat) (B : Option Addr) (p q : Nat) : (fdArr s k n i A m c B p q).all (·.oneCell') = true := fdArr_all'
def lsArr (s : List UInt8) (k : Dig) (n i : Int) (d : Dig) : Array Value := ((ntArr s k n).toList ++ (.int .i64 i :: d.arr.toList)).toArray
section
variable {s : List UInt8} {k : Dig} {n i : Int} {d : Dig}
theorem lsArr_list : (lsArr s k n i d).toList = (ntArr s k n).toList ++ (.int .i64 i :: d.arr.toList) := rfl
theorem lsArr_33 : (lsArr s k n i d)[33]? = some (.int .i64 n) := cell_part (.string (bsOf s) :: k.arr.toList) _ (.int .i64 i :: d.arr.toList) (by rw [lsArr_list, ntArr_list]; simp) (by simp [Dig.size])
theorem lsArr_34 : (lsArr s k n i d)[34]? = some (.int .i64 i) := cell_part (ntArr s k n).toList _ d.arr.toList lsArr_list (ntArr_len _ _ _)
theorem lsArr_note {W : World} {g t : Nat} {fr : Nat × Nat} (h : W.heap[g]? = some (.cells (lsArr s k n i d) t fr)) : W.rangeAt g 0 (ntArr s k n).toList := range_part h [] _ (.int .i64 i :: d.arr.toList) rfl rfl
theorem lsArr_leaf : ((lsArr s k n i d).toList.drop 35).take 32 = d.arr.toList := by
 have e : (lsArr s k n i d).toList = ((ntArr s k n).toList ++ [.int .i64 i]) ++ d.arr.toList := by rw [lsArr_list]; simp
 rw [e, List.drop_left' (by rw [List.length_append, ntArr_len]; rfl), List.take_of_length_le (by rw [dig_len]; exact Nat.le_refl _)]
end
theorem lsArr_size (s : List UInt8) (k : Dig) (n i : Int) (d : Dig) : (lsArr s k n i d).size = 67 := by simp [lsArr, ntArr_size, Dig.size]
theorem lsArr_all (s : List UInt8) (k : Dig) (n i : Int) (d : Dig) : (lsArr s k n i d).all (·.oneCell') = true := Array.all_eq_true_iff_forall_mem.2 fun u hu => by
 rw [← Array.mem_toList_iff, lsArr_list] at hu
 simp only [List.mem_append, List.mem_cons] at hu
 rcases hu with hu | rfl | hu
 ·exact ntArr_one _ _ _ u hu
 ·rfl
 ·exact dig_cells d u hu
def lgArr (A : Option Addr) (m c : Nat) (B : Option Addr) (p q : Nat) (x y : Nat) : Array Value := #[.slice A m c, .slice B p q, .map (some x), .map (some y)]
section
variable {A : Option Addr} {m c : Nat} {B : Option Addr} {p q x y : Nat}
theorem lgArr_0 : (lgArr A m c B p q x y)[0]? = some (.slice A m c) := rfl
theorem lgArr_1 : (lgArr A m c B p q x y)[1]? = some (.slice B p q) := rfl
theorem lgArr_2 : (lgArr A m c B p q x y)[2]? = some (.map (some x)) := rfl
theorem lgArr_3 : (lgArr A m c B p q x y)[3]? = some (.map (some y)) := rfl
theorem lgArr_s1 (B' : Option Addr) (p' q' : Nat) : (lgArr A m c B p q x y).setIfInBounds 1 (.slice B' p' q') = lgArr A m c B' p' q' x y := rfl
end
theorem el_api_Note : ElemIs Tryz.prog 34 (.agg (ntArr [] zeroD 0)) 34 56 := by unfold ElemIs; kernel_rfl
theorem el_api_Found : ElemIs Tryz.prog 46 (.agg (fdArr [] zeroD 0 0 none 0 0 none 0 0)) 37 112 := by unfold ElemIs; kernel_rfl
theorem el_log_last : ElemIs Tryz.prog 85 (.agg (lsArr [] zeroD 0 0 zeroD)) 67 96 := by unfold ElemIs; kernel_rfl
theorem el_log_Log : ElemIs Tryz.prog 80 (.agg #[.slice none 0 0, .slice none 0 0, .map none, .map none]) 4 64 := by unfold ElemIs; kernel_rfl
theorem el_api_Entry : ElemIs Tryz.prog 110 (.agg (prArr 0 zeroD)) 33 40 := by unfold ElemIs; kernel_rfl
theorem el_S_api_Entry : ElemIs Tryz.prog 93 (.slice none 0 0) 1 24 := by unfold ElemIs; kernel_rfl
section
variable {ops : Array Oper} {rest : List Oper} {o : Oper} {a : Act} {W : World} {Q : Exit → Act → World → Prop} {d : Option Tmp}
theorem L_buildE (hd : o.dst = d) (hw : Region.wanted o (yielded ops a.tmps) = true) {x y : Operand} (ho : o.op = .build 110 #[(0, x), (1, y)]) {n : Int} {q : Dig} (hx : a.eval x = .int .i64 n) (hy : a.eval y = .agg q.arr)
  (h : wpList Tryz.prog ops Q rest (a.put d (.agg (prArr n q))) W) : wpList Tryz.prog ops Q (o :: rest) a W :=
 L_buildT hd hw ho Tryz.underlying110 el_api_Entry [(0, 1), (1, 32)] (by kernel_rfl) (ps := [(0, .int .i64 n), (1, .agg q.arr)]) (by simp [hx, hy]) (qs := [(0, [.int .i64 n]), (1, q.arr.toList)])
  ⟨rfl, rfl, by simp [prArr_size], by rw [dig_len]; rfl, rfl, by rw [prArr_size, dig_len]; decide, trivial⟩
  (by
   unfold putAll putAll putAll
   rw [show putAt (prArr 0 zeroD) 0 [.int .i64 n] = prArr n zeroD from put_part [] [.int .i64 0] [.int .i64 n] zeroD.arr.toList rfl rfl rfl rfl]
   exact put_part [.int .i64 n] zeroD.arr.toList q.arr.toList [] (by rw [prArr_list]; simp) (by rw [prArr_list]; simp) (by rw [dig_len, dig_len]) rfl) h
theorem L_buildN (hd : o.dst = d) (hw : Region.wanted o (yielded ops a.tmps) = true) {x y : Operand} (ho : o.op = .build 34 #[(0, x), (1, y)]) {s : List UInt8} {q : Dig} (hx : a.eval x = .string (bsOf s)) (hy : a.eval y = .agg q.arr)
  (h : wpList Tryz.prog ops Q rest (a.put d (.agg (ntArr s q 0))) W) : wpList Tryz.prog ops Q (o :: rest) a W :=
 L_buildT hd hw ho Tryz.underlying34 el_api_Note [(0, 1), (1, 32), (33, 1)] (by kernel_rfl) (ps := [(0, .string (bsOf s)), (1, .agg q.arr)]) (by simp [hx, hy]) (qs := [(0, [.string (bsOf s)]), (1, q.arr.toList)])
  ⟨rfl, rfl, by simp [ntArr_size], by rw [dig_len]; rfl, rfl, by rw [ntArr_size, dig_len]; decide, trivial⟩
  (by unfold putAll putAll putAll; rw [ntArr_name, ntArr_putKey]) h
theorem L_buildNz (hd : o.dst = d) (hw : Region.wanted o (yielded ops a.tmps) = true) (ho : o.op = .build 34 #[])
  (h : wpList Tryz.prog ops Q rest (a.put d (.agg (ntArr [] zeroD 0))) W) : wpList Tryz.prog ops Q (o :: rest) a W :=
 L_buildT hd hw ho Tryz.underlying34 el_api_Note [(0, 1), (1, 32), (33, 1)] (by kernel_rfl) (ps := []) rfl (qs := []) trivial rfl h
theorem L_buildFz (hd : o.dst = d) (hw : Region.wanted o (yielded ops a.tmps) = true) (ho : o.op = .build 46 #[])
  (h : wpList Tryz.prog ops Q rest (a.put d (.agg (fdArr [] zeroD 0 0 none 0 0 none 0 0))) W) : wpList Tryz.prog ops Q (o :: rest) a W :=
 L_buildT hd hw ho Tryz.underlying46 el_api_Found [(0, 34), (34, 1), (35, 1), (36, 1)] (by kernel_rfl) (ps := []) rfl (qs := []) trivial rfl h
theorem L_buildL (hd : o.dst = d) (hw : Region.wanted o (yielded ops a.tmps) = true) {x y z : Operand} (ho : o.op = .build 85 #[(0, x), (1, y), (2, z)]) {s : List UInt8} {k : Dig} {n i : Int} {q : Dig} (hx : a.eval x = .agg (ntArr s k n)) (hy : a.eval y = .int .i64 i) (hz : a.eval z = .agg q.arr)
  (h : wpList Tryz.prog ops Q rest (a.put d (.agg (lsArr s k n i q))) W) : wpList Tryz.prog ops Q (o :: rest) a W :=
 L_buildT hd hw ho Tryz.underlying85 el_log_last [(0, 34), (34, 1), (35, 32)] (by kernel_rfl) (ps := [(0, .agg (ntArr s k n)), (1, .int .i64 i), (2, .agg q.arr)]) (by simp [hx, hy, hz]) (qs := [(0, (ntArr s k n).toList), (34, [.int .i64 i]), (35, q.arr.toList)])
  ⟨by rw [ntArr_len]; rfl, rfl, by rw [lsArr_size, ntArr_len]; decide, rfl, rfl, by simp [lsArr_size], by rw [dig_len]; rfl, rfl, by rw [lsArr_size, dig_len]; decide, trivial⟩
  (by
   unfold putAll putAll putAll putAll
   rw [show putAt (lsArr [] zeroD 0 0 zeroD) 0 (ntArr s k n).toList = lsArr s k n 0 zeroD from put_part (cs := lsArr [] zeroD 0 0 zeroD) (ds := lsArr s k n 0 zeroD) [] (ntArr [] zeroD 0).toList (ntArr s k n).toList (.int .i64 0 :: zeroD.arr.toList) rfl rfl (by rw [ntArr_len, ntArr_len]) rfl]
   rw [show putAt (lsArr s k n 0 zeroD) 34 [.int .i64 i] = lsArr s k n i zeroD from put_part (ntArr s k n).toList [.int .i64 0] [.int .i64 i] zeroD.arr.toList rfl rfl rfl (ntArr_len _ _ _)]
   exact put_part ((ntArr s k n).toList ++ [.int .i64 i]) zeroD.arr.toList q.arr.toList [] (by rw [lsArr_list]; simp) (by rw [lsArr_list]; simp) (by rw [dig_len, dig_len]) (by rw [List.length_append, ntArr_len]; rfl)) h
end
theorem run_partS {t : TypeId} (he : Tryz.prog.underlying t = some .string) {cs : Array Value} {k : Nat} {v : Value} (hv : cs[k]? = some v) (w : World) : (part t cs k).run Tryz.prog w = .ok v w := run_part1 (d := .string) he rfl hv w
theorem ntArr_part (s : List UInt8) (k : Dig) (n : Int) : ((ntArr s k n).toList.drop 1).take 32 = k.arr.toList := by
 rw [ntArr_list, List.drop_succ_cons, List.drop_zero, List.take_left' (dig_len k)]
end Go.Proofs.YtaebeemnipafbaaGreatDoor

set_option maxRecDepth 20000
set_option linter.unusedSimpArgs false
set_option linter.unusedVariables false
namespace Go.Proofs.YtaebeemnipafbaaGreatDoor
open Go.RowKit
set_option maxHeartbeats 1000000 in
theorem rof_any (tag : UInt8) (ds : List Dig) (A : Option Addr) (n c : Nat) (w : World) (hx : SlR w A n c 32 (digsL ds)) (hm : n ≤ 1099511627776) :
  Calls Tryz.prog 122 #[byteV tag, .slice A n c] w fun e w' => e = .returned (ofN tag ds).v ∧ St w w' [] := by
 have hst := St.refl w
 have hn : ds.length = n := by
  have := hx.1
  rw [length_digsL] at this
  omega
 have Hn := Lib.hid hn
 have hcap := hx.2.1
 have hmx := hx.2.2.1
 simp only [maxLen] at hmx
 clear hn
 unfold byteV
 go_enter Tryz.func122, Tryz.ntmps122
 go_wp2_with (first | (refine L_allocA (d := some 4) rfl rfl rfl el_api_Digest ?_; (try clear hnew); intro g4 W4 hnew; replace hst := hst.trans hnew; simp only [List.cons_append, List.nil_append] at hst) | (refine L_buildS (d := some 9) rfl rfl rfl [_] (bs_1 (ev_tmp rfl)) rfl Tryz.underlying22 el_uint8 rfl (by (simp [Value.cells]; done)) (by decide) (by decide) ?_; (try clear hnew); intro g9 W9 hnew; replace hst := hst.trans hnew; simp only [List.cons_append, List.nil_append] at hst; simp only [List.flatMap_cons, List.flatMap_nil, List.append_nil, Value.cells, List.toList_toArray] at hst))
 have hst : St w W9 [.row g9 (1 + 0 * 32) 1 5 1 (bytesL (tag :: allB (ds.take 0))), .blk g4 32 zeroD.arr] := hst
 clear hnew
 go_loopg [5, 6] n (fun gk s5 s6 wr => ∃ (i : Nat) (A' : Option Addr) (c' : Nat), Hid (i + gk = n) ∧ s5 = .slice A' (1 + i * 32) c' ∧ s6 = .int .i64 (i : Int) ∧ St w wr [.row A' (1 + i * 32) c' 5 1 (bytesL (tag :: allB (ds.take i))), .blk g4 32 zeroD.arr])
 case atStart => exact ⟨0, g9, 1, Lib.hid (by omega), rfl, rfl, hst⟩
 case round =>
  clear hst
  obtain ⟨i, A', c', HI, rfl, rfl, hst⟩ := hrel
  have hi := HI.out
  by_cases hin : i < n
  ·clear hi
   have hds := Lib.hid (digsL_at ds i (by rw [Hn.out]; exact hin))
   have hta := Lib.hid (allB_take ds i (by rw [Hn.out]; exact hin))
   have hgt : ∃ dd : Dig, Hid (dd = ds[i]'(by rw [Hn.out]; exact hin)) := ⟨_, Lib.hid rfl⟩
   obtain ⟨dd, hdd⟩ := hgt
   go_wp2_with (first | (refine L_loadM (d := some 19) rfl rfl rfl (by rfl) Tryz.underlying32 rfl el_api_Digest (cs := dd.arr) (by rw [Dig.toList, hdd.out, ← hds.out]; exact hr18) (Dig.size _) ?_) | (refine L_idxS (d := some 18) rfl rfl rfl (by rfl) (by rfl) Tryz.underlying44 el_api_Digest (by (exact hst.old (by decide) hx)) (by omega) (by omega) ?_; intro o18 p18 ha18 hr18; ((subst ha18))) | (refine L_allocA (d := some 7) rfl rfl rfl el_api_Digest ?_; (try clear hnew); intro g7 W7 hnew; replace hst := hst.trans hnew; simp only [List.cons_append, List.nil_append] at hst) | (refine wpl_at (.store 32 (.tmp 7) (.tmp 19)) rfl ?_; (refine L_storeA rfl rfl hst rfl (by rfl) (ev_tmp rfl) (by (exact Dig.one _)) el_api_Digest (by (exact Dig.size _)) 0 rfl (by (rfl)) ?_; clear hst; intro WS5 hst; simp only [List.set_cons_zero, List.set_cons_succ] at hst)) | (refine L_sliceAll (d := some 21) rfl rfl rfl (by rfl) Tryz.underlying32 el_uint8 (by (exact hst.get 0 rfl)) (by (exact Dig.size _)) (by decide) ?_; intro hs21) | (refine L_appendO (d := some 22) rfl rfl hst rfl (by rfl) (by rfl) Tryz.underlying22 el_uint8 rfl (by decide) (by decide) 1 rfl (by (rfl)) (by (exact hs21)) (by (exact oneCell_bytes)) (by omega) ?_; clear hst; intro A22 c22 W22 hst; simp only [List.set_cons_zero, List.set_cons_succ, List.nil_append, Nat.zero_add] at hst))
   go_roundg (gk - 1)
   case measure => have hi := HI.out; omega
   case rel =>
    have hi := HI.out
    refine ⟨i + 1, A22, c22, Lib.hid (by omega), by congr 1; omega, by go_num, ?_⟩
    rw [hta.out, ← hdd.out, ← List.cons_append, bytesL_append, show 1 + (i + 1) * 32 = 1 + i * 32 + 32 by omega]
    exact (hst.pick [1, 2] (by decide))
  ·obtain rfl : i = n := by omega
   have hall : allB (ds.take i) = allB ds := by rw [List.take_of_length_le (by rw [Hn.out]; exact Nat.le_refl _)]
   rw [hall] at hst
   clear hall hi HI
   go_wp2_with (first | (go_at_call 76; (try clear hnew); with_reducible refine (rsum_any _ _ _ _ _ (hst.sl 0 rfl) (by omega)).mono ?_; rintro e Wk1 ⟨rfl, hnew⟩; replace hst := hst.keep hnew) | (refine wpl_at (.store 32 (.tmp 4) (.tmp 24)) rfl ?_; (refine L_storeA rfl rfl hst rfl (by rfl) (ev_tmp rfl) (by (exact Dig.one _)) el_api_Digest (by (rfl)) 1 rfl (by (rfl)) ?_; clear hst; intro WS2 hst; simp only [List.set_cons_zero, List.set_cons_succ] at hst)))
   refine bp_cell rfl rfl rfl (hst.get 1 rfl) Tryz.underlying32 rfl el_api_Digest (by (rfl)) ?_
   exact ⟨rfl, hst.forget⟩
end Go.Proofs.YtaebeemnipafbaaGreatDoor

set_option maxRecDepth 20000
set_option linter.unusedSimpArgs false
set_option linter.unusedVariables false
namespace Go.Proofs.YtaebeemnipafbaaGreatDoor
open Go.RowKit Go.Shelf
theorem nmP_is (r : Nat) (b : Bool) (h : b = !decide (97 ≤ r ∧ r ≤ 122 ∨ 48 ≤ r ∧ r ≤ 57 ∨ r = 45)) : Value.bool (nmP r) = .bool b := by rw [h]; rfl
set_option maxHeartbeats 2000000 in
theorem named_pred (w : World) : PredAt Tryz.prog 79 #[] encR nmP w := fun W r _ => by
 unfold FnGives
 by_cases a1 : r < 97
 ·have z1 : (r : Int) < 97 := by omega
  by_cases b1 : r < 48
  ·have z2 : (r : Int) < 48 := by omega
   by_cases c1 : r = 45
   ·subst c1
    go_enter Tryz.func79, Tryz.ntmps79
    go_wp2
    go_ret
    exact ⟨rfl, 0, rfl⟩
   ·have z3 : ((r : Int) != 45) = true := by rw [bne_iff_ne]; omega
    go_enter Tryz.func79, Tryz.ntmps79
    go_wp2
    go_ret
    exact ⟨congrArg _ (nmP_is r true (by rw [decide_eq_false (by omega)]; rfl)).symm, 0, rfl⟩
  ·have z2 : ¬ (r : Int) < 48 := by omega
   by_cases b2 : 57 < r
   ·have z4 : (57 : Int) < (r : Int) := by omega
    have z3 : ((r : Int) != 45) = true := by rw [bne_iff_ne]; omega
    go_enter Tryz.func79, Tryz.ntmps79
    go_wp2
    go_ret
    exact ⟨congrArg _ (nmP_is r true (by rw [decide_eq_false (by omega)]; rfl)).symm, 0, rfl⟩
   ·have z4 : ¬ (57 : Int) < (r : Int) := by omega
    go_enter Tryz.func79, Tryz.ntmps79
    go_wp2
    go_ret
    exact ⟨congrArg _ (nmP_is r false (by rw [decide_eq_true (by omega)]; rfl)).symm, 0, rfl⟩
 ·have z1 : ¬ (r : Int) < 97 := by omega
  by_cases a2 : 122 < r
  ·have z5 : (122 : Int) < (r : Int) := by omega
   have z2 : ¬ (r : Int) < 48 := by omega
   have z4 : (57 : Int) < (r : Int) := by omega
   have z3 : ((r : Int) != 45) = true := by rw [bne_iff_ne]; omega
   go_enter Tryz.func79, Tryz.ntmps79
   go_wp2
   go_ret
   exact ⟨congrArg _ (nmP_is r true (by rw [decide_eq_false (by omega)]; rfl)).symm, 0, rfl⟩
  ·have z5 : ¬ (122 : Int) < (r : Int) := by omega
   go_enter Tryz.func79, Tryz.ntmps79
   go_wp2
   go_ret
   exact ⟨congrArg _ (nmP_is r false (by rw [decide_eq_true (by omega)]; rfl)).symm, 0, rfl⟩
set_option maxHeartbeats 1000000 in
theorem named_any (l : List UInt8) (w : World) : Calls Tryz.prog 34 #[.string (bsOf l)] w fun e w' => e = .returned (.bool (isNm l)) ∧ St w w' [] := by
 have hst := St.refl w
 have HC := Lib.hid (fun w : World => Tryz.strings_ContainsFunc 79 #[] (enters_of Tryz.func79 (by kernel_rfl) rfl) nmP (bsOf l) w (named_pred w))
 rw [name_idx] at HC
 have hz := bsOf_size l
 obtain ⟨b, hb⟩ : ∃ b, b = isNm l := ⟨_, rfl⟩
 rw [← hb]
 unfold isNm at hb
 cases l with
 | nil =>
  have h0 := bsOf_nil
  go_enter Tryz.func34, Tryz.ntmps34
  go_wp2_with fail
  go_ret
  exact ⟨by rw [hb]; rfl, hst⟩
 | cons a l =>
  have hne := bsOf_cons (List.cons_ne_nil a l)
  by_cases h30 : (a :: l).length ≤ 30
  ·rw [decide_eq_true ⟨by simp, h30⟩, Bool.true_and] at hb
   generalize bsOf (a :: l) = s at *
   have hs : ¬ (30 : Int) < (s.size : Int) := by omega
   generalize (a :: l).all okB = r at *
   clear h30 hz
   have HB := Lib.hid hb
   clear hb
   go_enter Tryz.func34, Tryz.ntmps34
   go_wp2_with ((go_at_call 78; refine (HC.out _).mono ?_; rintro e Wc ⟨rfl, hnew⟩))
   go_ret
   exact ⟨by rw [HB.out]; rfl, ⟨hnew, by simp, by simp, List.Pairwise.nil⟩⟩
  ·rw [decide_eq_false (fun h => h30 h.2), Bool.false_and] at hb
   generalize bsOf (a :: l) = s at *
   have hs : (30 : Int) < (s.size : Int) := by omega
   generalize (a :: l).all okB = r at *
   clear h30 hz
   have HB := Lib.hid hb
   clear hb
   go_enter Tryz.func34, Tryz.ntmps34
   go_wp2_with fail
   go_ret
   exact ⟨by rw [HB.out]; rfl, hst⟩
end Go.Proofs.YtaebeemnipafbaaGreatDoor

set_option maxRecDepth 20000
set_option linter.unusedSimpArgs false
set_option linter.unusedVariables false
namespace Go.Proofs.YtaebeemnipafbaaGreatDoor
open Go.RowKit
section
variable {P : Program} {ops : Array Oper} {rest : List Oper} {o : Oper} {a : Act} {W w0 : World} {Q : Exit → Act → World → Prop} {L : List Res} {d : Option Tmp}
theorem firstCells_str (l : List UInt8) (W : World) : (Builtin.firstCells 1 l.length (.string (bsOf l))).run P W = .ok (bytesL l).toArray W := by
 simp only [Builtin.firstCells, Sem.run_pure]
 congr 1
 apply Array.ext'
 have e : (bsOf l).extract 0 l.length = bsOf l := by
  have := bsOf_size l
  rw [← this]
  exact ByteArray.extract_zero_size
 rw [e]
 simp [bytesL, byteV, bsOf]
theorem run_append_str (hst : St w0 W L) (k : Nat) {A : Option Addr} {n c e : Nat} {xs : List Value} (hk : L[k]? = some (.row A n c e 1 xs)) {t u ty : TypeId} (ht : P.underlying t = some (.slice e)) (hu : P.underlying u = some .string) {z : Value}
  (he : ElemIs P e z 1 1) (hzs : z.cells.size = 1) (l : List UInt8) (hb : n + l.length ≤ 140737488355328) :
  ∃ A' c' W', (Builtin.append_ #[t, u] ty #[.slice A n c, .string (bsOf l)]).run P W = .ok (.slice A' (n + l.length) c') W' ∧ St w0 W' (L.set k (.row A' (n + l.length) c' e 1 (xs ++ bytesL l))) := by
 obtain ⟨i, hi, hiz, his, hib⟩ := he.parts
 have hmax : n + l.length ≤ maxLen := by simp only [maxLen]; omega
 have hlt : k < L.length := (List.getElem?_eq_some_iff.1 hk).1
 have hself : L.set k (.row A n c e 1 xs) = L := by
  apply List.ext_getElem?
  intro j
  by_cases hj : k = j
  ·subst hj; rw [List.getElem?_set_self hlt, hk]
  ·rw [List.getElem?_set_ne hj]
 have hln : (bytesL l).length = l.length * 1 := by rw [length_bytesL, Nat.mul_one]
 have place : ∀ (W1 : World) (cc : Nat), St w0 W1 L → n + l.length ≤ cc → cc ≤ maxLen → (xs ++ bytesL l).length = (n + l.length) * 1 →
   St w0 (W1.alloc (.cells ((xs ++ bytesL l).toArray ++ Builtin.zeroCells z.cells (cc - (n + l.length))) e)) (L.set k (.row (some ⟨W1.heap.size, 0, none⟩) (n + l.length) cc e 1 (xs ++ bytesL l))) := fun W1 cc h1 hcc hcm hl => by
  have h2 := h1.allocRow e (rowIn_new (n := n + l.length) (c := cc) (s := 1) (z := z.cells) hl hzs hcc hcm)
  have h3 := h2.drop (L' := .row (some ⟨W1.heap.size, 0, none⟩) (n + l.length) cc e 1 (xs ++ bytesL l) :: L.eraseIdx k) ((List.eraseIdx_sublist L k).cons_cons _)
  exact h3.perm (perm_set _ L k hlt)
 have hsz := bsOf_size l
 have hf : ∀ W1 : World, (Builtin.firstCells 1 l.length (.string (bsOf l))).run P W1 = .ok (bytesL l).toArray W1 := firstCells_str l
 rcases hst.at_ k hk with ⟨rfl, rfl, rfl, rfl⟩ | ⟨g, off, cur, rfl, hg, hrow⟩
 ·rcases Nat.eq_zero_or_pos l.length with h0 | h0
  ·obtain rfl : l = [] := List.eq_nil_of_length_eq_zero h0
   refine ⟨none, 0, W, ?_, by simpa [hself, bytesL] using hst⟩
   have hf0 : (Builtin.firstCells 1 0 (.string (bsOf []))).run P W = .ok #[] W := hf W
   simp [Builtin.append_, run_underlying ht, run_underlying hu, sizeOf, typeInfo, hi, his, Builtin.lenOf, hsz, hf0]
  ·have hge := grownCap_ge W l.length 0 e
   have hcm := grownCap_le_maxLen W l.length 0 e (by omega)
   have hrun := run_append_nil_string (P := P) (w := W) t u ty e i z ht hu hi hiz (bsOf l) (by omega) (by omega) (by rw [hib]; omega)
   have hp := place W.drew (grownCap W l.length 0 e) hst.drew (by omega) hcm (by simpa using hln)
   refine ⟨_, _, _, ?_, hp⟩
   rw [hrun, hsz]
   simp [bytesL, bsOf]
   rfl
 ·have hlx := hrow.len
  have hlen : (xs ++ bytesL l).length = (n + l.length) * 1 := by rw [List.length_append, hlx, hln, Nat.add_mul]
  by_cases hroom : n + l.length ≤ c
  ·obtain ⟨hrow', hfit⟩ := rowIn_put hrow hln hroom
   have hth := there_of_block (o := off + n * 1) (n := (bytesL l).length) hg hfit
   have hstore := run_storeCells_cells (P := P) g (off + n * 1) (bytesL l) 0 W (fun j hj => by simpa using (hth j hj).1) (fun j hj => by simpa using (hth j hj).2) oneCell_bytes
   simp only [Nat.add_zero] at hstore
   refine ⟨some ⟨g, off, none⟩, c, W.setCells g (off + n * 1) (bytesL l), ?_, ?_⟩
   ·simp only [Builtin.append_]
    simp only [Nat.mul_one] at hstore
    simp [run_underlying ht, run_underlying hu, sizeOf, typeInfo, hi, his, Builtin.lenOf, hsz, hroom, hf, Addr.add_mid, hstore]
   ·obtain ⟨e1, e2, e3, e4⟩ := setCells_rest g (bytesL l) (off + n * 1) W
    exact hst.turnAt k hk e1 e2 e3 (by omega) (fun q _ hq => heap_setCells_other g (bytesL l) _ W q (fun e' => hq (by simp [Res.dom, e']))) (fun q hq => .inl hq)
     (.inr ⟨g, off, _, rfl, heap_setCells g e (bytesL l) _ cur W hg hfit, hrow'⟩)
  ·have hlo : ∀ j u, xs[j]? = some u → W.cell? ((⟨g, off, none⟩ : Addr).add j) = some u := rangeAt_add (rangeAt_of_cells hg hrow.cells)
   have hge := grownCap_ge W (n + l.length) c e
   have hcm := grownCap_le_maxLen W (n + l.length) c e hmax
   have hfit := growslice_fits (need := n + l.length) (old := c) (bytes := i.bytes) (by omega) (by rw [hib]; omega)
   have hp := place W.drew (grownCap W (n + l.length) c e) hst.drew hge hcm hlen
   refine ⟨_, _, _, ?_, hp⟩
   have hn : ¬ (n + l.length ≤ c) := hroom
   have h63' : ¬ (9223372036854775807 < ((n : Int) + (l.length : Int))) := by omega
   have h48' : ¬ (281474976710656 < Builtin.nextslicecap (n + l.length) c * i.bytes) := by omega
   have hfo := run_firstCells_some (P := P) W.drew 1 n ⟨g, off, none⟩ n c xs (by simpa using hlx) (by simpa using hlo)
   simp [Builtin.append_, run_underlying ht, run_underlying hu, sizeOf, typeInfo, zeroValue, hi, hiz, his, Builtin.lenOf, hsz, hn, h63', h48', Question.forced, hf, hfo, newRow, grownCap]
   congr 2
   apply Array.ext'
   simp
theorem L_appendT (hd : o.dst = d) (hw : Region.wanted o (yielded ops a.tmps) = true) (hst : St w0 W L) {x y : Operand} {t u : TypeId} (ho : o.op = .call { callee := .builtin .append, args := #[x, y], argTypes := #[t, u] })
  {A : Option Addr} {n c : Nat} (hx : a.eval x = .slice A n c) {l : List UInt8} (hy : a.eval y = .string (bsOf l)) {e : Nat} (ht : P.underlying t = some (.slice e)) (hu : P.underlying u = some .string) {z : Value}
  (he : ElemIs P e z 1 1) (hzs : z.cells.size = 1) (k : Nat) {xs : List Value} {n' : Nat} (hk : L[k]? = some (.row A n' c e 1 xs)) (hnn : n' = n) (hb : n + l.length ≤ 140737488355328)
  (h : ∀ (A' : Option Addr) (c' : Nat) (W' : World), St w0 W' (L.set k (.row A' (n + l.length) c' e 1 (xs ++ bytesL l))) → wpList P ops Q rest (a.put d (.slice A' (n + l.length) c')) W') : wpList P ops Q (o :: rest) a W := by
 subst hnn
 obtain ⟨A', c', W', hrun, hst'⟩ := run_append_str (P := P) (ty := o.type) hst k hk ht hu he hzs l hb
 refine L_val hd hw ?_ (h A' c' W' hst')
 unfold execOp
 simp only [ho, resolve, invoke, builtin, Sem.run_bind, Sem.run_pure, Result.andThen_ok, List.map_toArray, List.map_cons, List.map_nil, hx, hy, hrun]
theorem L_convSB (hd : o.dst = d) (hw : Region.wanted o (yielded ops a.tmps) = true) {t u e : TypeId} {x : Operand} (ho : o.op = .convert u t x) {l : List UInt8} (hx : a.eval x = .string (bsOf l))
  (ht : P.underlying t = some (.slice e)) (hu : P.underlying u = some .string) (he : P.underlying e = some (.int .u8)) (hb : l.length ≤ 140737488355328)
  (h : ∀ (g cap : Nat) (ob : Obj) (W' : World), St W W' [.obj g ob] → (∀ W2 : World, W2.heap[g]? = some ob → SlR W2 (some ⟨g, 0, none⟩) l.length cap 1 (bytesL l)) → wpList P ops Q rest (a.put d (.slice (some ⟨g, 0, none⟩) l.length cap)) W') : wpList P ops Q (o :: rest) a W := by
 have hrun := run_bytes_of_string (P := P) W u t e (bsOf l) hu ht he
 have hz := bsOf_size l
 rw [hz] at hrun
 have hge := grownCap_ge W l.length 0 e
 have hcm := grownCap_le_maxLen W l.length 0 e (by simp only [maxLen]; omega)
 refine L_val hd hw (W' := W.drew.alloc (.cells (bytesRow (bsOf l) (grownCap W l.length 0 e)) e ((bytesRow (bsOf l) (grownCap W l.length 0 e)).size, (bytesRow (bsOf l) (grownCap W l.length 0 e)).size + 1))) ?_
  (h _ _ _ _ ((St.refl W).drew.allocObj _) (fun W2 h2 => ⟨by simp [length_bytesL], hge, hcm, fun _ => ⟨_, 0, rfl, rangeAt_of_cells h2 (fun j v hv => ?_)⟩⟩))
 ·unfold execOp
  simp only [ho, hx]
  simp [hrun]
 ·have hj : j < l.length := by
   have := (List.getElem?_eq_some_iff.1 hv).1
   rwa [length_bytesL] at this
  rw [Nat.zero_add, ← hv, bytesRow]
  rw [Array.getElem?_append_left (by simp [bsOf]; exact hj)]
  simp [bsOf, bytesL]
  rfl
end
end Go.Proofs.YtaebeemnipafbaaGreatDoor

set_option maxRecDepth 20000
set_option linter.unusedSimpArgs false
set_option linter.unusedVariables false
namespace Go.Proofs.YtaebeemnipafbaaGreatDoor
open Go.RowKit
theorem eq_of_takeD {α : Type} {x y : List α} {i : Nat} (hx : x.length ≤ i) (hl : x.length = y.length) (h : x.take i = y.take i) : x = y := by
 rwa [List.take_of_length_le hx, List.take_of_length_le (by omega)] at h
theorem digs_take_succ {x y : List Dig} {i : Nat} (hx : i < x.length) (hy : i < y.length) (h : x.take i = y.take i) (he : x[i] = y[i]) : x.take (i + 1) = y.take (i + 1) := by
 rw [List.take_succ_eq_append_getElem hx, List.take_succ_eq_append_getElem hy, h, he]
set_option maxHeartbeats 1000000 in
theorem sameD_any (x y : List Dig) (A B : Option Addr) (n c m d : Nat) (w : World) (hx : SlR w A n c 32 (digsL x)) (hy : SlR w B m d 32 (digsL y)) :
  Calls Tryz.prog 20 #[.slice A n c, .slice B m d] w fun e w' => e = .returned (.bool (decide (x = y))) ∧ St w w' [] := by
 have hst := St.refl w
 have hxl : x.length = n := by have := hx.1; rw [length_digsL] at this; omega
 have hyl : y.length = m := by have := hy.1; rw [length_digsL] at this; omega
 have hxm := hx.2.2.1
 have hxc := hx.2.1
 simp only [maxLen] at hxm
 have Hxl := Lib.hid hxl
 have Hyl := Lib.hid hyl
 clear hxl hyl
 by_cases hnm : n = m
 ·subst hnm
  go_enter Tryz.func20, Tryz.ntmps20
  go_wp2_with (fail)
  go_loopg [5] n (fun gk s5 wr => ∃ i : Nat, Hid (i + gk = n) ∧ Hid (x.take i = y.take i) ∧ s5 = .int .i64 (i : Int) ∧ St w wr [])
  case atStart => exact ⟨0, Lib.hid (by omega), Lib.hid rfl, rfl, hst⟩
  case round =>
   clear hst
   obtain ⟨i, HI, HE, rfl, hst⟩ := hrel
   have hi := HI.out
   by_cases hin : i < n
   ·clear hi
    have hbx := Lib.hid (show i < x.length by rw [Hxl.out]; exact hin)
    have hby := Lib.hid (show i < y.length by rw [Hyl.out]; exact hin)
    have HX := Lib.hid (digsL_at x i hbx.out)
    have HY := Lib.hid (digsL_at y i hby.out)
    by_cases he : x[i]'hbx.out = y[i]'hby.out
    ·have He := Lib.hid (digs_take_succ hbx.out hby.out HE.out he)
     rw [he] at HX
     clear he
     generalize y[i]'hby.out = b at HX HY
     have HD := Lib.hid (show (!decide (b = b)) = false by simp)
     go_wp2_with (fail)
     refine wp_region_idx [(0, 0), (1, 0), (2, 0), (3, 0), (4, 0), (5, 2), (6, 2), (7, 2), (8, 2)] (by kernel_rfl) (by kernel_rfl) ?_
     replace hst := hst.drew
     refine idx_q rfl rfl ?_; go_wp2_with fail
     refine idx_q rfl rfl ?_; go_wp2_with fail
     refine idx_q rfl rfl ?_; go_wp2_with ((refine L_idxS (d := some 19) rfl rfl rfl (by rfl) (by rfl) Tryz.underlying44 el_api_Digest (by (exact hst.old (by decide) (by assumption))) (by omega) (by omega) ?_; intro o19 p19 ha19 hr19; ((subst ha19))))
     refine idx_q rfl rfl ?_; go_wp2_with ((refine L_loadM (d := some 20) rfl rfl rfl (by rfl) Tryz.underlying32 rfl el_api_Digest (cs := b.arr) (by rw [Dig.toList, ← HX.out]; exact hr19) (Dig.size _) ?_))
     refine idx_q rfl rfl ?_; go_wp2_with fail
     refine idx_g rfl ?_; go_wp2_with fail; refine ⟨by (exact Below.refl _ _), ?_⟩
     refine idx_g rfl ?_; go_wp2_with ((refine L_idxS (d := some 23) rfl rfl rfl (by rfl) (by rfl) Tryz.underlying44 el_api_Digest (by (exact hst.old (by decide) (by assumption))) (by omega) (by omega) ?_; intro o23 p23 ha23 hr23; ((subst ha23)))); refine ⟨by (exact Below.refl _ _), ?_⟩
     refine idx_g rfl ?_; go_wp2_with ((refine L_loadM (d := some 24) rfl rfl rfl (by rfl) Tryz.underlying32 rfl el_api_Digest (cs := b.arr) (by rw [Dig.toList, ← HY.out]; exact hr23) (Dig.size _) ?_)); refine ⟨by (exact Below.refl _ _), ?_⟩
     refine idx_g rfl ?_; go_wp2_with ((refine L_neD (d := some 25) rfl rfl rfl Tryz.underlying32 Tryz.underlying5 el_uint8 eqG_D (ev_tmp rfl) (ev_tmp rfl) ?_; (try rw [HD.out]))); refine ⟨by (exact Below.refl _ _), ?_⟩
     refine idx_nil ?_
     go_wp2_with fail
     go_roundg (gk - 1)
     case measure => have hi := HI.out; omega
     case rel =>
      have hi := HI.out
      exact ⟨i + 1, Lib.hid (by omega), He, by go_num, hst⟩
    ·have hF : decide (x = y) = false := by
      rw [decide_eq_false_iff_not]
      intro e
      subst e
      exact he rfl
     have HF := Lib.hid hF
     generalize x[i]'hbx.out = b at HX he
     generalize y[i]'hby.out = b' at HY he
     have HD := Lib.hid (show (!decide (b = b')) = true by simp [he])
     clear he hF
     go_wp2_with (fail)
     refine wp_region_idx [(0, 0), (1, 0), (2, 0), (3, 0), (4, 0), (5, 2), (6, 2), (7, 2), (8, 2)] (by kernel_rfl) (by kernel_rfl) ?_
     replace hst := hst.drew
     refine idx_q rfl rfl ?_; go_wp2_with fail
     refine idx_q rfl rfl ?_; go_wp2_with fail
     refine idx_q rfl rfl ?_; go_wp2_with ((refine L_idxS (d := some 19) rfl rfl rfl (by rfl) (by rfl) Tryz.underlying44 el_api_Digest (by (exact hst.old (by decide) (by assumption))) (by omega) (by omega) ?_; intro o19 p19 ha19 hr19; ((subst ha19))))
     refine idx_q rfl rfl ?_; go_wp2_with ((refine L_loadM (d := some 20) rfl rfl rfl (by rfl) Tryz.underlying32 rfl el_api_Digest (cs := b.arr) (by rw [Dig.toList, ← HX.out]; exact hr19) (Dig.size _) ?_))
     refine idx_q rfl rfl ?_; go_wp2_with fail
     refine idx_g rfl ?_; go_wp2_with fail; refine ⟨by (exact Below.refl _ _), ?_⟩
     refine idx_g rfl ?_; go_wp2_with ((refine L_idxS (d := some 23) rfl rfl rfl (by rfl) (by rfl) Tryz.underlying44 el_api_Digest (by (exact hst.old (by decide) (by assumption))) (by omega) (by omega) ?_; intro o23 p23 ha23 hr23; ((subst ha23)))); refine ⟨by (exact Below.refl _ _), ?_⟩
     refine idx_g rfl ?_; go_wp2_with ((refine L_loadM (d := some 24) rfl rfl rfl (by rfl) Tryz.underlying32 rfl el_api_Digest (cs := b'.arr) (by rw [Dig.toList, ← HY.out]; exact hr23) (Dig.size _) ?_)); refine ⟨by (exact Below.refl _ _), ?_⟩
     refine idx_g rfl ?_; go_wp2_with ((refine L_neD (d := some 25) rfl rfl rfl Tryz.underlying32 Tryz.underlying5 el_uint8 eqG_D (ev_tmp rfl) (ev_tmp rfl) ?_; (try rw [HD.out]))); refine ⟨by (exact Below.refl _ _), ?_⟩
     refine idx_nil ?_
     go_wp2_with fail
     go_ret
     exact ⟨by rw [HF.out]; rfl, hst⟩
   ·obtain rfl : i = n := by omega
    have HF := Lib.hid (show decide (x = y) = true by
     rw [decide_eq_true_eq]
     exact eq_of_takeD (by rw [Hxl.out]; exact Nat.le_refl _) (by rw [Hxl.out, Hyl.out]) HE.out)
    clear hi HI HE
    go_wp2_with (fail)
    go_ret
    exact ⟨by rw [HF.out]; rfl, hst⟩
 ·have hne : ((n : Int) != (m : Int)) = true := by rw [bne_iff_ne]; omega
  have HF := Lib.hid (show decide (x = y) = false by
   rw [decide_eq_false_iff_not]
   intro e
   subst e
   rw [Hxl.out] at Hyl
   exact hnm Hyl.out)
  go_enter Tryz.func20, Tryz.ntmps20
  go_wp2_with (fail)
  go_ret
  exact ⟨by rw [HF.out]; rfl, hst⟩
end Go.Proofs.YtaebeemnipafbaaGreatDoor

set_option maxRecDepth 20000
set_option linter.unusedSimpArgs false
set_option linter.unusedVariables false
namespace Go.Proofs.YtaebeemnipafbaaGreatDoor
open Go.RowKit
theorem Dig.oneR (d : Dig) : ∀ u ∈ d.arr.toList, u.oneCell' = true := by
 rw [Dig.toList]
 exact oneCell_bytes
theorem padK_take (k : List UInt8) (x : UInt8) (i : Nat) (h : i < 64) : bytesL ((padK k x).take i) ++ [.int .u8 (((k.getD i 0).toNat ^^^ x.toNat : Nat) : Int)] = bytesL ((padK k x).take (i + 1)) := by
 have hl : i < (padK k x).length := by rw [length_padK]; exact h
 have hg : (padK k x)[i] = k.getD i 0 ^^^ x := by simp [padK]
 rw [List.take_succ_eq_append_getElem hl, hg, bytesL_append, xor_byte]
 rfl
theorem padK_all (k : List UInt8) (x : UInt8) : (padK k x).take 64 = padK k x := List.take_of_length_le (by rw [length_padK]; exact Nat.le_refl _)
set_option maxHeartbeats 2000000 in
set_option maxRecDepth 100000 in
theorem rmac_any (key b : List UInt8) (K A : Option Addr) (m mc n c : Nat) (w : World) (hk : SlR w K m mc 1 (bytesL key)) (hx : SlR w A n c 1 (bytesL b)) (hm : m ≤ 140737488355000) (hn : n ≤ 140737488354000) :
  Calls Tryz.prog 64 #[.slice K m mc, .slice A n c] w fun e w' => e = .returned (macN key b).v ∧ St w w' [] := by
 have hst := St.refl w
 have hkl := hk.1
 have hxl := hx.1
 rw [length_bytesL, Nat.mul_one] at hkl hxl
 have Hkl := Lib.hid hkl
 have Hxl := Lib.hid hxl
 clear hkl hxl
 go_enter Tryz.func64, Tryz.ntmps64
 go_upto_if 13 with ((refine L_allocA (d := some 4) rfl rfl rfl el_api_Digest ?_; (try clear hnew); intro g4 W4 hnew; replace hst := hst.trans hnew; simp only [List.cons_append, List.nil_append] at hst))
 clear hnew
 go_cut [0] (fun s0 wx => ∃ (K' : Option Addr) (m' c' : Nat) (kk : List UInt8) (Lk : List Res), Hid (kk = keyOf key ∧ kk.length = m') ∧ m' ≤ 64 ∧ s0 = .slice K' m' c' ∧ Hid (Src w Lk K' m' c' 1 (bytesL kk)) ∧ St w wx (.blk g4 32 zeroD.arr :: Lk))
 case first =>
  by_cases h64 : 64 < m
  ·have h1 : (64 : Int) < (m : Int) := by omega
   go_wp2_with (first | (go_at_call 76; (try clear hnew); with_reducible refine (rsum_any _ _ _ _ _ (hst.old (by decide) hk) (by omega)).mono ?_; rintro e Wk1 ⟨rfl, hnew⟩; replace hst := hst.keep hnew) | (refine L_allocA (d := some 5) rfl rfl rfl el_api_Digest ?_; (try clear hnew); intro g5 W5 hnew; replace hst := hst.trans hnew; simp only [List.cons_append, List.nil_append] at hst) | (refine wpl_at (.store 32 (.tmp 5) (.tmp 15)) rfl ?_; (refine L_storeA rfl rfl hst rfl (by rfl) (ev_tmp rfl) (by (exact Dig.one _)) el_api_Digest (by (rfl)) 0 rfl (by (rfl)) ?_; clear hst; intro WS3 hst; simp only [List.set_cons_zero, List.set_cons_succ] at hst)) | (refine L_sliceAll (d := some 16) rfl rfl rfl (by rfl) Tryz.underlying32 el_uint8 (by (exact hst.get 0 rfl)) (by (rfl)) (by decide) ?_; intro hs16))
   go_meet
   case rel =>
    refine ⟨_, _, _, (sha key).l, [.blk g5 32 (sha key).arr], Lib.hid ⟨?_, (sha key).h⟩, by omega, rfl, Lib.hid ?_, hst.pick [1, 0] (by decide)⟩
    ·rw [keyOf, if_pos (by rw [Hkl.out]; exact h64)]
    ·rw [← Dig.toList]
     exact Src.blk (i := 0) rfl (Dig.size _) (by decide)
  ·have h1 : (m : Int) ≤ 64 := by omega
   go_wp2_with fail
   go_meet
   case rel =>
    refine ⟨K, m, mc, key, [], Lib.hid ⟨?_, Hkl.out⟩, by omega, rfl, Lib.hid (Src.old (by decide) hk _), hst⟩
    rw [keyOf, if_neg (by rw [Hkl.out]; omega)]
 case rest =>
  clear hst
  obtain ⟨K', m', c', kk, Lk, HK, hm64, rfl, HS, hst⟩ := hcut
  go_wp2_with (fail)
  have hst : St w wc (.row none 0 0 5 1 (bytesL ((padK kk 92).take 0)) :: .row none 0 0 5 1 (bytesL ((padK kk 54).take 0)) :: .blk g4 32 zeroD.arr :: Lk) := (hst.nilRow 5 1).nilRow 5 1
  go_loopg [6, 7, 8, 9] 64 (fun gk s6 s7 s8 s9 wr => ∃ (i : Nat) (O I : Option Addr) (oc ic : Nat), Hid (i + gk = 64) ∧ s6 = .slice O i oc ∧ s7 = .slice I i ic ∧ s8 = .int .i64 (i : Int) ∧ St w wr (.row O i oc 5 1 (bytesL ((padK kk 92).take i)) :: .row I i ic 5 1 (bytesL ((padK kk 54).take i)) :: .blk g4 32 zeroD.arr :: Lk))
  case atStart => exact ⟨0, none, none, 0, 0, Lib.hid (by omega), rfl, rfl, rfl, hst⟩
  case round =>
   clear hst
   obtain ⟨i, O, I, oc, ic, HI, rfl, rfl, rfl, hst⟩ := hrel
   have hi := HI.out
   by_cases h64 : i < 64
   ·clear hi
    have HP9 := Lib.hid (padK_take kk 92 i h64)
    have HP5 := Lib.hid (padK_take kk 54 i h64)
    by_cases hin : i < m'
    ·have hb := Lib.hid (show i < kk.length by rw [HK.out.2]; exact hin)
     have hx5 : bits .xor .u8 ((kk.getD i 0).toNat : Int) 54 = (((kk.getD i 0).toNat ^^^ 54 : Nat) : Int) := xor_val _ 54
     have hx9 : bits .xor .u8 ((kk.getD i 0).toNat : Int) 92 = (((kk.getD i 0).toNat ^^^ 92 : Nat) : Int) := xor_val _ 92
     have HC := Lib.hid (fun (W : World) (g off : Nat) h => byte_of_range (W := W) (g := g) (off := off) (i := i) (l := kk) h hb.out)
     generalize kk.getD i 0 = x at *
     go_wp2_with (first | (refine wpl_at (.load 5 (.tmp 27)) rfl ?_; (refine L_load1 (d := some 28) rfl rfl rfl (by rfl) Tryz.underlying5 rfl (HC.out _ _ _ hr27) ?_)) | (refine L_idxS (d := some 27) rfl rfl rfl (by rfl) (by rfl) Tryz.underlying22 el_uint8 (by (exact HS.out _ (hst.tailN 3))) (by omega) (by omega) ?_; intro o27 p27 ha27 hr27; ((subst ha27))) | (refine L_buildS (d := some 32) rfl rfl rfl [_] (bs_1 (ev_tmp rfl)) rfl Tryz.underlying22 el_uint8 rfl (by (simp [Value.cells]; done)) (by decide) (by decide) ?_; (try clear hnew); intro g32 W32 hnew; replace hst := hst.trans hnew; simp only [List.cons_append, List.nil_append] at hst; simp only [List.flatMap_cons, List.flatMap_nil, List.append_nil, Value.cells, List.toList_toArray] at hst) | (refine L_appendO (d := some 33) rfl rfl hst rfl (by rfl) (by rfl) Tryz.underlying22 el_uint8 rfl (by decide) (by decide) 1 rfl (by (rfl)) (by (exact hst.sl 0 rfl)) (by (simp [Value.oneCell']; done)) (by omega) ?_; clear hst; intro A33 c33 W33 hst; simp only [List.set_cons_zero, List.set_cons_succ, List.nil_append, Nat.zero_add] at hst) | (refine L_buildS (d := some 37) rfl rfl rfl [_] (bs_1 (ev_tmp rfl)) rfl Tryz.underlying22 el_uint8 rfl (by (simp [Value.cells]; done)) (by decide) (by decide) ?_; (try clear hnew); intro g37 W37 hnew; replace hst := hst.trans hnew; simp only [List.cons_append, List.nil_append] at hst; simp only [List.flatMap_cons, List.flatMap_nil, List.append_nil, Value.cells, List.toList_toArray] at hst) | (refine L_appendO (d := some 38) rfl rfl hst rfl (by rfl) (by rfl) Tryz.underlying22 el_uint8 rfl (by decide) (by decide) 3 rfl (by (rfl)) (by (exact hst.sl 0 rfl)) (by (simp [Value.oneCell']; done)) (by omega) ?_; clear hst; intro A38 c38 W38 hst; simp only [List.set_cons_zero, List.set_cons_succ, List.nil_append, Nat.zero_add] at hst))
     go_roundg (gk - 1)
     case measure => have hi := HI.out; omega
     case rel =>
      have hi := HI.out
      refine ⟨i + 1, A33, A38, c33, c38, Lib.hid (by omega), rfl, rfl, by go_num, ?_⟩
      rw [← HP9.out, ← HP5.out]
      exact hst.tail.tail
    ·have hz : kk.getD i 0 = 0 := by
      have := HK.out.2
      rw [List.getD_eq_getElem?_getD, List.getElem?_eq_none (by omega)]
      rfl
     have hx5 : bits .xor .u8 (0 : Int) 54 = 54 := by decide
     have hx9 : bits .xor .u8 (0 : Int) 92 = 92 := by decide
     rw [hz] at HP5 HP9
     clear hz
     go_wp2_with (first | (refine L_buildS (d := some 32) rfl rfl rfl [_] (bs_1 (ev_tmp rfl)) rfl Tryz.underlying22 el_uint8 rfl (by (simp [Value.cells]; done)) (by decide) (by decide) ?_; (try clear hnew); intro g32 W32 hnew; replace hst := hst.trans hnew; simp only [List.cons_append, List.nil_append] at hst; simp only [List.flatMap_cons, List.flatMap_nil, List.append_nil, Value.cells, List.toList_toArray] at hst) | (refine L_appendO (d := some 33) rfl rfl hst rfl (by rfl) (by rfl) Tryz.underlying22 el_uint8 rfl (by decide) (by decide) 1 rfl (by (rfl)) (by (exact hst.sl 0 rfl)) (by (simp [Value.oneCell']; done)) (by omega) ?_; clear hst; intro A33 c33 W33 hst; simp only [List.set_cons_zero, List.set_cons_succ, List.nil_append, Nat.zero_add] at hst) | (refine L_buildS (d := some 37) rfl rfl rfl [_] (bs_1 (ev_tmp rfl)) rfl Tryz.underlying22 el_uint8 rfl (by (simp [Value.cells]; done)) (by decide) (by decide) ?_; (try clear hnew); intro g37 W37 hnew; replace hst := hst.trans hnew; simp only [List.cons_append, List.nil_append] at hst; simp only [List.flatMap_cons, List.flatMap_nil, List.append_nil, Value.cells, List.toList_toArray] at hst) | (refine L_appendO (d := some 38) rfl rfl hst rfl (by rfl) (by rfl) Tryz.underlying22 el_uint8 rfl (by decide) (by decide) 3 rfl (by (rfl)) (by (exact hst.sl 0 rfl)) (by (simp [Value.oneCell']; done)) (by omega) ?_; clear hst; intro A38 c38 W38 hst; simp only [List.set_cons_zero, List.set_cons_succ, List.nil_append, Nat.zero_add] at hst))
     go_roundg (gk - 1)
     case measure => have hi := HI.out; omega
     case rel =>
      have hi := HI.out
      refine ⟨i + 1, A33, A38, c33, c38, Lib.hid (by omega), rfl, rfl, by go_num, ?_⟩
      rw [← HP9.out, ← HP5.out]
      exact hst.tail.tail
   ·obtain rfl : i = 64 := by omega
    clear hi HI
    rw [padK_all, padK_all] at hst
    have hfin : sha (padK kk 92 ++ (sha (padK kk 54 ++ b)).l) = macN key b := by rw [HK.out.1]; rfl
    have Hfin := Lib.hid hfin
    clear hfin
    go_wp2_with (first | (go_at_call 76; (try clear hnew); first | (refine (rsum_any (padK kk 54 ++ b) _ _ _ _ (by rw [bytesL_append]; exact hst.sl 1 rfl) (by omega)).mono ?_; rintro e W42 ⟨rfl, hnew⟩; replace hst := hst.keep hnew) | (refine (rsum_any (padK kk 92 ++ (sha (padK kk 54 ++ b)).l) _ _ _ _ (by rw [bytesL_append, ← Dig.toList]; exact hst.sl 1 rfl) (by omega)).mono ?_; rintro e W46 ⟨rfl, hnew⟩; replace hst := hst.keep hnew)) | (refine L_appendO (d := some 41) rfl rfl hst rfl (by rfl) (by rfl) Tryz.underlying22 el_uint8 rfl (by decide) (by decide) 1 rfl (by (rfl)) (by (exact hst.old (by decide) hx)) (by (exact oneCell_bytes)) (by omega) ?_; clear hst; intro A41 c41 W41 hst; simp only [List.set_cons_zero, List.set_cons_succ, List.nil_append, Nat.zero_add] at hst) | (refine L_allocA (d := some 10) rfl rfl rfl el_api_Digest ?_; (try clear hnew); intro g10 W10 hnew; replace hst := hst.trans hnew; simp only [List.cons_append, List.nil_append] at hst) | (refine wpl_at (.store 32 (.tmp 10) (.tmp 42)) rfl ?_; (refine L_storeA rfl rfl hst rfl (by rfl) (ev_tmp rfl) (by (exact Dig.one _)) el_api_Digest (by (rfl)) 0 rfl (by (rfl)) ?_; clear hst; intro WS5 hst; simp only [List.set_cons_zero, List.set_cons_succ] at hst)) | (refine L_sliceAll (d := some 44) rfl rfl rfl (by rfl) Tryz.underlying32 el_uint8 (by (exact hst.get 0 rfl)) (by (rfl)) (by decide) ?_; intro hs44) | (refine L_appendO (d := some 45) rfl rfl hst rfl (by rfl) (by rfl) Tryz.underlying22 el_uint8 rfl (by decide) (by decide) 1 rfl (by (rfl)) (by (exact hs44)) (by (exact oneCell_bytes)) (by omega) ?_; clear hst; intro A45 c45 W45 hst; simp only [List.set_cons_zero, List.set_cons_succ, List.nil_append, Nat.zero_add] at hst) | (refine wpl_at (.store 32 (.tmp 4) (.tmp 46)) rfl ?_; (refine L_storeA rfl rfl hst rfl (by rfl) (ev_tmp rfl) (by (exact Dig.one _)) el_api_Digest (by (rfl)) 3 rfl (by (rfl)) ?_; clear hst; intro WS4 hst; simp only [List.set_cons_zero, List.set_cons_succ] at hst)))
    rw [Hfin.out] at hst
    refine bp_cell rfl rfl rfl (hst.get 3 rfl) Tryz.underlying32 rfl el_api_Digest (by (rfl)) ?_
    exact ⟨rfl, hst.forget⟩
end Go.Proofs.YtaebeemnipafbaaGreatDoor

set_option maxRecDepth 20000
set_option linter.unusedSimpArgs false
set_option linter.unusedVariables false
namespace Go.Proofs.YtaebeemnipafbaaGreatDoor
def markN (key : List UInt8) (n : Int) (x y : Dig) : Dig := macN key (13 :: (sz8 n ++ (x.l ++ y.l)))
def tagN (key : List UInt8) (n : Int) (x y : Dig) : Dig := macN key (sz4 n ++ (x.l ++ y.l))
end Go.Proofs.YtaebeemnipafbaaGreatDoor

set_option maxRecDepth 20000
set_option linter.unusedSimpArgs false
set_option linter.unusedVariables false
namespace Go.Proofs.YtaebeemnipafbaaGreatDoor
open Go.RowKit
theorem bS (n : Int) (i : Nat) (h : i < 8) (m : Int) (hm : m = 2 ^ (8 * i)) : Value.int .u8 (n / m % 256) = byteV (byteS n i) := by
 subst hm
 have := byteS_val n i h
 unfold byteV
 rw [← this]
 rfl
theorem bS0 (n : Int) : Value.int .u8 (n % 256) = byteV (byteS n 0) := by
 have := bS n 0 (by decide) 1 (by decide)
 rwa [Int.ediv_one] at this
theorem sz4_cells (n : Int) : [Value.int .u8 (n / 16777216 % 256), .int .u8 (n / 65536 % 256), .int .u8 (n / 256 % 256), .int .u8 (n % 256)] = bytesL (sz4 n) := by
 rw [bS n 3 (by decide) _ (by decide), bS n 2 (by decide) _ (by decide), bS n 1 (by decide) _ (by decide), bS0]
 rfl
def mkHi (n : Int) : List UInt8 := [13, byteS n 7, byteS n 6, byteS n 5, byteS n 4]
theorem mkHi_cells (n : Int) : [Value.int .u8 13, .int .u8 (n / 72057594037927936 % 256), .int .u8 (n / 281474976710656 % 256), .int .u8 (n / 1099511627776 % 256), .int .u8 (n / 4294967296 % 256)] = bytesL (mkHi n) := by
 rw [bS n 7 (by decide) _ (by decide), bS n 6 (by decide) _ (by decide), bS n 5 (by decide) _ (by decide), bS n 4 (by decide) _ (by decide)]
 rfl
set_option maxHeartbeats 1000000 in
theorem four_any (n : Int) (w : World) :
  Calls Tryz.prog 63 #[.int .i64 n] w fun e w' => ∃ A, e = .returned (.slice A 4 4) ∧ St w w' [.row A 4 4 5 1 (bytesL (sz4 n))] := by
 have hst := St.refl w
 go_enter Tryz.func63, Tryz.ntmps63
 go_wp2_with ((refine L_buildS (d := some 14) rfl rfl rfl [_, _, _, _] (bs_4 (ev_tmp rfl) (ev_tmp rfl) (ev_tmp rfl) (ev_tmp rfl)) rfl Tryz.underlying22 el_uint8 rfl (by (simp [Value.cells]; done)) (by decide) (by decide) ?_; (try clear hnew); intro g14 W14 hnew; replace hst := hst.trans hnew; simp only [List.cons_append, List.nil_append] at hst; simp only [List.flatMap_cons, List.flatMap_nil, List.append_nil, Value.cells, List.toList_toArray] at hst))
 simp only [List.cons_append, List.nil_append] at hst
 rw [sz4_cells] at hst
 go_ret
 exact ⟨_, rfl, hst⟩
end Go.Proofs.YtaebeemnipafbaaGreatDoor

set_option maxRecDepth 20000
set_option linter.unusedSimpArgs false
set_option linter.unusedVariables false
namespace Go.Proofs.YtaebeemnipafbaaGreatDoor
open Go.RowKit
theorem tkey_any (k : Int) (w : World) : Calls Tryz.prog 89 #[.int .i64 k] w fun e w' => e = .returned (.bool (decide (0 ≤ k ∧ k < 4294967296))) ∧ St w w' [] := by
 have hst := St.refl w
 by_cases h0 : 0 ≤ k
 ·by_cases h1 : k < 4294967296
  ·rw [decide_eq_true ⟨h0, h1⟩]
   go_enter Tryz.func89, Tryz.ntmps89
   go_wp2_with fail
   go_ret
   exact ⟨rfl, hst⟩
  ·rw [decide_eq_false (fun h => h1 h.2)]
   go_enter Tryz.func89, Tryz.ntmps89
   go_wp2_with fail
   go_ret
   exact ⟨rfl, hst⟩
 ·rw [decide_eq_false (fun h => h0 h.1)]
  go_enter Tryz.func89, Tryz.ntmps89
  go_wp2_with fail
  go_ret
  exact ⟨rfl, hst⟩
set_option maxHeartbeats 4000000 in
theorem mnode_any (l r : Dig) (w : World) (hT : Tb w) : Calls Tryz.prog 95 #[l.v, r.v] w fun e w' => e = .returned (mNode l r).v ∧ St w w' [] := by
 have hst := St.refl w
 have HT := Lib.hid hT
 have hd : digsL [l, r] = l.arr.toList ++ r.arr.toList := by simp [digsL, Dig.toList]
 have HD := Lib.hid hd
 clear hT hd
 obtain ⟨m, hm⟩ : ∃ m, m = mNode l r := ⟨_, rfl⟩
 rw [← hm]
 unfold mNode at hm
 by_cases hl : l = zeroD
 ·have hdl := Lib.hid (decide_eq_true hl)
  by_cases hr : r = zeroD
  ·have hdr := Lib.hid (decide_eq_true hr)
   rw [if_pos ⟨hl, hr⟩] at hm
   have HM := Lib.hid hm
   clear hm hl hr
   go_enter Tryz.func95, Tryz.ntmps95
   go_upto_region 1 with (go_big_may; first | (refine L_boxA (d := some 2) rfl rfl rfl (ev_tmp rfl) ?_; (try clear hnew); intro g2 W2 hnew; replace hst := hst.trans hnew; simp only [List.cons_append, List.nil_append] at hst) | (refine L_boxA (d := some 3) rfl rfl rfl (ev_tmp rfl) ?_; (try clear hnew); intro g3 W3 hnew; replace hst := hst.trans hnew; simp only [List.cons_append, List.nil_append] at hst) | (refine L_allocA (d := some 4) rfl rfl rfl el_api_Digest ?_; (try clear hnew); intro g4 W4 hnew; replace hst := hst.trans hnew; simp only [List.cons_append, List.nil_append] at hst))
   go_upto_region 2 with (go_big_may; first | (refine L_build0 (d := some 6) rfl rfl rfl Tryz.underlying32 el_uint8 el_api_Digest ?_) | (refine L_allocA (d := some 5) rfl rfl rfl el_api_Digest ?_; (try clear hnew); intro g5 W5 hnew; replace hst := hst.trans hnew; simp only [List.cons_append, List.nil_append] at hst) | (refine wpl_at (.store 32 (.tmp 5) (.tmp 6)) rfl ?_; (refine L_storeA rfl rfl hst rfl (by rfl) (ev_tmp rfl) (by (exact Dig.one _)) el_api_Digest (by (rfl)) 0 rfl (by (rfl)) ?_; clear hst; intro WS2 hst; simp only [List.set_cons_zero, List.set_cons_succ] at hst)))
   go_upto_region 3 with (go_big_may; first | ((refine L_loadA (d := some 7) rfl rfl rfl (by rfl) Tryz.underlying32 rfl el_api_Digest (by (exact hst.get 3 rfl)) (by (exact Dig.size _)) ?_)) | ((refine L_loadA (d := some 8) rfl rfl rfl (by rfl) Tryz.underlying32 rfl el_api_Digest (by (exact hst.get 0 rfl)) (by (rfl)) ?_)) | (refine L_eqD (d := some 9) rfl rfl rfl Tryz.underlying32 Tryz.underlying5 el_uint8 eqG_D (ev_tmp rfl) (ev_tmp rfl) ?_; (try rw [hdl.out])) | ((refine L_loadA (d := some 11) rfl rfl rfl (by rfl) Tryz.underlying32 rfl el_api_Digest (by (exact hst.get 2 rfl)) (by (exact Dig.size _)) ?_)) | ((refine L_loadA (d := some 12) rfl rfl rfl (by rfl) Tryz.underlying32 rfl el_api_Digest (by (exact hst.get 0 rfl)) (by (rfl)) ?_)) | (refine L_eqD (d := some 13) rfl rfl rfl Tryz.underlying32 Tryz.underlying5 el_uint8 eqG_D (ev_tmp rfl) (ev_tmp rfl) ?_; (try rw [hdr.out])))
   go_wp2_with (first | ((refine L_loadA (d := some 15) rfl rfl rfl (by rfl) Tryz.underlying32 rfl el_api_Digest (by (exact hst.get 0 rfl)) (by (rfl)) ?_)) | (refine wpl_at (.store 32 (.tmp 4) (.tmp 15)) rfl ?_; (refine L_storeA rfl rfl hst rfl (by rfl) (ev_tmp rfl) (by (exact Dig.one _)) el_api_Digest (by (rfl)) 1 rfl (by (rfl)) ?_; clear hst; intro WS1 hst; simp only [List.set_cons_zero, List.set_cons_succ] at hst)))
   refine bp_cell rfl rfl rfl (hst.get 1 rfl) Tryz.underlying32 rfl el_api_Digest (by (rfl)) ?_
   rw [HM.out]
   exact ⟨rfl, hst.forget⟩
  ·have hdr := Lib.hid (decide_eq_false hr)
   rw [if_neg (fun h => hr h.2)] at hm
   have HM := Lib.hid hm
   clear hm hl hr
   go_enter Tryz.func95, Tryz.ntmps95
   go_upto_region 1 with (go_big_may; first | (refine L_boxA (d := some 2) rfl rfl rfl (ev_tmp rfl) ?_; (try clear hnew); intro g2 W2 hnew; replace hst := hst.trans hnew; simp only [List.cons_append, List.nil_append] at hst) | (refine L_boxA (d := some 3) rfl rfl rfl (ev_tmp rfl) ?_; (try clear hnew); intro g3 W3 hnew; replace hst := hst.trans hnew; simp only [List.cons_append, List.nil_append] at hst) | (refine L_allocA (d := some 4) rfl rfl rfl el_api_Digest ?_; (try clear hnew); intro g4 W4 hnew; replace hst := hst.trans hnew; simp only [List.cons_append, List.nil_append] at hst))
   go_upto_region 2 with (go_big_may; first | (refine L_build0 (d := some 6) rfl rfl rfl Tryz.underlying32 el_uint8 el_api_Digest ?_) | (refine L_allocA (d := some 5) rfl rfl rfl el_api_Digest ?_; (try clear hnew); intro g5 W5 hnew; replace hst := hst.trans hnew; simp only [List.cons_append, List.nil_append] at hst) | (refine wpl_at (.store 32 (.tmp 5) (.tmp 6)) rfl ?_; (refine L_storeA rfl rfl hst rfl (by rfl) (ev_tmp rfl) (by (exact Dig.one _)) el_api_Digest (by (rfl)) 0 rfl (by (rfl)) ?_; clear hst; intro WS2 hst; simp only [List.set_cons_zero, List.set_cons_succ] at hst)))
   go_upto_region 4 with (go_big_may; first | ((refine L_loadA (d := some 7) rfl rfl rfl (by rfl) Tryz.underlying32 rfl el_api_Digest (by (exact hst.get 3 rfl)) (by (exact Dig.size _)) ?_)) | ((refine L_loadA (d := some 8) rfl rfl rfl (by rfl) Tryz.underlying32 rfl el_api_Digest (by (exact hst.get 0 rfl)) (by (rfl)) ?_)) | (refine L_eqD (d := some 9) rfl rfl rfl Tryz.underlying32 Tryz.underlying5 el_uint8 eqG_D (ev_tmp rfl) (ev_tmp rfl) ?_; (try rw [hdl.out])) | ((refine L_loadA (d := some 11) rfl rfl rfl (by rfl) Tryz.underlying32 rfl el_api_Digest (by (exact hst.get 2 rfl)) (by (exact Dig.size _)) ?_)) | ((refine L_loadA (d := some 12) rfl rfl rfl (by rfl) Tryz.underlying32 rfl el_api_Digest (by (exact hst.get 0 rfl)) (by (rfl)) ?_)) | (refine L_eqD (d := some 13) rfl rfl rfl Tryz.underlying32 Tryz.underlying5 el_uint8 eqG_D (ev_tmp rfl) (ev_tmp rfl) ?_; (try rw [hdr.out])))
   go_wp2_with (first | (go_at_call 126; (try clear hnew); refine (of_any 10 [l, r] _ _ _ _ (HT.out.of hst) (by rw [HD.out]; exact hst.sl 0 rfl) (by decide)).mono ?_; rintro e W8 ⟨rfl, hnew⟩; replace hst := hst.keep hnew) | ((refine L_loadA (d := some 16) rfl rfl rfl (by rfl) Tryz.underlying32 rfl el_api_Digest (by (exact hst.get 3 rfl)) (by (exact Dig.size _)) ?_)) | ((refine L_loadA (d := some 17) rfl rfl rfl (by rfl) Tryz.underlying32 rfl el_api_Digest (by (exact hst.get 2 rfl)) (by (exact Dig.size _)) ?_)) | (refine L_buildS (d := some 18) rfl rfl rfl [_, _] (bs_2 (ev_tmp rfl) (ev_tmp rfl)) rfl Tryz.underlying44 el_api_Digest rfl (by (simp [Value.cells, Dig.size]; done)) (by decide) (by decide) ?_; (try clear hnew); intro g18 W18 hnew; replace hst := hst.trans hnew; simp only [List.cons_append, List.nil_append] at hst; simp only [List.flatMap_cons, List.flatMap_nil, List.append_nil, Value.cells, List.toList_toArray] at hst) | (refine wpl_at (.store 32 (.tmp 4) (.tmp 19)) rfl ?_; (refine L_storeA rfl rfl hst rfl (by rfl) (ev_tmp rfl) (by (exact Dig.one _)) el_api_Digest (by (rfl)) 2 rfl (by (rfl)) ?_; clear hst; intro WS4 hst; simp only [List.set_cons_zero, List.set_cons_succ] at hst)))
   refine bp_cell rfl rfl rfl (hst.get 2 rfl) Tryz.underlying32 rfl el_api_Digest (by (rfl)) ?_
   rw [HM.out]
   exact ⟨rfl, hst.forget⟩
 ·have hdl := Lib.hid (decide_eq_false hl)
  rw [if_neg (fun h => hl h.1)] at hm
  have HM := Lib.hid hm
  clear hm hl
  go_enter Tryz.func95, Tryz.ntmps95
  go_upto_region 1 with (go_big_may; first | (refine L_boxA (d := some 2) rfl rfl rfl (ev_tmp rfl) ?_; (try clear hnew); intro g2 W2 hnew; replace hst := hst.trans hnew; simp only [List.cons_append, List.nil_append] at hst) | (refine L_boxA (d := some 3) rfl rfl rfl (ev_tmp rfl) ?_; (try clear hnew); intro g3 W3 hnew; replace hst := hst.trans hnew; simp only [List.cons_append, List.nil_append] at hst) | (refine L_allocA (d := some 4) rfl rfl rfl el_api_Digest ?_; (try clear hnew); intro g4 W4 hnew; replace hst := hst.trans hnew; simp only [List.cons_append, List.nil_append] at hst))
  go_upto_region 2 with (go_big_may; first | (refine L_build0 (d := some 6) rfl rfl rfl Tryz.underlying32 el_uint8 el_api_Digest ?_) | (refine L_allocA (d := some 5) rfl rfl rfl el_api_Digest ?_; (try clear hnew); intro g5 W5 hnew; replace hst := hst.trans hnew; simp only [List.cons_append, List.nil_append] at hst) | (refine wpl_at (.store 32 (.tmp 5) (.tmp 6)) rfl ?_; (refine L_storeA rfl rfl hst rfl (by rfl) (ev_tmp rfl) (by (exact Dig.one _)) el_api_Digest (by (rfl)) 0 rfl (by (rfl)) ?_; clear hst; intro WS2 hst; simp only [List.set_cons_zero, List.set_cons_succ] at hst)))
  go_upto_region 4 with (go_big_may; first | ((refine L_loadA (d := some 7) rfl rfl rfl (by rfl) Tryz.underlying32 rfl el_api_Digest (by (exact hst.get 3 rfl)) (by (exact Dig.size _)) ?_)) | ((refine L_loadA (d := some 8) rfl rfl rfl (by rfl) Tryz.underlying32 rfl el_api_Digest (by (exact hst.get 0 rfl)) (by (rfl)) ?_)) | (refine L_eqD (d := some 9) rfl rfl rfl Tryz.underlying32 Tryz.underlying5 el_uint8 eqG_D (ev_tmp rfl) (ev_tmp rfl) ?_; (try rw [hdl.out])))
  go_wp2_with (first | (go_at_call 126; (try clear hnew); refine (of_any 10 [l, r] _ _ _ _ (HT.out.of hst) (by rw [HD.out]; exact hst.sl 0 rfl) (by decide)).mono ?_; rintro e W8 ⟨rfl, hnew⟩; replace hst := hst.keep hnew) | ((refine L_loadA (d := some 16) rfl rfl rfl (by rfl) Tryz.underlying32 rfl el_api_Digest (by (exact hst.get 3 rfl)) (by (exact Dig.size _)) ?_)) | ((refine L_loadA (d := some 17) rfl rfl rfl (by rfl) Tryz.underlying32 rfl el_api_Digest (by (exact hst.get 2 rfl)) (by (exact Dig.size _)) ?_)) | (refine L_buildS (d := some 18) rfl rfl rfl [_, _] (bs_2 (ev_tmp rfl) (ev_tmp rfl)) rfl Tryz.underlying44 el_api_Digest rfl (by (simp [Value.cells, Dig.size]; done)) (by decide) (by decide) ?_; (try clear hnew); intro g18 W18 hnew; replace hst := hst.trans hnew; simp only [List.cons_append, List.nil_append] at hst; simp only [List.flatMap_cons, List.flatMap_nil, List.append_nil, Value.cells, List.toList_toArray] at hst) | (refine wpl_at (.store 32 (.tmp 4) (.tmp 19)) rfl ?_; (refine L_storeA rfl rfl hst rfl (by rfl) (ev_tmp rfl) (by (exact Dig.one _)) el_api_Digest (by (rfl)) 2 rfl (by (rfl)) ?_; clear hst; intro WS4 hst; simp only [List.set_cons_zero, List.set_cons_succ] at hst)))
  refine bp_cell rfl rfl rfl (hst.get 2 rfl) Tryz.underlying32 rfl el_api_Digest (by (rfl)) ?_
  rw [HM.out]
  exact ⟨rfl, hst.forget⟩
theorem be4_cells (n : Int) : [Value.int .u8 9, .int .u8 (n / 16777216 % 256), .int .u8 (n / 65536 % 256), .int .u8 (n / 256 % 256), .int .u8 (n % 256)] = [Value.int .u8 9, byteV (byteS n 3), byteV (byteS n 2), byteV (byteS n 1), byteV (byteS n 0)] := by
 rw [bS n 3 (by decide) _ (by decide), bS n 2 (by decide) _ (by decide), bS n 1 (by decide) _ (by decide), bS0]
theorem be4_bytes (k : Nat) (h : k < 4294967296) : [Value.int .u8 9, byteV (byteS (k : Int) 3), byteV (byteS (k : Int) 2), byteV (byteS (k : Int) 1), byteV (byteS (k : Int) 0)] = bytesL (9 :: bigE 4 k) := by
 have hu : unsN (k : Int) = k := by unfold unsN; omega
 simp [bytesL, byteS, hu, bigE, List.range_succ, Nat.shiftRight_eq_div_pow]
 rfl
set_option maxHeartbeats 2000000 in
theorem tleafE_any (k : Nat) (d : Dig) (w : World) (hT : Tb w) (hk : k < 4294967296) : Calls Tryz.prog 96 #[.agg (prArr (k : Int) d)] w fun e w' => e = .returned (.tuple #[(eLeaf k d).v, .nilIface]) ∧ St w w' [] := by
 have hst := St.refl w
 have HT := Lib.hid hT
 have HB := Lib.hid (be4_bytes k hk)
 have HL := Lib.hid (show bytesL (9 :: bigE 4 k) ++ d.arr.toList = bytesL (9 :: (bigE 4 k ++ d.l)) by rw [Dig.toList, ← bytesL_append]; rfl)
 have HK := Lib.hid (fun w : World => by have h := tkey_any (k : Int) w; rw [decide_eq_true (show 0 ≤ (k : Int) ∧ (k : Int) < 4294967296 by omega)] at h; exact h)
 clear hT hk
 go_enter Tryz.func96, Tryz.ntmps96
 go_upto_region 1 with (go_big_may; first | (refine L_boxA (d := some 1) rfl rfl rfl (ev_tmp rfl) ?_; (try clear hnew); intro g1 W1 hnew; replace hst := hst.trans hnew; simp only [List.cons_append, List.nil_append] at hst) | (refine L_allocA (d := some 2) rfl rfl rfl el_api_Digest ?_; (try clear hnew); intro g2 W2 hnew; replace hst := hst.trans hnew; simp only [List.cons_append, List.nil_append] at hst))
 go_upto_region 3 with (go_big_may; first | (go_at_call 89; (try clear hnew); refine (HK.out _).mono ?_; rintro e Wk ⟨rfl, hnew⟩; replace hst := hst.keep hnew) | (refine L_load1 (d := some 6) rfl rfl rfl (by rfl) Tryz.underlying3 rfl (by (exact cell_of (hst.get 1 rfl) prArr_0)) ?_))
 go_upto_region 4 with (go_big_may; first | (refine L_load1 (d := some 12) rfl rfl rfl (by rfl) Tryz.underlying3 rfl (by (exact cell_of (hst.get 1 rfl) prArr_0)) ?_) | (refine L_load1 (d := some 16) rfl rfl rfl (by rfl) Tryz.underlying3 rfl (by (exact cell_of (hst.get 1 rfl) prArr_0)) ?_) | (refine L_load1 (d := some 20) rfl rfl rfl (by rfl) Tryz.underlying3 rfl (by (exact cell_of (hst.get 1 rfl) prArr_0)) ?_) | (refine L_load1 (d := some 24) rfl rfl rfl (by rfl) Tryz.underlying3 rfl (by (exact cell_of (hst.get 1 rfl) prArr_0)) ?_) | (refine L_buildS (d := some 26) rfl rfl rfl [_, _, _, _, _] (bs_5 ev_const (ev_tmp rfl) (ev_tmp rfl) (ev_tmp rfl) (ev_tmp rfl)) rfl Tryz.underlying22 el_uint8 rfl (by (simp [Value.cells]; done)) (by decide) (by decide) ?_; (try clear hnew); intro g26 W26 hnew; replace hst := hst.trans hnew; simp only [List.cons_append, List.nil_append] at hst; simp only [List.flatMap_cons, List.flatMap_nil, List.append_nil, Value.cells, List.toList_toArray] at hst))
 simp only [List.cons_append, List.nil_append] at hst
 rw [be4_cells k] at hst
 rw [HB.out] at hst
 clear hnew
 go_wp2_with (first | (refine L_sliceMid (d := some 29) rfl rfl rfl (by rfl) Tryz.underlying32 el_uint8 (prArr_range (hst.get 2 rfl)) (Dig.size _) (by decide) ?_; intro hs29) | (go_at_call 80; (try clear hnew); refine (ssum_any (List.cons 9 (bigE 4 k ++ d.l)) _ _ _ _ (HT.out.of hst) (by rw [← HL.out]; exact hst.sl 0 rfl) (by decide)).mono ?_; rintro e Wk1 ⟨rfl, hnew⟩; replace hst := hst.keep hnew) | (refine L_appendO (d := some 30) rfl rfl hst rfl (by rfl) (by rfl) Tryz.underlying22 el_uint8 rfl (by decide) (by decide) 0 rfl (by (rfl)) (by (exact hs29)) (by (exact oneCell_bytes)) (by omega) ?_; clear hst; intro A30 c30 W30 hst; simp only [List.set_cons_zero, List.set_cons_succ, List.nil_append, Nat.zero_add] at hst) | (refine wpl_at (.store 32 (.tmp 2) (.tmp 31)) rfl ?_; (refine L_storeA rfl rfl hst rfl (by rfl) (ev_tmp rfl) (by (exact Dig.one _)) el_api_Digest (by (rfl)) 1 rfl (by (rfl)) ?_; clear hst; intro WS5 hst; simp only [List.set_cons_zero, List.set_cons_succ, HL.out] at hst)))
 refine bp_cell_tmp rfl rfl rfl rfl (hst.get 1 rfl) Tryz.underlying32 rfl el_api_Digest (by (rfl)) ?_
 exact ⟨rfl, hst.forget⟩
end Go.Proofs.YtaebeemnipafbaaGreatDoor

set_option maxRecDepth 20000
set_option linter.unusedSimpArgs false
set_option linter.unusedVariables false
namespace Go.Proofs.YtaebeemnipafbaaGreatDoor
open Go.ChangeShapes Go.WideShapes Go.ChangeAt Go.RowKit Go.Deep
abbrev Piece := Option Addr × Nat × Nat × List UInt8
def Piece.v (p : Piece) : Value := .slice p.1 p.2.1 p.2.2.1
section
variable {P : Program} {H : Type} {enc : TypeId × Value → H} {W : World} {base : Nat} {spare : Nat → Bool} {held : Bool}
theorem piece_of_trod {t e : TypeId} {fuel : Nat} {cs : List Value} {x : DataW H × List MemPlace} (ht : P.underlying t = some (.slice e)) (he : P.underlying e = some (.int .u8)) (hce : P.cellsOf e = 1) (hf : DataW.trod enc P W base spare held fuel t cs = some x) :
  ∃ p : Piece, cs = [p.v] ∧ SlR W p.1 p.2.1 p.2.2.1 1 (bytesL p.2.2.2) ∧ ((x.1 = .nil ∧ p.2.1 = 0) ∨ ∃ el sp, x.1 = .slice el sp ∧ el.length = p.2.1) := by
 rcases open_slice ht hf with ⟨hcs, hx⟩ | ⟨a, len0, cap0, m, k, D, Pl, hcs, hb, hl, hm, hmm, hx, hel⟩
 ·exact ⟨(none, 0, 0, []), hcs, SlR.nil_ W 1, .inl ⟨by rw [hx], rfl⟩⟩
 ·rw [hce] at hel
  have hlm : len0 ≤ m := by rw [hmm]; split <;> omega
  obtain ⟨bs, hbs⟩ := choose_below (α := UInt8) (n := len0) (p := fun i b => W.cells? base (a.add (i * 1)) 1 = some [byteV b]) (fun i hi => by
   obtain ⟨cs', h1, h2⟩ := hel i (by omega)
   match cs', (World.cells?_some h1).2.1 with
   | [x], _ =>
    obtain ⟨b, rfl⟩ := byte_of_trod he h2
    exact ⟨b, h1⟩)
  have hs := slr_of (W := W) (base := base) (A := some a) (n := len0) (c := cap0) (s := 1) (by decide) (fun i => [byteV (bs i)]) hl hm (fun _ => ⟨a, rfl, hbs⟩)
  have hfl : ∀ l : List Nat, l.flatMap (fun i => [byteV (bs i)]) = (l.map bs).map byteV := by
   intro l
   induction l with
   | nil => rfl
   | cons x l ih => simp [ih]
  rw [hfl] at hs
  exact ⟨(some a, len0, cap0, (List.range len0).map bs), hcs, hs, .inr ⟨_, _, by rw [hx], by simp⟩⟩
instance : Inhabited Piece := ⟨(none, 0, 0, [])⟩
theorem open_bytess {r : Reach} {b0 : Nat} {t u e : TypeId} {v : Value} {d : DataW H} {p : List MemPlace} (ht : P.underlying t = some (.slice u)) (hu : P.underlying u = some (.slice e)) (he : P.underlying e = some (.int .u8)) (hce : P.cellsOf e = 1) (hcu : P.cellsOf u = 1)
  (hval : Value.okWide P W r b0 t v) (h : DataW.Trod enc P W base spare held t v d p) :
  ∃ (A : Option Addr) (n c : Nat) (f : Nat → Piece), v = .slice A n c ∧ SlR W A n c 1 ((List.range n).map fun i => (f i).v) ∧ (∀ i, i < n → SlR W (f i).1 (f i).2.1 (f i).2.2.1 1 (bytesL (f i).2.2.2)) ∧
   ((d = .nil ∧ n = 0) ∨ ∃ (D : Nat → DataW H) (sp : List (DataW H)), d = .slice ((List.range n).map D) sp ∧ ∀ i, i < n → (D i = .nil ∧ (f i).2.1 = 0) ∨ ∃ el sp, D i = .slice el sp ∧ el.length = (f i).2.1) := by
 obtain ⟨a0, len0, cap0, rfl⟩ := okWide_slice ht hval
 obtain ⟨fuel, hf⟩ := h
 rcases open_slice ht hf with ⟨hcs, hx⟩ | ⟨a, len, cap, m, k, D, Pl, hcs, hb, hl, hm, hmm, hx, hel⟩
 ·simp only [Value.cells, List.cons.injEq, Value.slice.injEq, and_true] at hcs
  obtain ⟨rfl, rfl, rfl⟩ := hcs
  simp only [Prod.mk.injEq] at hx
  exact ⟨none, 0, 0, fun _ => default, rfl, SlR.nil_ W 1, fun i hi => absurd hi (by omega), .inl ⟨hx.1, rfl⟩⟩
 ·simp only [Value.cells, List.cons.injEq, Value.slice.injEq, and_true] at hcs
  obtain ⟨rfl, rfl, rfl⟩ := hcs
  simp only [Prod.mk.injEq] at hx
  rw [hcu] at hel
  have hlm : len0 ≤ m := by rw [hmm]; split <;> omega
  obtain ⟨f, hf'⟩ := choose_below (α := Piece) (n := len0) (p := fun i q => W.cells? base (a.add (i * 1)) 1 = some [q.v] ∧ SlR W q.1 q.2.1 q.2.2.1 1 (bytesL q.2.2.2) ∧ ((D i = .nil ∧ q.2.1 = 0) ∨ ∃ el sp, D i = .slice el sp ∧ el.length = q.2.1)) (fun i hi => by
   obtain ⟨cs', h1, h2⟩ := hel i (by omega)
   obtain ⟨q, rfl, h3, h4⟩ := piece_of_trod hu he hce h2
   exact ⟨q, h1, h3, h4⟩)
  have hs := slr_of (W := W) (base := base) (A := some a) (n := len0) (c := cap0) (s := 1) (by decide) (fun i => [(f i).v]) hl hm (fun _ => ⟨a, rfl, fun i hi => (hf' i hi).1⟩)
  have hfl : ∀ l : List Nat, l.flatMap (fun i => [(f i).v]) = l.map fun i => (f i).v := by
   intro l
   induction l with
   | nil => rfl
   | cons x l ih => simp [ih]
  rw [hfl] at hs
  exact ⟨some a, len0, cap0, f, rfl, hs, fun i hi => (hf' i hi).2.1, .inr ⟨D, _, hx.1, fun i hi => (hf' i hi).2.2⟩⟩
end
end Go.Proofs.YtaebeemnipafbaaGreatDoor

set_option maxRecDepth 20000
set_option linter.unusedSimpArgs false
set_option linter.unusedVariables false
namespace Go.Proofs.YtaebeemnipafbaaGreatDoor
open Go.RowKit
def allPc (ps : List Piece) : List UInt8 := ps.flatMap fun p => p.2.2.2
theorem allPc_nil : allPc [] = [] := rfl
theorem allPc_cons (p : Piece) (ps : List Piece) : allPc (p :: ps) = p.2.2.2 ++ allPc ps := rfl
theorem allPc_take (ps : List Piece) (i : Nat) (h : i < ps.length) : allPc (ps.take (i + 1)) = allPc (ps.take i) ++ (ps[i]).2.2.2 := by
 unfold allPc
 rw [List.take_succ_eq_append_getElem h, List.flatMap_append, List.flatMap_cons, List.flatMap_nil, List.append_nil]
theorem allPc_take_le (ps : List Piece) (i : Nat) : (allPc (ps.take i)).length ≤ (allPc ps).length := by
 have : allPc ps = allPc (ps.take i) ++ allPc (ps.drop i) := by
  rw [allPc, allPc, allPc, ← List.flatMap_append, List.take_append_drop]
 rw [this, List.length_append]
 omega
def piecesL (ps : List Piece) : List Value := ps.map Piece.v
theorem piece_at {W : World} {g off i : Nat} {ps : List Piece} (h : W.rangeAt g (off + (i : Int).toNat * 1) (((piecesL ps).drop ((i : Int).toNat * 1)).take 1)) (hi : i < ps.length) : W.cell? ⟨g, off + (i : Int).toNat * 1, none⟩ = some (.slice ps[i].1 ps[i].2.1 ps[i].2.2.1) := by
 have := h 0 ps[i].v (by simp [piecesL, hi])
 simpa [Piece.v] using this
set_option maxHeartbeats 2000000 in
theorem growB_any (n : Nat) (w : World) (hn : n ≤ 140737488355328) :
  Calls Tryz.prog 103 #[.slice none 0 0, .int .i64 (n : Int)] w fun e w' => ∃ O c, e = .returned (.slice O 0 c) ∧ St w w' [.row O 0 c 5 1 []] := by
 by_cases h0 : n = 0
 ·subst h0
  have hst := St.refl w
  go_enter Tryz.func103, Tryz.ntmps103
  go_wp2_with (fail)
  go_ret
  exact ⟨none, 0, rfl, hst.nilRow _ 1⟩
 ·obtain ⟨i, hi, hiz, his, hib⟩ := el_uint8.parts
  have hrz : ∀ ty, (Builtin.append_ #[22, 3] ty #[.slice none 0 0, .int .i64 (n : Int)]).run Tryz.prog w =
    .ok (.slice (some ⟨w.heap.size, 0, none⟩) n (grownCap w n 0 5)) (w.drew.alloc (.cells (Builtin.zeroCells (Value.int .u8 0).cells n ++ Builtin.zeroCells (Value.int .u8 0).cells (grownCap w n 0 5 - n)) 5)) := fun ty => by
   have h := Lib.run_append_grow_zeros w 22 3 ty 5 i _ .i64 .i64 Tryz.underlying22 Tryz.underlying3 hi hiz none 0 0 [] (run_firstCells_none w.drew i.size 0 0 0) n (by omega) (by rw [his]; decide) (by omega) (by omega) (by rw [hib]; omega) (growslice_fits (by omega) (by rw [hib]; omega))
   simpa using h
  have hge : n ≤ grownCap w n 0 5 := grownCap_ge w _ _ _
  have hcm := grownCap_le_maxLen w n 0 5 (by unfold maxLen; omega)
  have hst : St w (w.drew.alloc (.cells (Builtin.zeroCells (Value.int .u8 0).cells n ++ Builtin.zeroCells (Value.int .u8 0).cells (grownCap w n 0 5 - n)) 5)) [.row (some ⟨w.heap.size, 0, none⟩) 0 (grownCap w n 0 5) 5 1 []] :=
   ((St.refl w).drew).allocRow 5 ⟨by simp, by omega, hcm, by simp [size_zeroCells, Value.cells]; omega, fun j v hv => by simp at hv⟩
  obtain ⟨G, hG⟩ : ∃ G, G = grownCap w n 0 5 := ⟨_, rfl⟩
  rw [← hG] at hrz hge hcm hst
  simp only [maxLen] at hcm
  clear hG
  have h1 : ¬ (n : Int) < 0 := by omega
  have h3 : wrap64 ((n : Int) - 0) = (n : Int) := by unfold wrap64; omega
  have h4 : (0 : Int) < (n : Int) := by omega
  go_enter Tryz.func103, Tryz.ntmps103
  go_wp2_with (at_builtin; refine Lib.wpList_append_run _ rfl _ _ _ _ rfl _ _ rfl rfl _ _ (hrz _) ?_)
  all_goals
   go_ret
   exact ⟨_, _, rfl, hst⟩
set_option maxHeartbeats 2000000 in
set_option maxRecDepth 100000 in
theorem concat_any (ps : List Piece) (A : Option Addr) (n c : Nat) (w : World) (hs : SlR w A n c 1 (piecesL ps)) (hp : ∀ p ∈ ps, SlR w p.1 p.2.1 p.2.2.1 1 (bytesL p.2.2.2)) (hb : (allPc ps).length ≤ 140737488355328) :
  Calls Tryz.prog 62 #[.slice A n c] w fun e w' => ∃ O oc, e = .returned (.slice O (allPc ps).length oc) ∧ St w w' [.row O (allPc ps).length oc 5 1 (bytesL (allPc ps))] := by
 have hst := St.refl w
 have hnl := hs.1
 rw [piecesL, List.length_map, Nat.mul_one] at hnl
 have Hnl := Lib.hid hnl
 have Hp := Lib.hid hp
 have Hb := Lib.hid hb
 have hcm := hs.2.2.1
 have hnc := hs.2.1
 simp only [maxLen] at hcm
 clear hnl hp hb
 go_enter Tryz.func62, Tryz.ntmps62
 go_wp2_with (fail)
 go_loopg [3, 11] n (fun gk s3 s11 wr => ∃ (i m : Nat), Hid (i + gk = n) ∧ Hid ((allPc (ps.take i)).length = m) ∧ m ≤ 140737488355328 ∧ s3 = .int .i64 (m : Int) ∧ s11 = .int .i64 (i : Int) ∧ St w wr [])
 case atStart => exact ⟨0, 0, Lib.hid (by omega), Lib.hid rfl, by omega, rfl, rfl, hst⟩
 case round =>
  clear hst
  obtain ⟨i, m, HI, HM, hm, rfl, rfl, hst⟩ := hrel
  have hi := HI.out
  by_cases hin : i < n
  ·clear hi
   have hil := Lib.hid (show i < ps.length by rw [Hnl.out]; exact hin)
   have HC := Lib.hid (fun (W : World) (g off : Nat) h => piece_at (W := W) (g := g) (off := off) (i := i) (ps := ps) h hil.out)
   have HA := Lib.hid (allPc_take ps i hil.out)
   have hle := allPc_take_le ps (i + 1)
   have hbb := Hb.out
   have hpl := (Hp.out ps[i] (List.getElem_mem hil.out)).1
   rw [HA.out, List.length_append, HM.out] at hle
   generalize ps[i]'hil.out = q at HC HA hle hpl
   obtain ⟨PA, pn, pc, pl⟩ := q
   dsimp only at HC HA hle hpl
   simp only [length_bytesL, Nat.mul_one] at hle hpl
   have hmp : m + pn ≤ 140737488355328 := by omega
   have Hpl := Lib.hid hpl
   clear hle hbb hpl
   go_wp2_with (first | (refine L_load1 (d := some 14) rfl rfl rfl (by rfl) Tryz.underlying22 rfl (HC.out _ _ _ hr13) ?_) | (refine L_idxS (d := some 13) rfl rfl rfl (by rfl) (by rfl) Tryz.underlying162 el_S_uint8 (by (exact hst.old (by decide) hs)) (by omega) (by omega) ?_; intro o13 p13 ha13 hr13; ((subst ha13))))
   all_goals
    go_roundg (gk - 1)
    case measure => have hi := HI.out; omega
    case rel =>
     have hi := HI.out
     exact ⟨i + 1, m + pn, Lib.hid (by omega), Lib.hid (by rw [HA.out, List.length_append, HM.out, Hpl.out]), hmp, by go_num, by go_num, hst⟩
  ·obtain rfl : i = n := by omega
   clear hi HI
   have HL := Lib.hid (show (allPc ps).length = m by rw [← HM.out, List.take_of_length_le (by rw [Hnl.out]; exact Nat.le_refl _)])
   clear HM
   go_wp2_with ((go_at_call 103; (try clear hnew); refine (growB_any m _ hm).mono ?_; rintro e Wk1 ⟨O24, c24, rfl, hnew⟩; replace hst := hst.trans hnew; simp only [List.cons_append, List.nil_append] at hst))
   (try clear hnew)
   go_loopg [6, 27] i (fun gk s6 s27 wr => ∃ (j q oc : Nat) (O : Option Addr), Hid (j + gk = i) ∧ Hid ((allPc (ps.take j)).length = q) ∧ s6 = .slice O q oc ∧ s27 = .int .i64 (j : Int) ∧ St w wr [.row O q oc 5 1 (bytesL (allPc (ps.take j)))])
   case atStart => exact ⟨0, 0, _, _, Lib.hid (by omega), Lib.hid rfl, rfl, rfl, hst⟩
   case round =>
    clear hst
    obtain ⟨j, q, oc, O, HJ, HQ, rfl, rfl, hst⟩ := hrel
    have hj := HJ.out
    by_cases hjn : j < i
    ·clear hj
     have hil := Lib.hid (show j < ps.length by rw [Hnl.out]; exact hjn)
     have HC := Lib.hid (fun (W : World) (g off : Nat) h => piece_at (W := W) (g := g) (off := off) (i := j) (ps := ps) h hil.out)
     have HP := Hp.out (ps[j]'hil.out) (List.getElem_mem hil.out)
     have HA := Lib.hid (allPc_take ps j hil.out)
     have hle := allPc_take_le ps (j + 1)
     have hbb := Hb.out
     have hpl := HP.1
     rw [HA.out, List.length_append, HQ.out] at hle
     generalize ps[j]'hil.out = r at HC HP HA hle hpl
     obtain ⟨PA, pn, pc, pl⟩ := r
     dsimp only at HC HP HA hle hpl
     simp only [length_bytesL, Nat.mul_one] at hle hpl
     have hmp : q + pn ≤ 140737488355328 := by omega
     have Hpl := Lib.hid hpl
     clear hle hbb hpl
     generalize hal : allPc (ps.take j) = al at hst
     go_wp2_with (first | (refine L_load1 (d := some 30) rfl rfl rfl (by rfl) Tryz.underlying22 rfl (HC.out _ _ _ hr29) ?_) | (refine L_idxS (d := some 29) rfl rfl rfl (by rfl) (by rfl) Tryz.underlying162 el_S_uint8 (by (exact hst.old (by decide) hs)) (by omega) (by omega) ?_; intro o29 p29 ha29 hr29; ((subst ha29))) | (refine L_appendO (d := some 33) rfl rfl hst rfl (by rfl) (by rfl) Tryz.underlying22 el_uint8 rfl (by decide) (by decide) 0 rfl (by (rfl)) (by (exact hst.old (by decide) HP)) (by (exact oneCell_bytes)) (by omega) ?_; clear hst; intro A33 c33 W33 hst; simp only [List.set_cons_zero, List.set_cons_succ, List.nil_append, Nat.zero_add] at hst))
     go_roundg (gk - 1)
     case measure => have hj := HJ.out; omega
     case rel =>
      have hj := HJ.out
      refine ⟨j + 1, q + pn, _, _, Lib.hid (by omega), Lib.hid (by rw [HA.out, List.length_append, HQ.out, Hpl.out]), rfl, by go_num, ?_⟩
      rw [HA.out, bytesL_append, hal]
      exact hst
    ·obtain rfl : j = i := by omega
     clear hj HJ
     have hall : allPc (ps.take j) = allPc ps := by rw [List.take_of_length_le (by rw [Hnl.out]; exact Nat.le_refl _)]
     rw [hall] at hst
     obtain rfl : (allPc ps).length = q := by rw [← HQ.out, hall]
     clear hall HQ
     go_wp2_with (fail)
     go_ret
     exact ⟨_, _, rfl, hst⟩
theorem concat3_any (l1 l2 l3 : List UInt8) (B1 B2 B3 : Option Addr) (n1 c1 n2 c2 n3 c3 : Nat) (A : Option Addr) (c : Nat) (w : World) (hs : SlR w A 3 c 1 [.slice B1 n1 c1, .slice B2 n2 c2, .slice B3 n3 c3])
  (h1 : SlR w B1 n1 c1 1 (bytesL l1)) (h2 : SlR w B2 n2 c2 1 (bytesL l2)) (h3 : SlR w B3 n3 c3 1 (bytesL l3)) (hb : n1 + n2 + n3 ≤ 140737488355328) :
  Calls Tryz.prog 62 #[.slice A 3 c] w fun e w' => ∃ O oc, e = .returned (.slice O (n1 + n2 + n3) oc) ∧ St w w' [.row O (n1 + n2 + n3) oc 5 1 (bytesL (l1 ++ (l2 ++ l3)))] := by
 have e1 := h1.1
 have e2 := h2.1
 have e3 := h3.1
 rw [length_bytesL, Nat.mul_one] at e1 e2 e3
 have hl : allPc [((B1, n1, c1, l1) : Piece), (B2, n2, c2, l2), (B3, n3, c3, l3)] = l1 ++ (l2 ++ l3) := by simp [allPc]
 have hn : (l1 ++ (l2 ++ l3)).length = n1 + n2 + n3 := by rw [List.length_append, List.length_append]; omega
 have := concat_any [((B1, n1, c1, l1) : Piece), (B2, n2, c2, l2), (B3, n3, c3, l3)] A 3 c w hs (by
  intro p hp
  simp only [List.mem_cons, List.not_mem_nil, or_false] at hp
  rcases hp with rfl | rfl | rfl
  ·exact h1
  ·exact h2
  ·exact h3) (by rw [hl, hn]; exact hb)
 rw [hl, hn] at this
 exact this
theorem concat4_any (l1 l2 l3 l4 : List UInt8) (B1 B2 B3 B4 : Option Addr) (n1 c1 n2 c2 n3 c3 n4 c4 : Nat) (A : Option Addr) (c : Nat) (w : World) (hs : SlR w A 4 c 1 [.slice B1 n1 c1, .slice B2 n2 c2, .slice B3 n3 c3, .slice B4 n4 c4])
  (h1 : SlR w B1 n1 c1 1 (bytesL l1)) (h2 : SlR w B2 n2 c2 1 (bytesL l2)) (h3 : SlR w B3 n3 c3 1 (bytesL l3)) (h4 : SlR w B4 n4 c4 1 (bytesL l4)) (hb : n1 + n2 + n3 + n4 ≤ 140737488355328) :
  Calls Tryz.prog 62 #[.slice A 4 c] w fun e w' => ∃ O oc, e = .returned (.slice O (n1 + n2 + n3 + n4) oc) ∧ St w w' [.row O (n1 + n2 + n3 + n4) oc 5 1 (bytesL (l1 ++ (l2 ++ (l3 ++ l4))))] := by
 have e1 := h1.1
 have e2 := h2.1
 have e3 := h3.1
 have e4 := h4.1
 rw [length_bytesL, Nat.mul_one] at e1 e2 e3 e4
 have hl : allPc [((B1, n1, c1, l1) : Piece), (B2, n2, c2, l2), (B3, n3, c3, l3), (B4, n4, c4, l4)] = l1 ++ (l2 ++ (l3 ++ l4)) := by simp [allPc]
 have hn : (l1 ++ (l2 ++ (l3 ++ l4))).length = n1 + n2 + n3 + n4 := by rw [List.length_append, List.length_append, List.length_append]; omega
 have := concat_any [((B1, n1, c1, l1) : Piece), (B2, n2, c2, l2), (B3, n3, c3, l3), (B4, n4, c4, l4)] A 4 c w hs (by
  intro p hp
  simp only [List.mem_cons, List.not_mem_nil, or_false] at hp
  rcases hp with rfl | rfl | rfl | rfl
  ·exact h1
  ·exact h2
  ·exact h3
  ·exact h4) (by rw [hl, hn]; exact hb)
 rw [hl, hn] at this
 exact this
end Go.Proofs.YtaebeemnipafbaaGreatDoor

set_option maxRecDepth 20000
set_option linter.unusedSimpArgs false
set_option linter.unusedVariables false
namespace Go.Proofs.YtaebeemnipafbaaGreatDoor
open Go.RowKit
theorem sz4_big (n : Nat) (h : n < 4294967296) : sz4 (n : Int) = bigE 4 n := by
 have hu : unsN (n : Int) = n := by unfold unsN; omega
 simp [sz4, byteS, hu, bigE, List.range_succ, Nat.shiftRight_eq_div_pow]
set_option maxHeartbeats 2000000 in
set_option maxRecDepth 100000 in
theorem tag_any (key : List UInt8) (K : Option Addr) (m mc : Nat) (n : Int) (x y z : Dig) (w : World) (hn1 : -9223372036854775808 ≤ n) (hn2 : n ≤ 9223372036854775807) (hT : Tb w) (hk : SlR w K m mc 1 (bytesL key)) (hm : m ≤ 140737488355000) :
  Calls Tryz.prog 24 #[.slice K m mc, .agg (hdArr n x y z)] w fun e w' => e = .returned (tagN key n x y).v ∧ St w w' [] := by
 have hst := St.refl w
 have HT := Lib.hid hT
 clear hT
 by_cases hp : putNo n 4
 ·have HP := Lib.hid (fun w => oput_no n 4 w hn1 hn2 (by decide) (by decide) hp)
  clear hp hn1 hn2
  go_enter Tryz.func24, Tryz.ntmps24
  go_upto_region 1 with (first | (refine L_boxA (d := some 3) rfl rfl rfl (ev_tmp rfl) ?_; (try clear hnew); intro g3 W3 hnew; replace hst := hst.trans hnew; simp only [List.cons_append, List.nil_append] at hst) | (refine L_allocA (d := some 4) rfl rfl rfl el_api_Digest ?_; (try clear hnew); intro g4 W4 hnew; replace hst := hst.trans hnew; simp only [List.cons_append, List.nil_append] at hst))
  go_upto_region 2 with (first | (go_at_call 60; refine (HP.out _).mono ?_; unfold errV; rintro e Wp ⟨rfl, hnew⟩; replace hst := hst.keep hnew; clear hnew) | (refine L_load1 (d := some 9) rfl rfl rfl (by rfl) Tryz.underlying3 rfl (by (exact cell_of (hst.get 1 rfl) hdArr_0)) ?_))
  go_upto_region 3 with (fail)
  go_upto_region 4 with (first | (refine L_load1 (d := some 16) rfl rfl rfl (by rfl) Tryz.underlying3 rfl (by (exact cell_of (hst.get 1 rfl) hdArr_0)) ?_) | (refine L_load1 (d := some 20) rfl rfl rfl (by rfl) Tryz.underlying3 rfl (by (exact cell_of (hst.get 1 rfl) hdArr_0)) ?_) | (refine L_load1 (d := some 24) rfl rfl rfl (by rfl) Tryz.underlying3 rfl (by (exact cell_of (hst.get 1 rfl) hdArr_0)) ?_) | (refine L_load1 (d := some 28) rfl rfl rfl (by rfl) Tryz.underlying3 rfl (by (exact cell_of (hst.get 1 rfl) hdArr_0)) ?_) | (refine L_buildS (d := some 30) rfl rfl rfl [_, _, _, _] (bs_4 (ev_tmp rfl) (ev_tmp rfl) (ev_tmp rfl) (ev_tmp rfl)) rfl Tryz.underlying22 el_uint8 rfl (by (simp [Value.cells]; done)) (by decide) (by decide) ?_; (try clear hnew); intro g30 W30 hnew; replace hst := hst.trans hnew; simp only [List.cons_append, List.nil_append] at hst; simp only [List.flatMap_cons, List.flatMap_nil, List.append_nil, Value.cells, List.toList_toArray] at hst))
  simp only [List.cons_append, List.nil_append] at hst
  rw [sz4_cells] at hst
  clear hnew HP
  refine wp_region_idx [(0, 0), (1, 0), (2, 0), (3, 0), (4, 2), (5, 2), (6, 2), (7, 2), (8, 2), (9, 1)] (by kernel_rfl) (by kernel_rfl) ?_
  replace hst := hst.drew
  refine idx_q rfl rfl ?_; go_wp2_with fail
  refine idx_q rfl rfl ?_; go_wp2_with fail
  refine idx_qf rfl rfl (by kernel_rfl) ?_; go_wp2_with fail
  refine idx_q rfl rfl ?_; go_wp2_with ((refine L_sliceMid (d := some 34) rfl rfl rfl (by rfl) Tryz.underlying32 el_uint8 (hdArr_root (hst.get 2 rfl)) (Dig.size _) (by decide) ?_; intro hs34))
  refine idx_g rfl ?_; go_wp2_with fail; refine ⟨by (exact Below.refl _ _), ?_⟩
  refine idx_g rfl ?_; go_wp2_with ((refine L_sliceMid (d := some 36) rfl rfl rfl (by rfl) Tryz.underlying32 el_uint8 (hdArr_map (hst.get 2 rfl)) (Dig.size _) (by decide) ?_; intro hs36)); refine ⟨by (exact Below.refl _ _), ?_⟩
  refine idx_g rfl ?_; go_wp2_with ((refine L_buildS (d := some 37) rfl rfl rfl [_, _, _] (bs_3 (ev_tmp rfl) (ev_tmp rfl) (ev_tmp rfl)) rfl Tryz.underlying162 el_S_uint8 rfl (by (simp [Value.cells]; done)) (by decide) (by decide) ?_; (try clear hnew); intro g37 W37 hnew; replace hst := hst.trans hnew; simp only [List.cons_append, List.nil_append] at hst; simp only [List.flatMap_cons, List.flatMap_nil, List.append_nil, Value.cells, List.toList_toArray] at hst)); refine ⟨by (exact hnew.below), ?_⟩
  refine idx_g rfl ?_; go_wp2_with ((go_at_call 62; have h34 := hnew.old (by decide) hs34; have h36 := hnew.old (by decide) hs36; clear hnew; refine (concat3_any (sz4 n) x.l y.l _ _ _ _ _ _ _ _ _ _ _ _ (hst.sl 0 rfl) (hst.sl 1 rfl) (by rw [← Dig.toList]; exact h34) (by rw [← Dig.toList]; exact h36) (by omega)).mono ?_; rintro e W29 ⟨O29, c29, rfl, hnew⟩; replace hst := hst.trans hnew; simp only [List.cons_append, List.nil_append] at hst)); refine ⟨by (exact hnew.below), ?_⟩
  refine idx_g rfl ?_; go_wp2_with ((go_at_call 61; (try clear hnew); refine (mac_any key (sz4 n ++ (x.l ++ y.l)) _ _ _ _ _ _ _ (HT.out.of hst) (hst.old (by decide) hk) (hst.sl 0 rfl) hm (by decide)).mono ?_; rintro e Wk1 ⟨rfl, hnew⟩; replace hst := hst.keep hnew)); refine ⟨by (exact hnew.below), ?_⟩
  refine idx_e rfl ?_; go_wp2_with ((refine wpl_at (.store 32 (.tmp 4) (.tmp 39)) rfl ?_; (refine L_storeA rfl rfl hst rfl (by rfl) (ev_tmp rfl) (by (exact Dig.one _)) el_api_Digest (by (rfl)) 3 rfl (by (rfl)) ?_; clear hst; intro WS9 hst; simp only [List.set_cons_zero, List.set_cons_succ] at hst)))
  refine idx_nil ?_
  go_wp2_with fail
  refine bp_cell rfl rfl rfl (hst.get 3 rfl) Tryz.underlying32 rfl el_api_Digest (by (rfl)) ?_
  exact ⟨rfl, hst.forget⟩
 ·obtain ⟨h0, h1⟩ : 0 ≤ n ∧ n < 4294967296 := by
   have hp' : ¬ (n < 0) ∧ ¬ (0 < n / 4294967296) := ⟨fun h => hp (.inr (.inr (.inl h))), fun h => hp (.inr (.inr (.inr ⟨by decide, h⟩)))⟩
   omega
  have HP := Lib.hid (fun w : World => show Calls Tryz.prog 60 #[.int .i64 n, .int .i64 4] w fun e w' => ∃ A, e = .returned (.tuple #[.slice A 4 4, .nilIface]) ∧ St w w' [.row A 4 4 5 1 (bytesL (sz4 n))] from by
   obtain ⟨k, rfl⟩ := Int.eq_ofNat_of_zero_le h0
   have hk : k < 4294967296 := by omega
   rw [sz4_big k hk]
   exact oput_any k 4 w (by decide) (by decide) (by omega) (fun _ => by rw [Nat.shiftRight_eq_div_pow]; omega))
  clear hp hn1 hn2 h0 h1
  go_enter Tryz.func24, Tryz.ntmps24
  go_upto_region 1 with (first | (refine L_boxA (d := some 3) rfl rfl rfl (ev_tmp rfl) ?_; (try clear hnew); intro g3 W3 hnew; replace hst := hst.trans hnew; simp only [List.cons_append, List.nil_append] at hst) | (refine L_allocA (d := some 4) rfl rfl rfl el_api_Digest ?_; (try clear hnew); intro g4 W4 hnew; replace hst := hst.trans hnew; simp only [List.cons_append, List.nil_append] at hst))
  go_upto_region 2 with (first | (go_at_call 60; refine (HP.out _).mono ?_; rintro e Wp ⟨Op, rfl, hnew⟩; replace hst := hst.trans hnew; simp only [List.cons_append, List.nil_append] at hst; clear hnew) | (refine L_load1 (d := some 9) rfl rfl rfl (by rfl) Tryz.underlying3 rfl (by (exact cell_of (hst.get 1 rfl) hdArr_0)) ?_))
  go_upto_region 4 with (fail)
  clear HP
  refine wp_region_idx [(0, 0), (1, 0), (2, 0), (3, 0), (4, 2), (5, 2), (6, 2), (7, 2), (8, 2), (9, 1)] (by kernel_rfl) (by kernel_rfl) ?_
  replace hst := hst.drew
  refine idx_q rfl rfl ?_; go_wp2_with fail
  refine idx_q rfl rfl ?_; go_wp2_with fail
  refine idx_qf rfl rfl (by kernel_rfl) ?_; go_wp2_with fail
  refine idx_q rfl rfl ?_; go_wp2_with ((refine L_sliceMid (d := some 34) rfl rfl rfl (by rfl) Tryz.underlying32 el_uint8 (hdArr_root (hst.get 2 rfl)) (Dig.size _) (by decide) ?_; intro hs34))
  refine idx_g rfl ?_; go_wp2_with fail; refine ⟨by (exact Below.refl _ _), ?_⟩
  refine idx_g rfl ?_; go_wp2_with ((refine L_sliceMid (d := some 36) rfl rfl rfl (by rfl) Tryz.underlying32 el_uint8 (hdArr_map (hst.get 2 rfl)) (Dig.size _) (by decide) ?_; intro hs36)); refine ⟨by (exact Below.refl _ _), ?_⟩
  refine idx_g rfl ?_; go_wp2_with ((refine L_buildS (d := some 37) rfl rfl rfl [_, _, _] (bs_3 (ev_tmp rfl) (ev_tmp rfl) (ev_tmp rfl)) rfl Tryz.underlying162 el_S_uint8 rfl (by (simp [Value.cells]; done)) (by decide) (by decide) ?_; (try clear hnew); intro g37 W37 hnew; replace hst := hst.trans hnew; simp only [List.cons_append, List.nil_append] at hst; simp only [List.flatMap_cons, List.flatMap_nil, List.append_nil, Value.cells, List.toList_toArray] at hst)); refine ⟨by (exact hnew.below), ?_⟩
  refine idx_g rfl ?_; go_wp2_with ((go_at_call 62; have h34 := hnew.old (by decide) hs34; have h36 := hnew.old (by decide) hs36; clear hnew; refine (concat3_any (sz4 n) x.l y.l _ _ _ _ _ _ _ _ _ _ _ _ (hst.sl 0 rfl) (hst.sl 1 rfl) (by rw [← Dig.toList]; exact h34) (by rw [← Dig.toList]; exact h36) (by omega)).mono ?_; rintro e W29 ⟨O29, c29, rfl, hnew⟩; replace hst := hst.trans hnew; simp only [List.cons_append, List.nil_append] at hst)); refine ⟨by (exact hnew.below), ?_⟩
  refine idx_g rfl ?_; go_wp2_with ((go_at_call 61; (try clear hnew); refine (mac_any key (sz4 n ++ (x.l ++ y.l)) _ _ _ _ _ _ _ (HT.out.of hst) (hst.old (by decide) hk) (hst.sl 0 rfl) hm (by decide)).mono ?_; rintro e Wk2 ⟨rfl, hnew⟩; replace hst := hst.keep hnew)); refine ⟨by (exact hnew.below), ?_⟩
  refine idx_e rfl ?_; go_wp2_with ((refine wpl_at (.store 32 (.tmp 4) (.tmp 39)) rfl ?_; (refine L_storeA rfl rfl hst rfl (by rfl) (ev_tmp rfl) (by (exact Dig.one _)) el_api_Digest (by (rfl)) 3 rfl (by (rfl)) ?_; clear hst; intro WS9 hst; simp only [List.set_cons_zero, List.set_cons_succ] at hst)))
  refine idx_nil ?_
  go_wp2_with fail
  refine bp_cell rfl rfl rfl (hst.get 3 rfl) Tryz.underlying32 rfl el_api_Digest (by (rfl)) ?_
  exact ⟨rfl, hst.forget⟩
end Go.Proofs.YtaebeemnipafbaaGreatDoor

set_option maxRecDepth 20000
set_option linter.unusedSimpArgs false
set_option linter.unusedVariables false
namespace Go.Proofs.YtaebeemnipafbaaGreatDoor
open Go.RowKit
theorem dig_at (d : Dig) (i : Nat) (h : i < 32) : d.arr[i]? = some (.int .u8 (((d.l.getD i 0).toNat : Nat) : Int)) := by
 rw [Dig.get d i h, List.getD_eq_getElem?_getD, List.getElem?_eq_getElem (by rw [d.h]; exact h)]
 rfl
theorem or_add (x i y : Nat) (hx : x * 2 ^ i < 2 ^ 63) (hy : y < 2 ^ i) (h63 : i < 63) : bits .or .i64 ((x : Int) * ((2 ^ i : Nat) : Int)) (y : Int) = (x : Int) * ((2 ^ i : Nat) : Int) + (y : Int) := by
 have h2 : x * 2 ^ i ||| y = x * 2 ^ i + y := by
  have := Nat.shiftLeft_add_eq_or_of_lt (i := i) (b := y) hy x
  rw [Nat.shiftLeft_eq] at this
  exact this.symm
 have hp : 2 ^ i < 2 ^ 63 := Nat.pow_lt_pow_right (by decide) h63
 have h := i64_or_nat (x * 2 ^ i) y (by omega) (by omega)
 rw [h2] at h
 rw [show (x : Int) * ((2 ^ i : Nat) : Int) = ((x * 2 ^ i : Nat) : Int) by simp, h]
 simp
theorem or4 (a b c e : Nat) (ha : a < 2 ^ 8) (hb : b < 2 ^ 8) (hc : c < 2 ^ 8) (he : e < 2 ^ 8) :
  bits .or .i64 (bits .or .i64 (bits .or .i64 ((a : Int) * 16777216) ((b : Int) * 65536)) ((c : Int) * 256)) (e : Int) = (((((a * 256 + b) * 256 + c) * 256 + e : Nat)) : Int) := by
 have e1 := or_add a 24 (b * 65536) (by omega) (by omega) (by decide)
 rw [show ((2 ^ 24 : Nat) : Int) = 16777216 from rfl, show ((b * 65536 : Nat) : Int) = (b : Int) * 65536 by omega] at e1
 have e2 := or_add (a * 256 + b) 16 (c * 256) (by omega) (by omega) (by decide)
 rw [show ((2 ^ 16 : Nat) : Int) = 65536 from rfl, show ((c * 256 : Nat) : Int) = (c : Int) * 256 by omega, show ((a * 256 + b : Nat) : Int) * 65536 = (a : Int) * 16777216 + (b : Int) * 65536 by omega] at e2
 have e3 := or_add ((a * 256 + b) * 256 + c) 8 e (by omega) (by omega) (by decide)
 rw [show ((2 ^ 8 : Nat) : Int) = 256 from rfl, show (((a * 256 + b) * 256 + c : Nat) : Int) * 256 = (a : Int) * 16777216 + (b : Int) * 65536 + (c : Int) * 256 by omega] at e3
 rw [e1, e2, e3]
 omega
theorem take_four (d : Dig) : d.l.take 4 = [d.l.getD 0 0, d.l.getD 1 0, d.l.getD 2 0, d.l.getD 3 0] := by
 obtain ⟨l, h⟩ := d
 match l, h with
 | a :: b :: c :: e :: r, _ => rfl
theorem four_or (a b c d : UInt8) : natE [a, b, c, d] = ((a.toNat * 256 + b.toNat) * 256 + c.toNat) * 256 + d.toNat := by simp [natE]
set_option maxHeartbeats 2000000 in
theorem index_any (l : List UInt8) (w : World) (hT : Tb w) (hn : l.length ≤ 140737488354000) : Calls Tryz.prog 35 #[.string (bsOf l)] w fun e w' => e = .returned (.int .i64 ((idxN l : Nat) : Int)) ∧ St w w' [] := by
 have hst := St.refl w
 have HT := Lib.hid hT
 clear hT
 go_enter Tryz.func35, Tryz.ntmps35
 have HB := Lib.hid (show [Value.int .u8 12] ++ bytesL l = bytesL (12 :: l) from rfl)
 go_upto_region 1 with (go_big_may; fail)
 go_upto_region 2 with (go_big_may; first | (refine L_appendT (d := some 6) rfl rfl hst rfl (ev_tmp rfl) (ev_tmp rfl) Tryz.underlying22 Tryz.underlying9 el_uint8 rfl 0 rfl rfl (by omega) ?_; clear hst; intro A6 c6 W6 hst; simp only [List.set_cons_zero] at hst; rw [HB.out] at hst) | (go_at_call 80; (try clear hnew); refine (ssum_any (List.cons 12 l) _ _ _ _ (HT.out.of hst) (hst.sl 0 rfl) (by omega)).mono ?_; rintro e Wk1 ⟨rfl, hnew⟩; replace hst := hst.keep hnew) | (refine L_buildS (d := some 4) rfl rfl rfl [_] (bs_1 ev_const) rfl Tryz.underlying22 el_uint8 rfl (by (simp [Value.cells]; done)) (by decide) (by decide) ?_; (try clear hnew); intro g4 W4 hnew; replace hst := hst.trans hnew; simp only [List.cons_append, List.nil_append] at hst; simp only [List.flatMap_cons, List.flatMap_nil, List.append_nil, Value.cells, List.toList_toArray] at hst) | (refine L_allocA (d := some 3) rfl rfl rfl el_api_Digest ?_; (try clear hnew); intro g3 W3 hnew; replace hst := hst.trans hnew; simp only [List.cons_append, List.nil_append] at hst) | (refine wpl_at (.store 32 (.tmp 3) (.tmp 7)) rfl ?_; (refine L_storeA rfl rfl hst rfl (by rfl) (ev_tmp rfl) (by (exact Dig.one _)) el_api_Digest (by (rfl)) 0 rfl (by (rfl)) ?_; clear hst; intro WS5 hst; simp only [List.set_cons_zero, List.set_cons_succ, HB.out] at hst)))
 clear hnew
 obtain ⟨a, ha⟩ : ∃ a, a = (sha (12 :: l)).l.getD 0 0 := ⟨_, rfl⟩
 obtain ⟨b, hb⟩ : ∃ b, b = (sha (12 :: l)).l.getD 1 0 := ⟨_, rfl⟩
 obtain ⟨c, hc⟩ : ∃ c, c = (sha (12 :: l)).l.getD 2 0 := ⟨_, rfl⟩
 obtain ⟨e, he⟩ : ∃ e, e = (sha (12 :: l)).l.getD 3 0 := ⟨_, rfl⟩
 have H0 := Lib.hid (show (sha (12 :: l)).arr[0]? = some (.int .u8 (a.toNat : Int)) from by rw [ha]; exact dig_at _ 0 (by decide))
 have H1 := Lib.hid (show (sha (12 :: l)).arr[1]? = some (.int .u8 (b.toNat : Int)) from by rw [hb]; exact dig_at _ 1 (by decide))
 have H2 := Lib.hid (show (sha (12 :: l)).arr[2]? = some (.int .u8 (c.toNat : Int)) from by rw [hc]; exact dig_at _ 2 (by decide))
 have H3 := Lib.hid (show (sha (12 :: l)).arr[3]? = some (.int .u8 (e.toNat : Int)) from by rw [he]; exact dig_at _ 3 (by decide))
 have la := UInt8.toNat_lt a
 have lb := UInt8.toNat_lt b
 have lc := UInt8.toNat_lt c
 have le := UInt8.toNat_lt e
 have HN := Lib.hid (show bits .or .i64 (bits .or .i64 (bits .or .i64 ((a.toNat : Int) * 16777216) ((b.toNat : Int) * 65536)) ((c.toNat : Int) * 256)) (e.toNat : Int) = ((idxN l : Nat) : Int) by
  rw [or4 _ _ _ _ la lb lc le, idxN, take_four, four_or, ha, hb, hc, he])
 clear ha hb hc he
 go_wp2_with (first | (refine L_load1 (d := some 9) rfl rfl rfl (by rfl) Tryz.underlying5 rfl (by (exact cell_of (hst.get 0 rfl) H0.out)) ?_) | (refine L_load1 (d := some 13) rfl rfl rfl (by rfl) Tryz.underlying5 rfl (by (exact cell_of (hst.get 0 rfl) H1.out)) ?_) | (refine L_load1 (d := some 18) rfl rfl rfl (by rfl) Tryz.underlying5 rfl (by (exact cell_of (hst.get 0 rfl) H2.out)) ?_) | (refine L_load1 (d := some 23) rfl rfl rfl (by rfl) Tryz.underlying5 rfl (by (exact cell_of (hst.get 0 rfl) H3.out)) ?_))
 rw [HN.out]
 go_ret
 exact ⟨rfl, hst.forget⟩
end Go.Proofs.YtaebeemnipafbaaGreatDoor

set_option maxRecDepth 20000
set_option linter.unusedSimpArgs false
set_option linter.unusedVariables false
namespace Go.Proofs.YtaebeemnipafbaaGreatDoor
open Go.RowKit
theorem len_byte (n : Nat) (h : n < 256) : IntKind.u8.wrap (n : Int) = ((UInt8.ofNat n).toNat : Int) := by
 rw [UInt8.toNat_ofNat']
 show (n : Int) % 256 = _
 omega
def writeE (n : NoteN) : Nat := if isNm n.name = true then (if 0 ≤ n.turn ∧ n.turn < 4294967296 then 0 else 2) else 1
attribute [local simp] ntArr_size
theorem ntKey_sl {W : World} {g t : Nat} {s : List UInt8} {k : Dig} {n : Int} {fr : Nat × Nat} (h : W.heap[g]? = some (.cells (ntArr s k n) t fr)) : SlR W (some ⟨g, 1, none⟩) 32 32 1 (bytesL k.l) :=
 ⟨by rw [length_bytesL, k.h], Nat.le_refl _, by decide, fun _ => ⟨g, 1, rfl, by have := ntArr_key h; rwa [Dig.toList] at this⟩⟩
set_option maxHeartbeats 4000000 in
set_option maxRecDepth 100000 in
theorem nwrite_any (n : NoteN) (w : World) (h : noteOk n = true) :
  Calls Tryz.prog 81 #[.agg (ntArr n.name n.key n.turn)] w fun e w' => ∃ A c, e = .returned (.tuple #[.slice A (noteB n).length c, .nilIface]) ∧ St w w' [.row A (noteB n).length c 5 1 (bytesL (noteB n))] := by
 have hst := St.refl w
 have h' := h
 unfold noteOk at h'
 rw [Bool.and_eq_true] at h'
 obtain ⟨h1, h3⟩ := h'
 have h2 := of_decide_eq_true h3
 clear h3
 have hl := isNm_len h1
 have HN := Lib.hid (fun w => by have := named_any n.name w; rw [h1] at this; exact this)
 obtain ⟨t, ht⟩ := Int.eq_ofNat_of_zero_le h2.1
 have hB := length_noteB n
 have HB := Lib.hid (show noteB n = [UInt8.ofNat n.name.length] ++ (n.name ++ (n.key.l ++ bigE 4 t)) by rw [noteB, ht]; rfl)
 have HP := Lib.hid (fun w : World => oput_any t 4 w (by decide) (by decide) (by omega) (fun _ => by rw [Nat.shiftRight_eq_div_pow]; omega))
 generalize noteB n = bs at *
 obtain ⟨s, k, m⟩ := n
 simp only at *
 have HL := Lib.hid (len_byte s.length (by omega))
 have hz := Lib.hid (bsOf_size s)
 have HBl := Lib.hid hB
 clear hB
 subst ht
 clear h h1 h2
 go_enter Tryz.func81, Tryz.ntmps81
 go_upto_region 1 with (go_big_may; (refine L_boxA (d := some 1) rfl rfl rfl (ev_tmp rfl) ?_; (try clear hnew); intro g1 W1 hnew; replace hst := hst.trans hnew; simp only [List.cons_append, List.nil_append] at hst))
 go_upto_region 3 with (go_big_may; first | (go_at_call 34; (try clear hnew); refine (HN.out _).mono ?_; rintro e Wk1 ⟨rfl, hnew⟩; replace hst := hst.keep hnew) | (refine L_load1 (d := some 7) rfl rfl rfl (by rfl) Tryz.underlying9 rfl (by (exact cell_of (hst.get 0 rfl) ntArr_0)) ?_))
 go_upto_region 4 with (go_big_may; first | (go_at_call 60; refine (HP.out _).mono ?_; rintro e Wp ⟨Op, rfl, hnew⟩; replace hst := hst.trans hnew; simp only [List.cons_append, List.nil_append] at hst; clear hnew) | (refine L_load1 (d := some 13) rfl rfl rfl (by rfl) Tryz.underlying3 rfl (by (exact cell_of (hst.get 0 rfl) ntArr_33)) ?_))
 go_upto_region 6 with (go_big_may; fail)
 have HU := Lib.hid (show [Value.int .u8 (((bsOf s).size : Int) % 256)] = bytesL [UInt8.ofNat s.length] from by
  rw [hz.out]
  exact congrArg (fun x => [Value.int .u8 x]) HL.out)
 refine wp_region_pm (.one 10 3 (.one 0 0 (.one 1 0 (.one 2 0 (.one 3 3 (.one 5 0 (.one 6 0 (.one 8 0 (.one 9 0 (.two 4 2 (.one 7 2 (.one 11 2 (.one 12 2 (.one 13 2 (.one 14 2 .nil))))) 7 2 (.one 4 2 (.one 11 2 (.one 12 2 (.one 13 2 (.one 14 2 .nil))))))))))))))) (by kernel_rfl) (by kernel_rfl) ?_
 replace hst := hst.drew
 refine pm_p rfl rfl ?_; go_wp2_with fail
 refine pm_qf rfl rfl (by kernel_rfl) ?_; go_wp2_with fail
 refine pm_q rfl rfl ?_; go_wp2_with ((refine L_load1 (d := some 21) rfl rfl rfl (by rfl) Tryz.underlying9 rfl (by (exact cell_of (hst.get 1 rfl) ntArr_0)) ?_))
 refine pm_q rfl rfl ?_; go_wp2_with (fail)
 refine pm_pv rfl (pureV_convert rfl (by rfl) Tryz.underlying3 Tryz.underlying5) ?_; go_wp2_with fail
 refine pm_qf rfl rfl (by kernel_rfl) ?_; go_wp2_with fail
 refine pm_q rfl rfl ?_; go_wp2_with ((refine L_load1 (d := some 26) rfl rfl rfl (by rfl) Tryz.underlying9 rfl (by (exact cell_of (hst.get 1 rfl) ntArr_0)) ?_))
 refine pm_qf rfl rfl (by kernel_rfl) ?_; go_wp2_with fail
 refine pm_q rfl rfl ?_; go_wp2_with ((refine L_sliceMid (d := some 29) rfl rfl rfl (by rfl) Tryz.underlying32 el_uint8 (by (exact ntArr_key (hst.get 1 rfl))) (Dig.size _) (by decide) ?_; intro hs29))
 refine pm_two (ki := 2) (kj := 2) rfl rfl ?_ ?_
 ·go_wp2_with ((refine L_buildS (d := some 24) rfl rfl rfl [_] (bs_1 (ev_tmp rfl)) rfl Tryz.underlying22 el_uint8 rfl (by (simp [Value.cells]; done)) (by decide) (by decide) ?_; (try clear hnew); intro g24 W24 hnew; replace hst := hst.trans hnew; simp only [List.cons_append, List.nil_append] at hst; simp only [List.flatMap_cons, List.flatMap_nil, List.append_nil, Value.cells, List.toList_toArray] at hst)); refine ⟨fun _ => (by (exact hnew.below)), ?_⟩
  refine pm_g rfl ?_; go_wp2_with ((refine L_convSB (d := some 27) rfl rfl rfl (ev_tmp rfl) Tryz.underlying22 Tryz.underlying9 Tryz.underlying5 (by (omega)) ?_; (try clear hnew); intro g27 cap27 ob27 W27 hnew hsb27; replace hst := hst.trans hnew; simp only [List.cons_append, List.nil_append] at hst)); refine ⟨by (exact hnew.below), ?_⟩
  refine pm_g rfl ?_; go_wp2_with ((refine L_buildS (d := some 31) rfl rfl rfl [_, _, _, _] (bs_4 (ev_tmp rfl) (ev_tmp rfl) (ev_tmp rfl) (ev_tmp rfl)) rfl Tryz.underlying162 el_S_uint8 rfl (by (simp [Value.cells]; done)) (by decide) (by decide) ?_; (try clear hnew); intro g31 W31 hnew; replace hst := hst.trans hnew; simp only [List.cons_append, List.nil_append] at hst; simp only [List.flatMap_cons, List.flatMap_nil, List.append_nil, Value.cells, List.toList_toArray] at hst)); refine ⟨by (exact hnew.below), ?_⟩
  refine pm_g rfl ?_; go_wp2_with ((go_at_call 62; (try clear hnew); ((refine (concat4_any [UInt8.ofNat s.length] s k.l (bigE 4 t) _ _ _ _ _ _ _ _ _ _ _ _ _ _ _ (hst.sl 0 rfl) (by rw [← HU.out]; exact hst.sl 2 rfl) (hsb27 _ (hst.at_ 1 rfl)) (ntKey_sl (hst.get 4 rfl)) (hst.sl 3 rfl) (by omega)).mono ?_)); rintro e Wc ⟨Oc, oc, rfl, hnew⟩; replace hst := hst.trans hnew; simp only [List.cons_append, List.nil_append] at hst)); refine ⟨by (exact hnew.below), ?_⟩
  refine pm_g rfl ?_; go_wp2_with fail; refine ⟨by (exact Below.refl _ _), ?_⟩
  refine pm_g rfl ?_; go_wp2_with fail; refine ⟨by (exact Below.refl _ _), ?_⟩
  refine pm_nil ?_
  go_wp2_with fail
  go_ret2
  rw [HBl.out, show s.length + 37 = 1 + s.length + 32 + 4 by omega, HB.out]
  exact ⟨Oc, oc, rfl, hst.pick [0] (by decide)⟩
 ·go_wp2_with ((refine L_convSB (d := some 27) rfl rfl rfl (ev_tmp rfl) Tryz.underlying22 Tryz.underlying9 Tryz.underlying5 (by (omega)) ?_; (try clear hnew); intro g27 cap27 ob27 W27 hnew hsb27; replace hst := hst.trans hnew; simp only [List.cons_append, List.nil_append] at hst)); refine ⟨fun _ => (by (exact hnew.below)), ?_⟩
  refine pm_g rfl ?_; go_wp2_with ((refine L_buildS (d := some 24) rfl rfl rfl [_] (bs_1 (ev_tmp rfl)) rfl Tryz.underlying22 el_uint8 rfl (by (simp [Value.cells]; done)) (by decide) (by decide) ?_; (try clear hnew); intro g24 W24 hnew; replace hst := hst.trans hnew; simp only [List.cons_append, List.nil_append] at hst; simp only [List.flatMap_cons, List.flatMap_nil, List.append_nil, Value.cells, List.toList_toArray] at hst)); refine ⟨by (exact hnew.below), ?_⟩
  refine pm_g rfl ?_; go_wp2_with ((refine L_buildS (d := some 31) rfl rfl rfl [_, _, _, _] (bs_4 (ev_tmp rfl) (ev_tmp rfl) (ev_tmp rfl) (ev_tmp rfl)) rfl Tryz.underlying162 el_S_uint8 rfl (by (simp [Value.cells]; done)) (by decide) (by decide) ?_; (try clear hnew); intro g31 W31 hnew; replace hst := hst.trans hnew; simp only [List.cons_append, List.nil_append] at hst; simp only [List.flatMap_cons, List.flatMap_nil, List.append_nil, Value.cells, List.toList_toArray] at hst)); refine ⟨by (exact hnew.below), ?_⟩
  refine pm_g rfl ?_; go_wp2_with ((go_at_call 62; (try clear hnew); ((refine (concat4_any [UInt8.ofNat s.length] s k.l (bigE 4 t) _ _ _ _ _ _ _ _ _ _ _ _ _ _ _ (hst.sl 0 rfl) (by rw [← HU.out]; exact hst.sl 1 rfl) (hsb27 _ (hst.at_ 2 rfl)) (ntKey_sl (hst.get 4 rfl)) (hst.sl 3 rfl) (by omega)).mono ?_)); rintro e Wc ⟨Oc, oc, rfl, hnew⟩; replace hst := hst.trans hnew; simp only [List.cons_append, List.nil_append] at hst)); refine ⟨by (exact hnew.below), ?_⟩
  refine pm_g rfl ?_; go_wp2_with fail; refine ⟨by (exact Below.refl _ _), ?_⟩
  refine pm_g rfl ?_; go_wp2_with fail; refine ⟨by (exact Below.refl _ _), ?_⟩
  refine pm_nil ?_
  go_wp2_with fail
  go_ret2
  rw [HBl.out, show s.length + 37 = 1 + s.length + 32 + 4 by omega, HB.out]
  exact ⟨Oc, oc, rfl, hst.pick [0] (by decide)⟩
set_option maxHeartbeats 4000000 in
set_option maxRecDepth 100000 in
theorem nwrite_no (n : NoteN) (w : World) (h : noteOk n = false) (hn1 : -9223372036854775808 ≤ n.turn) (hn2 : n.turn ≤ 9223372036854775807) :
  Calls Tryz.prog 81 #[.agg (ntArr n.name n.key n.turn)] w fun e w' => ∃ r, r ≠ 0 ∧ e = .returned (.tuple #[.slice none 0 0, errV r]) ∧ St w w' [] := by
 have hst := St.refl w
 obtain ⟨s, k, m⟩ := n
 simp only [noteOk] at h hn1 hn2
 cases hN : isNm s with
 | false =>
  have HN := Lib.hid (fun w => by have := named_any s w; rw [hN] at this; exact this)
  clear h hN
  go_enter Tryz.func81, Tryz.ntmps81
  go_upto_region 1 with (go_big_may; (refine L_boxA (d := some 1) rfl rfl rfl (ev_tmp rfl) ?_; (try clear hnew); intro g1 W1 hnew; replace hst := hst.trans hnew; simp only [List.cons_append, List.nil_append] at hst))
  go_upto_region 2 with (go_big_may; first | (go_at_call 34; (try clear hnew); refine (HN.out _).mono ?_; rintro e Wk2 ⟨rfl, hnew⟩; replace hst := hst.keep hnew) | (refine L_load1 (d := some 7) rfl rfl rfl (by rfl) Tryz.underlying9 rfl (by (exact cell_of (hst.get 0 rfl) ntArr_0)) ?_))
  go_wp2_with (fail)
  go_ret2
  exact ⟨1, by decide, rfl, hst.forget⟩
 | true =>
  rw [hN, Bool.true_and] at h
  have h1 := of_decide_eq_false h
  have HN := Lib.hid (fun w => by have := named_any s w; rw [hN] at this; exact this)
  have HP := Lib.hid (fun w => oput_no m 4 w hn1 hn2 (by decide) (by decide) (by
   unfold putNo
   by_cases h0 : m < 0
   ·exact .inr (.inr (.inl h0))
   ·refine .inr (.inr (.inr ⟨by decide, ?_⟩))
    show 0 < m / 4294967296
    omega))
  clear h hN h1 hn1 hn2
  go_enter Tryz.func81, Tryz.ntmps81
  go_upto_region 1 with (go_big_may; (refine L_boxA (d := some 1) rfl rfl rfl (ev_tmp rfl) ?_; (try clear hnew); intro g1 W1 hnew; replace hst := hst.trans hnew; simp only [List.cons_append, List.nil_append] at hst))
  go_upto_region 3 with (go_big_may; first | (go_at_call 34; (try clear hnew); refine (HN.out _).mono ?_; rintro e Wk3 ⟨rfl, hnew⟩; replace hst := hst.keep hnew) | (refine L_load1 (d := some 7) rfl rfl rfl (by rfl) Tryz.underlying9 rfl (by (exact cell_of (hst.get 0 rfl) ntArr_0)) ?_))
  go_upto_region 4 with (go_big_may; first | (go_at_call 60; refine (HP.out _).mono ?_; unfold errV; rintro e Wp ⟨rfl, hnew⟩; replace hst := hst.keep hnew; clear hnew) | (refine L_load1 (d := some 13) rfl rfl rfl (by rfl) Tryz.underlying3 rfl (by (exact cell_of (hst.get 0 rfl) ntArr_33)) ?_))
  go_upto_region 5 with (go_big_may; fail)
  go_wp2_with (fail)
  go_ret2
  exact ⟨2, by decide, rfl, hst.forget⟩
set_option maxHeartbeats 2000000 in
set_option maxRecDepth 100000 in
theorem leafOf_any (n : NoteN) (w : World) (hT : Tb w) (h : noteOk n = true) :
  Calls Tryz.prog 36 #[.agg (ntArr n.name n.key n.turn)] w fun e w' => e = .returned (.tuple #[(ntLeaf n).v, .nilIface]) ∧ St w w' [] := by
 have hst := St.refl w
 have HT := Lib.hid hT
 have HW := Lib.hid (fun w => nwrite_any n w h)
 have hl : (noteB n).length ≤ 67 := by
  have h1 := h
  unfold noteOk at h1
  rw [Bool.and_eq_true] at h1
  have := isNm_len h1.1
  rw [length_noteB]
  omega
 have HD := Lib.hid (show ntLeaf n = leafBN (noteB n) from rfl)
 obtain ⟨s, k, m⟩ := n
 generalize ntLeaf ⟨s, k, m⟩ = df at *
 generalize noteB ⟨s, k, m⟩ = bs at *
 simp only at HW
 clear hT h
 go_enter Tryz.func36, Tryz.ntmps36
 go_upto_region 1 with (go_big_may; first | (refine L_boxA (d := some 1) rfl rfl rfl (ev_tmp rfl) ?_; (try clear hnew); intro g1 W1 hnew; replace hst := hst.trans hnew; simp only [List.cons_append, List.nil_append] at hst) | (refine L_allocA (d := some 2) rfl rfl rfl el_api_Digest ?_; (try clear hnew); intro g2 W2 hnew; replace hst := hst.trans hnew; simp only [List.cons_append, List.nil_append] at hst))
 go_upto_region 2 with (go_big_may; first | (go_at_call 81; (try clear hnew); refine (HW.out _).mono ?_; rintro e Wp ⟨Ow, cw, rfl, hnew⟩; replace hst := hst.trans hnew; simp only [List.cons_append, List.nil_append] at hst) | ((refine L_loadA (d := some 7) rfl rfl rfl (by rfl) Tryz.underlying34 rfl el_api_Note (by (exact hst.get 1 rfl)) (by (exact ntArr_size _ _ _)) ?_)))
 go_upto_region 4 with (go_big_may; fail)
 go_wp2_with (first | (go_at_call 82; (try clear hnew); refine (tleaf_any bs _ _ _ _ (HT.out.of hst) (hst.sl 0 rfl) (by omega)).mono ?_; rintro e Wk4 ⟨rfl, hnew⟩; replace hst := hst.keep hnew) | (refine wpl_at (.store 32 (.tmp 2) (.tmp 16)) rfl ?_; (refine L_storeA rfl rfl hst rfl (by rfl) (ev_tmp rfl) (by (exact Dig.one _)) el_api_Digest (by (rfl)) 1 rfl (by (rfl)) ?_; clear hst; intro WS2 hst; simp only [List.set_cons_zero, List.set_cons_succ] at hst)))
 refine bp_cell_tmp rfl rfl rfl rfl (hst.get 1 rfl) Tryz.underlying32 rfl el_api_Digest (by (rfl)) ?_
 rw [HD.out]
 exact ⟨rfl, hst.forget⟩
set_option maxHeartbeats 2000000 in
set_option maxRecDepth 100000 in
theorem leafOf_no (n : NoteN) (w : World) (h : noteOk n = false) (hn1 : -9223372036854775808 ≤ n.turn) (hn2 : n.turn ≤ 9223372036854775807) :
  Calls Tryz.prog 36 #[.agg (ntArr n.name n.key n.turn)] w fun e w' => ∃ r, r ≠ 0 ∧ e = .returned (.tuple #[zeroD.v, errV r]) ∧ St w w' [] := by
 have hst := St.refl w
 have HW := Lib.hid (fun w => nwrite_no n w h hn1 hn2)
 obtain ⟨s, k, m⟩ := n
 simp only at HW
 clear h hn1 hn2
 go_enter Tryz.func36, Tryz.ntmps36
 go_upto_region 1 with (go_big_may; first | (refine L_boxA (d := some 1) rfl rfl rfl (ev_tmp rfl) ?_; (try clear hnew); intro g1 W1 hnew; replace hst := hst.trans hnew; simp only [List.cons_append, List.nil_append] at hst) | (refine L_allocA (d := some 2) rfl rfl rfl el_api_Digest ?_; (try clear hnew); intro g2 W2 hnew; replace hst := hst.trans hnew; simp only [List.cons_append, List.nil_append] at hst))
 go_upto_region 2 with (go_big_may; first | (go_at_call 81; (try clear hnew); refine (HW.out _).mono ?_; unfold errV; rintro e Wp ⟨r, hr, rfl, hnew⟩; replace hst := hst.keep hnew) | ((refine L_loadA (d := some 7) rfl rfl rfl (by rfl) Tryz.underlying34 rfl el_api_Note (by (exact hst.get 1 rfl)) (by (exact ntArr_size _ _ _)) ?_)))
 go_upto_region 3 with (go_big_may; fail)
 go_wp2_with (first | (refine L_build0 (d := some 13) rfl rfl rfl Tryz.underlying32 el_uint8 el_api_Digest ?_) | (refine wpl_at (.store 32 (.tmp 2) (.tmp 13)) rfl ?_; (refine L_storeA rfl rfl hst rfl (by rfl) (ev_tmp rfl) (by (exact Dig.one _)) el_api_Digest (by (rfl)) 0 rfl (by (rfl)) ?_; clear hst; intro WS2 hst; simp only [List.set_cons_zero, List.set_cons_succ] at hst)))
 refine bp_cell_tmp rfl rfl rfl rfl (hst.get 0 rfl) Tryz.underlying32 rfl el_api_Digest (by (rfl)) ?_
 exact ⟨r, hr, rfl, hst.forget⟩
end Go.Proofs.YtaebeemnipafbaaGreatDoor
