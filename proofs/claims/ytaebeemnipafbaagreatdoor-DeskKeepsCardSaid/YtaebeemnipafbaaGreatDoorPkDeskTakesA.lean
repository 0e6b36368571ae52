/-
  Proved here, ahead of the law: DeskTakes: the law returns true for every input, and leaves its arguments as they were.
-/
import Derived.Test.YtaebeemnipafbaaGreatDoorSum
import Derived.Test.YtaebeemnipafbaaGreatDoorRefPlain
import Derived.Test.YtaebeemnipafbaaGreatDoorLawB
import Derived.Deep.DeepCutAuto
import Derived.Deep.RegionWith
import Derived.Test.YtaebeemnipafbaaGreatDoorErr
import Derived.Test.YtaebeemnipafbaaGreatDoorShelf
import Derived.Test.YtaebeemnipafbaaGreatDoorRefNum
import Derived.Test.YtaebeemnipafbaaGreatDoorRefTurn
import Derived.Test.YtaebeemnipafbaaGreatDoorRefRounds
import Derived.Test.YtaebeemnipafbaaGreatDoorRefPlainB
import Derived.Shelf.GgClosure.StringsIndexFunc
import Derived.Laws.Closers25b
import Derived.Test.YtaebeemnipafbaaGreatDoorOpen
import Derived.Deep.Slices
import Derived.SizedLaws
import Derived.Lib.LaidTab
import Derived.LaidLaws
import Derived.Test.YtaebeemnipafbaaGreatDoorOpenA
import Derived.Deep.Strs
import Derived.ChangeSame
import Derived.Test.YtaebeemnipafbaaGreatDoorLaw
import Derived.Test.YtaebeemnipafbaaGreatDoorLawE
import Derived.Test.YtaebeemnipafbaaGreatDoorEl
import Derived.Test.YtaebeemnipafbaaGreatDoorSkip
import Derived.Test.YtaebeemnipafbaaGreatDoorLawC
import Derived.Test.YtaebeemnipafbaaGreatDoorDrawT
import Derived.Test.YtaebeemnipafbaaGreatDoorSkipU
import Derived.Test.YtaebeemnipafbaaGreatDoorRefHex
import Derived.Test.YtaebeemnipafbaaGreatDoorHex
import Derived.Test.YtaebeemnipafbaaGreatDoorUnhex
import Derived.Test.YtaebeemnipafbaaGreatDoorLawD
import Derived.Test.YtaebeemnipafbaaGreatDoorLawF
import Derived.Test.YtaebeemnipafbaaGreatDoorFork
import Derived.Test.YtaebeemnipafbaaGreatDoorForkM
import Derived.Test.YtaebeemnipafbaaGreatDoorFast
import Derived.Test.YtaebeemnipafbaaGreatDoorPick
import Derived.Test.YtaebeemnipafbaaGreatDoorIdxK
import Derived.Defers
import Derived.Recover
import Derived.Test.YtaebeemnipafbaaGreatDoorMaps
import Derived.Test.YtaebeemnipafbaaGreatDoorBuildT
import Derived.Sort.Statements
import Derived.Lib.SlBy
set_option maxRecDepth 20000
set_option linter.unusedSimpArgs false
set_option linter.unusedVariables false
namespace Go.Proofs.YtaebeemnipafbaaGreatDoor
open Go.RowKit
theorem new_hs (w : World) : Calls Tryz.prog 100 #[] w fun e w' => ∃ g, e = .returned (.pointer (some ⟨g, 0, none⟩)) ∧ St w w' (Hs g [] none 0 0) :=
 (new_any w).mono fun e w' ⟨g, he, h⟩ => ⟨g, he, (h.nilRow 5 1).pick [1, 0] (by decide)⟩
set_option maxHeartbeats 1000000 in
theorem ssum_any (b : List UInt8) (A : Option Addr) (n c : Nat) (w : World) (hT : Tb w) (hx : SlR w A n c 1 (bytesL b)) (hm : n ≤ 140737488355000) :
  Calls Tryz.prog 80 #[.slice A n c] w fun e w' => e = .returned (sha b).v ∧ St w w' [] := by
 have hst := St.refl w
 have HT := Lib.hid hT
 have hn := hx.1
 rw [length_bytesL, Nat.mul_one] at hn
 have hbl : b.length ≤ 140737488355000 := by omega
 clear hT hn
 go_enter Tryz.func80, Tryz.ntmps80
 go_wp2_with (first | (go_at_call 100; with_reducible refine (new_hs _).mono ?_; rintro e W3 ⟨g3, rfl, hnew⟩; replace hst := hst.trans hnew; clear hnew) | (go_at_call 101; with_reducible refine (write_any [] b g3 0 0 none A n c w _ _ HT.out hst (Src.old (by decide) hx _) (by simp; omega) (by omega)).mono ?_; rintro e W4 ⟨rfl, A4, n4, c4, hst'⟩; clear hst; have hst := hst'; clear hst') | (go_at_call 102; with_reducible refine (hsum_any ([] ++ b) g3 _ _ _ w _ _ HT.out hst (by simp; omega)).mono ?_; rintro e W5 ⟨rfl, hst'⟩; clear hst; have hst := hst'; clear hst'; simp only [Hs, List.nil_append, List.cons_append] at hst) | (refine L_allocA (d := some 2) rfl rfl rfl el_api_Digest ?_; (try clear hnew); intro g2 W2 hnew; replace hst := hst.trans hnew; simp only [List.cons_append, List.nil_append] at hst) | (refine wpl_at (.store 32 (.tmp 2) (.tmp 9)) rfl ?_; (refine L_storeA rfl rfl hst rfl (by rfl) (ev_tmp rfl) (by (exact Dig.one _)) el_api_Digest (by (rfl)) 2 rfl (by (rfl)) ?_; clear hst; intro WS2 hst; simp only [List.set_cons_zero, List.set_cons_succ] at hst)))
 exact bodyPost_ret (results_cell_row rfl _ _ g2 32 _ (0, 0) _ (by rfl) (hst.get 2 rfl) Tryz.underlying32 rfl (by rw [el_api_Digest.size, Dig.size])) rfl ⟨rfl, hst.forget⟩
def digsL (ds : List Dig) : List Value := ds.flatMap fun d => bytesL d.l
def allB (ds : List Dig) : List UInt8 := ds.flatMap fun d => d.l
theorem digsL_all (ds : List Dig) : digsL ds = bytesL (allB ds) := by
 unfold digsL allB bytesL
 rw [List.map_flatMap]
theorem length_allB (ds : List Dig) : (allB ds).length = ds.length * 32 := by
 induction ds with
 | nil => rfl
 | cons d ds ih => simp only [allB, List.flatMap_cons, List.length_append, d.h, List.length_cons] at ih ⊢; omega
theorem length_digsL (ds : List Dig) : (digsL ds).length = ds.length * 32 := by rw [digsL_all, length_bytesL, length_allB]
theorem allB_at (ds : List Dig) (i : Nat) (hi : i < ds.length) : ((allB ds).drop (i * 32)).take 32 = (ds[i]).l := by
 induction ds generalizing i with
 | nil => simp at hi
 | cons d ds ih =>
  have h : allB (d :: ds) = d.l ++ allB ds := by simp [allB]
  rw [h]
  cases i with
  | zero =>
   rw [Nat.zero_mul, List.drop_zero, List.take_append_of_le_length (by rw [d.h]; exact Nat.le_refl _), List.take_of_length_le (by rw [d.h]; exact Nat.le_refl _)]
   rfl
  | succ i =>
   have e : (i + 1) * 32 = d.l.length + i * 32 := by rw [d.h]; omega
   rw [e, ← List.drop_drop, List.drop_left]
   exact ih i (by simpa using hi)
theorem digsL_at (ds : List Dig) (i : Nat) (hi : i < ds.length) : ((digsL ds).drop (i * 32)).take 32 = bytesL (ds[i]).l := by
 rw [digsL_all, ← allB_at ds i hi]
 simp [bytesL, List.map_take, List.map_drop]
theorem allB_take (ds : List Dig) (i : Nat) (hi : i < ds.length) : allB (ds.take (i + 1)) = allB (ds.take i) ++ (ds[i]).l := by
 unfold allB
 rw [List.take_succ_eq_append_getElem hi, List.flatMap_append]
 simp
theorem Dig.toList (d : Dig) : d.arr.toList = bytesL d.l := by simp [Dig.arr, bytesV]
def ofN (tag : UInt8) (ds : List Dig) : Dig := sha (tag :: allB ds)
set_option maxHeartbeats 1000000 in
theorem of_any (tag : UInt8) (ds : List Dig) (A : Option Addr) (n c : Nat) (w : World) (hT : Tb w) (hx : SlR w A n c 32 (digsL ds)) (hm : n ≤ 1099511627776) :
  Calls Tryz.prog 126 #[byteV tag, .slice A n c] w fun e w' => e = .returned (ofN tag ds).v ∧ St w w' [] := by
 have hst := St.refl w
 have HT := Lib.hid hT
 have hn : ds.length = n := by
  have := hx.1
  rw [length_digsL] at this
  omega
 have Hn := Lib.hid hn
 clear hT hn
 unfold byteV
 go_enter Tryz.func126, Tryz.ntmps126
 go_wp2_with (first | (refine L_allocA (d := some 4) rfl rfl rfl el_api_Digest ?_; (try clear hnew); intro g4 W4 hnew; replace hst := hst.trans hnew; simp only [List.cons_append, List.nil_append] at hst) | (refine L_buildS (d := some 9) rfl rfl rfl [_] (bs_1 (ev_tmp rfl)) rfl Tryz.underlying22 el_uint8 rfl (by (simp [Value.cells]; done)) (by decide) (by decide) ?_; (try clear hnew); intro g9 W9 hnew; replace hst := hst.trans hnew; simp only [List.cons_append, List.nil_append] at hst; simp only [List.flatMap_cons, List.flatMap_nil, List.append_nil, Value.cells, List.toList_toArray] at hst))
 have hst : St w W9 [.row g9 (1 + 0 * 32) 1 5 1 (bytesL (tag :: allB (ds.take 0))), .blk g4 32 zeroD.arr] := hst
 go_loopg [5, 12] n (fun gk s5 s12 wr => ∃ (i : Nat) (A' : Option Addr) (c' : Nat), Hid (i + gk = n) ∧ s5 = .slice A' (1 + i * 32) c' ∧ s12 = .int .i64 (i : Int) ∧ St w wr [.row A' (1 + i * 32) c' 5 1 (bytesL (tag :: allB (ds.take i))), .blk g4 32 zeroD.arr])
 case atStart => exact ⟨0, g9, 1, Lib.hid (by omega), rfl, rfl, hst⟩
 case round =>
  clear hst hnew
  obtain ⟨i, A', c', HI, rfl, rfl, hst⟩ := hrel
  have hi := HI.out
  by_cases hin : i < n
  ·clear hi
   have hds := Lib.hid (digsL_at ds i (by rw [Hn.out]; exact hin))
   have hta := Lib.hid (allB_take ds i (by rw [Hn.out]; exact hin))
   have hgt : ∃ dd : Dig, Hid (dd = ds[i]'(by rw [Hn.out]; exact hin)) := ⟨_, Lib.hid rfl⟩
   obtain ⟨dd, hdd⟩ := hgt
   go_wp2_with (first | (refine L_loadM (d := some 15) rfl rfl rfl (by rfl) Tryz.underlying32 rfl el_api_Digest (cs := dd.arr) (by rw [Dig.toList, hdd.out, ← hds.out]; exact hr14) (Dig.size _) ?_) | (refine L_idxS (d := some 14) rfl rfl rfl (by rfl) (by rfl) Tryz.underlying44 el_api_Digest (by (exact hst.old (by decide) (by assumption))) (by omega) (by omega) ?_; intro o14 p14 ha14 hr14; ((subst ha14))) | (refine L_allocA (d := some 7) rfl rfl rfl el_api_Digest ?_; (try clear hnew); intro g7 W7 hnew; replace hst := hst.trans hnew; simp only [List.cons_append, List.nil_append] at hst) | (refine wpl_at (.store 32 (.tmp 7) (.tmp 15)) rfl ?_; (refine L_storeA rfl rfl hst rfl (by rfl) (ev_tmp rfl) (by (exact Dig.one _)) el_api_Digest (by (exact Dig.size _)) 0 rfl (by (rfl)) ?_; clear hst; intro WS3 hst; simp only [List.set_cons_zero, List.set_cons_succ] at hst)) | (refine L_sliceAll (d := some 17) rfl rfl rfl (by rfl) Tryz.underlying32 el_uint8 (by (exact hst.get 0 rfl)) (by (exact Dig.size _)) (by decide) ?_; intro hs17) | (refine L_appendO (d := some 18) rfl rfl hst rfl (by rfl) (by rfl) Tryz.underlying22 el_uint8 rfl (by decide) (by decide) 1 rfl (by (rfl)) (by (exact hs17)) (by (exact oneCell_bytes)) (by omega) ?_; clear hst; intro A18 c18 W18 hst; simp only [List.set_cons_zero, List.set_cons_succ, List.nil_append, Nat.zero_add] at hst))
   go_roundg (gk - 1)
   case measure => have hi := HI.out; omega
   case rel =>
    have hi := HI.out
    refine ⟨i + 1, A18, c18, Lib.hid (by omega), by congr 1; omega, by go_num, ?_⟩
    rw [hta.out, ← hdd.out, ← List.cons_append, bytesL_append, show 1 + (i + 1) * 32 = 1 + i * 32 + 32 by omega]
    exact (hst.pick [1, 2] (by decide))
  ·obtain rfl : i = n := by omega
   have hall : allB (ds.take i) = allB ds := by rw [List.take_of_length_le (by rw [Hn.out]; exact Nat.le_refl _)]
   rw [hall] at hst
   clear hall hi HI
   go_wp2_with (first | (go_at_call 80; with_reducible refine (ssum_any _ _ _ _ _ (HT.out.of hst) (hst.sl 0 rfl) (by omega)).mono ?_; rintro e W21 ⟨rfl, hnew⟩; replace hst := hst.keep hnew) | (refine wpl_at (.store 32 (.tmp 4) (.tmp 21)) rfl ?_; (refine L_storeA rfl rfl hst rfl (by rfl) (ev_tmp rfl) (by (exact Dig.one _)) el_api_Digest (by (rfl)) 1 rfl (by (rfl)) ?_; clear hst; intro WS2 hst; simp only [List.set_cons_zero, List.set_cons_succ] at hst)))
   exact bodyPost_ret (results_cell_row rfl _ _ g4 32 _ (0, 0) _ (by rfl) (hst.get 1 rfl) Tryz.underlying32 rfl (by rw [el_api_Digest.size, Dig.size])) rfl ⟨rfl, hst.forget⟩
end Go.Proofs.YtaebeemnipafbaaGreatDoor

set_option maxRecDepth 20000
set_option linter.unusedSimpArgs false
set_option linter.unusedVariables false
namespace Go.Proofs.YtaebeemnipafbaaGreatDoor
def eLeaf (k : Nat) (d : Dig) : Dig := sha (9 :: (bigE 4 k ++ d.l))
def mNode (l r : Dig) : Dig := if l = zeroD ∧ r = zeroD then zeroD else ofN 10 [l, r]
theorem mNode_zero : mNode zeroD zeroD = zeroD := if_pos ⟨rfl, rfl⟩
def leafAt (es : List (Nat × Dig)) (k : Nat) : Dig := match es.find? (fun e => e.1 == k) with | some e => eLeaf k e.2 | none => zeroD
def mRoot (f : Nat → Dig) : Nat → Nat → Dig
 | 0, frm => f frm
 | b + 1, frm => mNode (mRoot f b frm) (mRoot f b (frm + 2 ^ b))
theorem mRoot_s (f : Nat → Dig) (b frm : Nat) : mRoot f (b + 1) frm = mNode (mRoot f b frm) (mRoot f b (frm + 2 ^ b)) := rfl
theorem mRoot_congr {f g : Nat → Dig} : ∀ (b frm : Nat), (∀ k, frm ≤ k → k < frm + 2 ^ b → f k = g k) → mRoot f b frm = mRoot g b frm
 | 0, frm, h => h frm (Nat.le_refl _) (by simp)
 | b + 1, frm, h => by
  have e : 2 ^ (b + 1) = 2 ^ b + 2 ^ b := by rw [Nat.pow_succ]; omega
  rw [mRoot_s, mRoot_s, mRoot_congr b frm (fun k h1 h2 => h k h1 (by omega)), mRoot_congr b (frm + 2 ^ b) (fun k h1 h2 => h k (by omega) (by omega))]
theorem mRoot_none : ∀ (b frm : Nat), mRoot (fun _ => zeroD) b frm = zeroD
 | 0, _ => rfl
 | b + 1, frm => by rw [mRoot_s, mRoot_none b, mRoot_none b, mNode_zero]
theorem mRoot_zero {f : Nat → Dig} {b frm : Nat} (h : ∀ k, frm ≤ k → k < frm + 2 ^ b → f k = zeroD) : mRoot f b frm = zeroD := (mRoot_congr b frm h).trans (mRoot_none b frm)
def sibN (b k : Nat) : Nat := if k / 2 ^ b % 2 = 1 then (k / 2 ^ b - 1) * 2 ^ b else (k / 2 ^ b + 1) * 2 ^ b
def mPath (f : Nat → Dig) (k n : Nat) : List Dig := (List.range n).map fun b => mRoot f b (sibN b k)
theorem length_mPath (f : Nat → Dig) (k n : Nat) : (mPath f k n).length = n := by simp [mPath]
def mFold : Nat → Dig → List Dig → Dig
 | _, l, [] => l
 | k, l, p :: ps => mFold (k / 2) (if k % 2 = 1 then mNode p l else mNode l p) ps
theorem mFold_snoc : ∀ (ps : List Dig) (k : Nat) (l p : Dig), mFold k l (ps ++ [p]) = if k / 2 ^ ps.length % 2 = 1 then mNode p (mFold k l ps) else mNode (mFold k l ps) p
 | [], k, l, p => by simp [mFold]
 | q :: ps, k, l, p => by
  rw [List.cons_append, mFold, mFold_snoc ps, mFold, List.length_cons, Nat.div_div_eq_div_mul, Nat.pow_succ, Nat.mul_comm 2]
theorem half_step (k b : Nat) : k / 2 ^ (b + 1) = k / 2 ^ b / 2 := by rw [Nat.pow_succ, Nat.div_div_eq_div_mul]
theorem leafAt_none {es : List (Nat × Dig)} {k : Nat} (h : ∀ e ∈ es, e.1 ≠ k) : leafAt es k = zeroD := by
 unfold leafAt
 rw [List.find?_eq_none.2 (fun e he => by simpa using h e he)]
theorem leafAt_some {es : List (Nat × Dig)} (hd : (es.map (·.1)).Nodup) {e : Nat × Dig} (he : e ∈ es) : leafAt es e.1 = eLeaf e.1 e.2 := by
 unfold leafAt
 have : es.find? (fun x => x.1 == e.1) = some e := by
  induction es with
  | nil => cases he
  | cons a es ih =>
   rw [List.map_cons, List.nodup_cons] at hd
   rcases List.mem_cons.1 he with rfl | he
   ·simp
   ·have hne : a.1 ≠ e.1 := fun h => hd.1 (by rw [h]; exact List.mem_map.2 ⟨e, he, rfl⟩)
    rw [List.find?_cons_of_neg (by simpa using hne)]
    exact ih hd.2 he
 rw [this]
theorem leafAt_perm {es fs : List (Nat × Dig)} (hd : (es.map (·.1)).Nodup) (hp : es.Perm fs) (k : Nat) : leafAt es k = leafAt fs k := by
 have hd' : (fs.map (·.1)).Nodup := (hp.map _).nodup_iff.1 hd
 by_cases h : ∃ e ∈ es, e.1 = k
 ·obtain ⟨e, he, rfl⟩ := h
  rw [leafAt_some hd he, leafAt_some hd' (hp.mem_iff.1 he)]
 ·rw [leafAt_none (fun e he hk => h ⟨e, he, hk⟩), leafAt_none (fun e he hk => h ⟨e, hp.mem_iff.2 he, hk⟩)]
theorem leafAt_filter (es : List (Nat × Dig)) (q : Nat → Bool) {k : Nat} (hk : q k = true) : leafAt (es.filter fun e => q e.1) k = leafAt es k := by
 unfold leafAt
 rw [List.find?_filter]
 congr 2
 funext e
 by_cases h : e.1 = k
 ·rw [h, hk]; simp
 ·simp [h]
theorem cut_low : ∀ (es : List (Nat × Dig)) (mid : Nat), es.Pairwise (fun a b => a.1 < b.1) → es.take (es.findIdx fun e => decide (mid ≤ e.1)) = es.filter fun e => decide (e.1 < mid)
 | [], _, _ => rfl
 | e :: es, mid, h => by
  obtain ⟨h1, h2⟩ := List.pairwise_cons.1 h
  rw [List.findIdx_cons]
  by_cases hm : mid ≤ e.1
  ·have : ∀ x ∈ e :: es, ¬ decide (x.1 < mid) = true := fun x hx => by
    rcases List.mem_cons.1 hx with rfl | hx
    ·simp; omega
    ·have := h1 x hx; simp; omega
   rw [List.filter_eq_nil_iff.2 this]
   simp [hm]
  ·have ih := cut_low es mid h2
   simp [hm, ih]
   rw [List.filter_cons_of_pos (by simp; omega)]
theorem cut_high : ∀ (es : List (Nat × Dig)) (mid : Nat), es.Pairwise (fun a b => a.1 < b.1) → es.drop (es.findIdx fun e => decide (mid ≤ e.1)) = es.filter fun e => decide (mid ≤ e.1)
 | [], _, _ => rfl
 | e :: es, mid, h => by
  obtain ⟨h1, h2⟩ := List.pairwise_cons.1 h
  rw [List.findIdx_cons]
  by_cases hm : mid ≤ e.1
  ·have : ∀ x ∈ e :: es, decide (mid ≤ x.1) = true := fun x hx => by
    rcases List.mem_cons.1 hx with rfl | hx
    ·simp; omega
    ·have := h1 x hx; simp; omega
   rw [List.filter_eq_self.2 this]
   simp [hm]
  ·have ih := cut_high es mid h2
   simp [hm, ih]
theorem mRoot_empty (b frm : Nat) : mRoot (leafAt []) b frm = zeroD := mRoot_zero (fun _ _ _ => rfl)
theorem mRoot_halves (es : List (Nat × Dig)) (b frm : Nat) : mRoot (leafAt es) (b + 1) frm = mNode (mRoot (leafAt (es.filter fun e => decide (e.1 < frm + 2 ^ b))) b frm) (mRoot (leafAt (es.filter fun e => decide (frm + 2 ^ b ≤ e.1))) b (frm + 2 ^ b)) := by
 rw [mRoot_s]
 congr 1
 ·exact mRoot_congr b frm (fun k h1 h2 => (leafAt_filter es (fun x => decide (x < frm + 2 ^ b)) (decide_eq_true h2)).symm)
 ·exact mRoot_congr b _ (fun k h1 h2 => (leafAt_filter es (fun x => decide (frm + 2 ^ b ≤ x)) (decide_eq_true h1)).symm)
end Go.Proofs.YtaebeemnipafbaaGreatDoor

set_option maxRecDepth 20000
set_option linter.unusedSimpArgs false
set_option linter.unusedVariables false
namespace Go.Proofs.YtaebeemnipafbaaGreatDoor
open Go.RowKit
def keyOf (key : List UInt8) : List UInt8 := if 64 < key.length then (sha key).l else key
def padK (k : List UInt8) (x : UInt8) : List UInt8 := (List.range 64).map fun i => k.getD i 0 ^^^ x
def macN (key b : List UInt8) : Dig := sha (padK (keyOf key) 92 ++ (sha (padK (keyOf key) 54 ++ b)).l)
theorem length_padK (k : List UInt8) (x : UInt8) : (padK k x).length = 64 := by simp [padK]
def pCells (k : List UInt8) (x : UInt8) (n : Nat) : Array Value := bytesV ((padK k x).take n ++ List.replicate (64 - n) 0)
theorem size_pCells (k : List UInt8) (x : UInt8) (n : Nat) (h : n ≤ 64) : (pCells k x n).size = 64 := by
 simp [pCells, size_bytesV, length_padK]; omega
theorem pCells_set (k : List UInt8) (x : UInt8) (n : Nat) (hn : n < 64) : (pCells k x n).setIfInBounds n (byteV (k.getD n 0 ^^^ x)) = pCells k x (n + 1) := by
 have hl : n < (padK k x).length := by rw [length_padK]; exact hn
 have hg : (padK k x)[n] = k.getD n 0 ^^^ x := by simp [padK]
 have hz : List.replicate (64 - n) (0 : UInt8) = 0 :: List.replicate (64 - (n + 1)) 0 := by
  rw [show 64 - n = (64 - (n + 1)) + 1 by omega, List.replicate_succ]
 have ht : ((padK k x).take n).length = n := by rw [List.length_take, length_padK]; omega
 unfold pCells bytesV bytesL
 rw [hz, List.take_succ_eq_append_getElem hl, hg]
 apply Array.ext'
 simp only [Array.toList_setIfInBounds, List.map_append, List.map_cons]
 rw [List.set_append, if_neg (by rw [List.length_map, ht]; omega), List.length_map, ht, Nat.sub_self, List.set_cons_zero]
 simp
theorem pCells_0 (k : List UInt8) (x : UInt8) : pCells k x 0 = bytesV (List.replicate 64 0) := by simp [pCells]
theorem pCells_64 (k : List UInt8) (x : UInt8) : (pCells k x 64).toList = bytesL (padK k x) := by
 unfold pCells bytesV
 rw [List.take_of_length_le (by rw [length_padK]; exact Nat.le_refl _)]
 simp
theorem xor_val (a x : UInt8) : bits .xor .u8 (a.toNat : Int) (x.toNat : Int) = ((a.toNat ^^^ x.toNat : Nat) : Int) :=
 u8_xor_nat _ _ (UInt8.toNat_lt a) (UInt8.toNat_lt x)
theorem xor_byte (a x : UInt8) : Value.int .u8 ((a.toNat ^^^ x.toNat : Nat) : Int) = byteV (a ^^^ x) := by
 unfold byteV; rw [UInt8.toNat_xor]
theorem el_A64_uint8 : ElemIs Tryz.prog 158 (bytesV (List.replicate 64 0) |> Value.agg) 64 64 := by unfold ElemIs; kernel_rfl
set_option maxHeartbeats 2000000 in
set_option maxRecDepth 100000 in
theorem mac_any (key b : List UInt8) (K A : Option Addr) (m mc n c : Nat) (w : World) (hT : Tb w) (hk : SlR w K m mc 1 (bytesL key)) (hx : SlR w A n c 1 (bytesL b)) (hm : m ≤ 140737488355000) (hn : n ≤ 140737488355000) :
  Calls Tryz.prog 61 #[.slice K m mc, .slice A n c] w fun e w' => e = .returned (macN key b).v ∧ St w w' [] := by
 have hst := St.refl w
 have HT := Lib.hid hT
 have hkl := hk.1
 have hxl := hx.1
 rw [length_bytesL, Nat.mul_one] at hkl hxl
 have Hkl := Lib.hid hkl
 have Hxl := Lib.hid hxl
 clear hT hkl hxl
 go_enter Tryz.func61, Tryz.ntmps61
 go_upto_if 14 with ((refine L_allocA (d := some 4) rfl rfl rfl el_api_Digest ?_; (try clear hnew); intro g4 W4 hnew; replace hst := hst.trans hnew; simp only [List.cons_append, List.nil_append] at hst))
 clear hnew
 go_cut [0] (fun s0 wx => ∃ (K' : Option Addr) (m' c' : Nat) (kk : List UInt8) (Lk : List Res), Hid (kk = keyOf key ∧ kk.length = m') ∧ m' ≤ 64 ∧ s0 = .slice K' m' c' ∧ Hid (Src w Lk K' m' c' 1 (bytesL kk)) ∧ St w wx (.blk g4 32 zeroD.arr :: Lk))
 case first =>
  by_cases h64 : 64 < m
  ·have h1 : (64 : Int) < (m : Int) := by omega
   go_wp2_with (first | (go_at_call 80; with_reducible refine (ssum_any _ _ _ _ _ (HT.out.of hst) (hst.old (by decide) hk) (by omega)).mono ?_; rintro e W16 ⟨rfl, hnew⟩; replace hst := hst.keep hnew) | (refine L_allocA (d := some 5) rfl rfl rfl el_api_Digest ?_; (try clear hnew); intro g5 W5 hnew; replace hst := hst.trans hnew; simp only [List.cons_append, List.nil_append] at hst) | (refine wpl_at (.store 32 (.tmp 5) (.tmp 16)) rfl ?_; (refine L_storeA rfl rfl hst rfl (by rfl) (ev_tmp rfl) (by (exact Dig.one _)) el_api_Digest (by (rfl)) 0 rfl (by (rfl)) ?_; clear hst; intro WS3 hst; simp only [List.set_cons_zero, List.set_cons_succ] at hst)) | (refine L_sliceAll (d := some 17) rfl rfl rfl (by rfl) Tryz.underlying32 el_uint8 (by (exact hst.get 0 rfl)) (by (rfl)) (by decide) ?_; intro hs17))
   go_meet
   case rel =>
    refine ⟨_, _, _, (sha key).l, [.blk g5 32 (sha key).arr], Lib.hid ⟨?_, (sha key).h⟩, by omega, rfl, Lib.hid ?_, hst.pick [1, 0] (by decide)⟩
    ·rw [keyOf, if_pos (by rw [Hkl.out]; exact h64)]
    ·rw [← Dig.toList]
     exact Src.blk (i := 0) rfl (Dig.size _) (by decide)
  ·have h1 : (m : Int) ≤ 64 := by omega
   go_wp2_with fail
   go_meet
   case rel =>
    refine ⟨K, m, mc, key, [], Lib.hid ⟨?_, Hkl.out⟩, by omega, rfl, Lib.hid (Src.old (by decide) hk _), hst⟩
    rw [keyOf, if_neg (by rw [Hkl.out]; omega)]
 case rest =>
  clear hst
  obtain ⟨K', m', c', kk, Lk, HK, hm64, rfl, HS, hst⟩ := hcut
  go_wp2_with (first | (refine L_allocA (d := some 6) rfl rfl rfl el_A64_uint8 ?_; (try clear hnew); intro g6 W6 hnew; replace hst := hst.trans hnew; simp only [List.cons_append, List.nil_append] at hst) | (refine L_allocA (d := some 7) rfl rfl rfl el_A64_uint8 ?_; (try clear hnew); intro g7 W7 hnew; replace hst := hst.trans hnew; simp only [List.cons_append, List.nil_append] at hst))
  clear hnew
  have hst : St w W7 (.blk g7 158 (pCells kk 54 0) :: .blk g6 158 (pCells kk 92 0) :: .blk g4 32 zeroD.arr :: Lk) := by
   rw [pCells_0, pCells_0]
   exact hst
  go_loopg [18] 64 (fun gk s18 wr => ∃ i : Nat, Hid (i + gk = 64) ∧ s18 = .int .i64 (i : Int) ∧ St w wr (.blk g7 158 (pCells kk 54 i) :: .blk g6 158 (pCells kk 92 i) :: .blk g4 32 zeroD.arr :: Lk))
  case atStart => exact ⟨0, Lib.hid (by omega), rfl, hst⟩
  case round =>
   clear hst
   obtain ⟨i, HI, rfl, hst⟩ := hrel
   have hi := HI.out
   by_cases h64 : i < 64
   ·clear hi
    have hs5 := Lib.hid (size_pCells kk 54 i (by omega))
    have hs9 := Lib.hid (size_pCells kk 92 i (by omega))
    have hp5 := Lib.hid (pCells_set kk 54 i h64)
    have hp9 := Lib.hid (pCells_set kk 92 i h64)
    by_cases hin : i < m'
    ·have hb := Lib.hid (show i < kk.length by rw [HK.out.2]; exact hin)
     have hx5 : bits .xor .u8 ((kk.getD i 0).toNat : Int) 54 = (((kk.getD i 0).toNat ^^^ 54 : Nat) : Int) := xor_val _ 54
     have hx9 : bits .xor .u8 ((kk.getD i 0).toNat : Int) 92 = (((kk.getD i 0).toNat ^^^ 92 : Nat) : Int) := xor_val _ 92
     have HC := Lib.hid (fun (W : World) (g off : Nat) h => byte_of_range (W := W) (g := g) (off := off) (i := i) (l := kk) h hb.out)
     generalize kk.getD i 0 = x at *
     go_wp2_with (first | (refine wpl_at (.load 5 (.tmp 27)) rfl ?_; (refine L_load1 (d := some 28) rfl rfl rfl (by rfl) Tryz.underlying5 rfl (HC.out _ _ _ hr27) ?_)) | (refine wpl_at (.store 5 (.tmp 35) (.tmp 32)) rfl ?_; refine L_store1 rfl rfl hst rfl (by rfl) (ev_tmp rfl) rfl el_uint8 1 rfl (by rw [hs9.out]; omega) ?_; clear hst; intro WS7 hst; simp only [List.set_cons_zero, List.set_cons_succ] at hst) | (refine wpl_at (.store 5 (.tmp 36) (.tmp 34)) rfl ?_; refine L_store1 rfl rfl hst rfl (by rfl) (ev_tmp rfl) rfl el_uint8 0 rfl (by rw [hs5.out]; omega) ?_; clear hst; intro WS9 hst; simp only [List.set_cons_zero, List.set_cons_succ] at hst) | (refine L_idxS (d := some 27) rfl rfl rfl (by rfl) (by rfl) Tryz.underlying22 el_uint8 (by (exact HS.out _ (hst.tailN 3))) (by omega) (by omega) ?_; intro o27 p27 ha27 hr27; ((subst ha27))))
     rw [show (Value.int .u8 ((x.toNat ^^^ 54 : Nat) : Int)) = byteV (x ^^^ 54) from xor_byte x 54, hp5.out, show (Value.int .u8 ((x.toNat ^^^ 92 : Nat) : Int)) = byteV (x ^^^ 92) from xor_byte x 92, hp9.out] at hst
     go_roundg (gk - 1)
     case measure => have hi := HI.out; omega
     case rel =>
      have hi := HI.out
      exact ⟨i + 1, Lib.hid (by omega), by go_num, hst⟩
    ·have hz : kk.getD i 0 = 0 := by
      have := HK.out.2
      rw [List.getD_eq_getElem?_getD, List.getElem?_eq_none (by omega)]
      rfl
     have hx5 : bits .xor .u8 (0 : Int) 54 = 54 := by decide
     have hx9 : bits .xor .u8 (0 : Int) 92 = 92 := by decide
     rw [hz] at hp5 hp9
     clear hz
     go_wp2_with (first | (refine wpl_at (.store 5 (.tmp 35) (.tmp 32)) rfl ?_; refine L_store1 rfl rfl hst rfl (by rfl) (ev_tmp rfl) rfl el_uint8 1 rfl (by rw [hs9.out]; omega) ?_; clear hst; intro WS7 hst; simp only [List.set_cons_zero, List.set_cons_succ] at hst) | (refine wpl_at (.store 5 (.tmp 36) (.tmp 34)) rfl ?_; refine L_store1 rfl rfl hst rfl (by rfl) (ev_tmp rfl) rfl el_uint8 0 rfl (by rw [hs5.out]; omega) ?_; clear hst; intro WS9 hst; simp only [List.set_cons_zero, List.set_cons_succ] at hst))
     rw [show (Value.int .u8 54) = byteV (0 ^^^ 54) from rfl, hp5.out, show (Value.int .u8 92) = byteV (0 ^^^ 92) from rfl, hp9.out] at hst
     go_roundg (gk - 1)
     case measure => have hi := HI.out; omega
     case rel =>
      have hi := HI.out
      exact ⟨i + 1, Lib.hid (by omega), by go_num, hst⟩
   ·obtain rfl : i = 64 := by omega
    clear hi HI
    go_wp2_with (first | (go_at_call 100; with_reducible refine (new_hs _).mono ?_; rintro e W38 ⟨g10, rfl, hnew⟩; replace hst := hst.trans hnew; clear hnew) | (go_at_call_of 101 (Value.slice (some ⟨g7, 0, none⟩) 64 64); with_reducible refine (write_any [] (padK kk 54) g10 0 0 none _ _ _ w _ _ HT.out hst (by rw [← pCells_64]; exact Src.blk (i := 0) rfl (size_pCells _ _ _ (by decide)) (by decide)) (by rw [length_padK]; decide) (by decide)).mono ?_; rintro e W41 ⟨rfl, A41, n41, c41, hst'⟩; clear hst; have hst := hst'; clear hst') | (go_at_call 101; with_reducible refine (write_any ([] ++ padK kk 54) b g10 _ _ _ A n c w _ _ HT.out hst (Src.old (by decide) hx _) (by rw [List.nil_append, length_padK, Hxl.out]; omega) (by omega)).mono ?_; rintro e W44 ⟨rfl, A44, n44, c44, hst'⟩; clear hst; have hst := hst'; clear hst') | (go_at_call 102; with_reducible refine (hsum_any ([] ++ padK kk 54 ++ b) g10 _ _ _ w _ _ HT.out hst (by rw [List.nil_append, List.length_append, length_padK, Hxl.out]; omega)).mono ?_; rintro e W46 ⟨rfl, hst'⟩; clear hst; have hst := hst'; clear hst'; simp only [Hs, List.nil_append, List.cons_append] at hst) | (refine L_sliceAll (d := some 40) rfl rfl rfl (by rfl) Tryz.underlying158 el_uint8 (by (exact hst.get 2 rfl)) (by (rfl)) (by decide) ?_; intro hs40) | (refine L_allocA (d := some 11) rfl rfl rfl el_api_Digest ?_; (try clear hnew); intro g11 W11 hnew; replace hst := hst.trans hnew; simp only [List.cons_append, List.nil_append] at hst) | (refine wpl_at (.store 32 (.tmp 11) (.tmp 46)) rfl ?_; (refine L_storeA rfl rfl hst rfl (by rfl) (ev_tmp rfl) (by (exact Dig.one _)) el_api_Digest (by (rfl)) 0 rfl (by (rfl)) ?_; clear hst; intro WS3 hst; simp only [List.set_cons_zero, List.set_cons_succ] at hst)))
    have hfin : sha (padK kk 92 ++ (sha (padK kk 54 ++ b)).l) = macN key b := by rw [HK.out.1]; rfl
    have Hfin := Lib.hid hfin
    clear hfin
    refine wp_region_idx [(0, 0), (1, 2), (2, 1), (3, 2), (4, 1)] (by kernel_rfl) (by kernel_rfl) ?_
    replace hst := hst.drew
    refine idx_q rfl rfl ?_; go_wp2_with ((refine L_sliceAll (d := some 47) rfl rfl rfl (by rfl) Tryz.underlying158 el_uint8 (by (exact hst.get 4 rfl)) (by (rfl)) (by decide) ?_; intro hs47))
    refine idx_g rfl ?_; go_wp2_with ((refine L_sliceAll (d := some 48) rfl rfl rfl (by rfl) Tryz.underlying32 el_uint8 (by (exact hst.get 0 rfl)) (by (rfl)) (by decide) ?_; intro hs48)); refine ⟨by (exact Below.refl _ _), ?_⟩
    refine idx_e rfl ?_; go_wp2_with ((refine L_appendF (d := some 49) rfl rfl rfl (by rfl) (by rfl) Tryz.underlying22 el_uint8 rfl (by decide) (by assumption) (by (assumption)) (by omega) (by omega) (by omega) ?_; (try clear hnew); intro A49 c49 W49 hnew; replace hst := hst.trans hnew; simp only [List.cons_append, List.nil_append] at hst))
    refine idx_g rfl ?_; go_wp2_with ((go_at_call 80; with_reducible refine (ssum_any (padK kk 92 ++ (sha (padK kk 54 ++ b)).l) _ _ _ _ (HT.out.of hst) (by rw [bytesL_append, ← pCells_64, ← Dig.toList]; exact hst.sl 0 rfl) (by decide)).mono ?_; (try clear hnew); rintro e W50 ⟨rfl, hnew⟩; replace hst := hst.keep hnew)); refine ⟨by (exact hnew.below), ?_⟩
    refine idx_e rfl ?_; go_wp2_with ((refine wpl_at (.store 32 (.tmp 4) (.tmp 50)) rfl ?_; (refine L_storeA rfl rfl hst rfl (by rfl) (ev_tmp rfl) (by (exact Dig.one _)) el_api_Digest (by (rfl)) 6 rfl (by (rfl)) ?_; clear hst; intro WS4 hst; simp only [List.set_cons_zero, List.set_cons_succ] at hst)))
    refine idx_nil ?_
    rw [Hfin.out] at hst
    go_wp2_with fail
    refine bp_cell rfl rfl rfl (hst.get 6 rfl) Tryz.underlying32 rfl el_api_Digest (by (rfl)) ?_
    exact ⟨rfl, hst.forget⟩
end Go.Proofs.YtaebeemnipafbaaGreatDoor

set_option maxRecDepth 20000
set_option linter.unusedSimpArgs false
set_option linter.unusedVariables false
namespace Go.Proofs.YtaebeemnipafbaaGreatDoor
open Go.RowKit
theorem digsL_single (d : Dig) : digsL [d] = d.arr.toList := by rw [Dig.toList]; simp [digsL]
theorem eqG_D : Tryz.prog.eqGuardType Tryz.prog.depth 32 = false := by kernel_rfl
end Go.Proofs.YtaebeemnipafbaaGreatDoor

set_option maxRecDepth 20000
set_option linter.unusedSimpArgs false
set_option linter.unusedVariables false
namespace Go.Proofs.YtaebeemnipafbaaGreatDoor
open Go.RowKit
def nodeN (l r : Dig) : Dig := ofN 1 [l, r]
def halfN (n : Nat) : Nat := 2 ^ Nat.log2 (n - 1)
theorem halfN_pos (n : Nat) : 0 < halfN n := Nat.two_pow_pos _
theorem halfN_lt (n : Nat) (h : 2 ≤ n) : halfN n < n := by
 have := Nat.log2_self_le (n := n - 1) (by omega)
 unfold halfN
 omega
theorem halfN_of {k n : Nat} (j : Nat) (hj : k = 2 ^ j) (h1 : k < n) (h2 : n ≤ 2 * k) : halfN n = k := by
 subst hj
 unfold halfN
 have : Nat.log2 (n - 1) = j := by
  have h3 : n - 1 ≠ 0 := by have := Nat.two_pow_pos j; omega
  rw [Nat.log2_eq_iff h3, Nat.pow_succ]
  omega
 rw [this]
def rootN (ls : List Dig) : Dig :=
 if _h : ls.length < 2 then
  match ls with
  | [] => sha []
  | d :: _ => d
 else nodeN (rootN (ls.take (halfN ls.length))) (rootN (ls.drop (halfN ls.length)))
termination_by ls.length
decreasing_by
 ·have := halfN_lt ls.length (by omega)
  rw [List.length_take]
  omega
 ·have := halfN_pos ls.length
  rw [List.length_drop]
  omega
theorem rootN_nil : rootN [] = sha [] := by rw [rootN]; rfl
theorem rootN_one (d : Dig) : rootN [d] = d := by rw [rootN]; rfl
theorem rootN_more (ls : List Dig) (h : 2 ≤ ls.length) : rootN ls = nodeN (rootN (ls.take (halfN ls.length))) (rootN (ls.drop (halfN ls.length))) := by
 rw [rootN, dif_neg (by omega)]
theorem digsL_cut (ls : List Dig) (lo n : Nat) : ((digsL ls).drop (lo * 32)).take (n * 32) = digsL ((ls.drop lo).take n) := by
 have hd : ∀ (l : List Dig) (k : Nat), (digsL l).drop (k * 32) = digsL (l.drop k) := fun l k => by
  induction k generalizing l with
  | zero => simp
  | succ k ih =>
   cases l with
   | nil => simp [digsL]
   | cons d l =>
    have h : digsL (d :: l) = bytesL d.l ++ digsL l := by simp [digsL]
    have e : (k + 1) * 32 = (bytesL d.l).length + k * 32 := by rw [length_bytesL, d.h]; omega
    rw [h, e, ← List.drop_drop, List.drop_left, ih]
    rfl
 have ht : ∀ (l : List Dig) (k : Nat), (digsL l).take (k * 32) = digsL (l.take k) := fun l k => by
  induction k generalizing l with
  | zero => simp [digsL]
  | succ k ih =>
   cases l with
   | nil => simp [digsL]
   | cons d l =>
    have h : ∀ l, digsL (d :: l) = bytesL d.l ++ digsL l := fun l => by simp [digsL]
    have e : (k + 1) * 32 = (bytesL d.l).length + k * 32 := by rw [length_bytesL, d.h]; omega
    rw [h, e, List.take_length_add_append, ih, List.take_succ_cons, h]
 rw [hd, ht]
set_option maxHeartbeats 1000000 in
theorem node_any (l r : Dig) (w : World) (hT : Tb w) : Calls Tryz.prog 99 #[l.v, r.v] w fun e w' => e = .returned (nodeN l r).v ∧ St w w' [] := by
 have hst := St.refl w
 have HT := Lib.hid hT
 have hd : digsL [l, r] = l.arr.toList ++ r.arr.toList := by simp [digsL, Dig.toList]
 have HD := Lib.hid hd
 clear hT hd
 go_enter Tryz.func99, Tryz.ntmps99
 go_wp2_with (first | (go_at_call 126; (try clear hnew); refine (of_any 1 [l, r] _ _ _ _ (HT.out.of hst) (by rw [HD.out]; exact hst.sl 0 rfl) (by decide)).mono ?_; rintro e W8 ⟨rfl, hnew⟩; replace hst := hst.keep hnew) | (refine L_boxA (d := some 2) rfl rfl rfl (ev_tmp rfl) ?_; (try clear hnew); intro g2 W2 hnew; replace hst := hst.trans hnew; simp only [List.cons_append, List.nil_append] at hst) | (refine L_boxA (d := some 3) rfl rfl rfl (ev_tmp rfl) ?_; (try clear hnew); intro g3 W3 hnew; replace hst := hst.trans hnew; simp only [List.cons_append, List.nil_append] at hst) | (refine L_allocA (d := some 4) rfl rfl rfl el_api_Digest ?_; (try clear hnew); intro g4 W4 hnew; replace hst := hst.trans hnew; simp only [List.cons_append, List.nil_append] at hst) | ((refine L_loadA (d := some 5) rfl rfl rfl (by rfl) Tryz.underlying32 rfl el_api_Digest (by (exact hst.get 2 rfl)) (by (exact Dig.size _)) ?_)) | ((refine L_loadA (d := some 6) rfl rfl rfl (by rfl) Tryz.underlying32 rfl el_api_Digest (by (exact hst.get 1 rfl)) (by (exact Dig.size _)) ?_)) | (refine L_buildS (d := some 7) rfl rfl rfl [_, _] (bs_2 (ev_tmp rfl) (ev_tmp rfl)) rfl Tryz.underlying44 el_api_Digest rfl (by (simp [Value.cells, Dig.size]; done)) (by decide) (by decide) ?_; (try clear hnew); intro g7 W7 hnew; replace hst := hst.trans hnew; simp only [List.cons_append, List.nil_append] at hst; simp only [List.flatMap_cons, List.flatMap_nil, List.append_nil, Value.cells, List.toList_toArray] at hst) | (refine wpl_at (.store 32 (.tmp 4) (.tmp 8)) rfl ?_; (refine L_storeA rfl rfl hst rfl (by rfl) (ev_tmp rfl) (by (exact Dig.one _)) el_api_Digest (by (rfl)) 1 rfl (by (rfl)) ?_; clear hst; intro WS4 hst; simp only [List.set_cons_zero, List.set_cons_succ] at hst)))
 refine bp_cell rfl rfl rfl (hst.get 1 rfl) Tryz.underlying32 rfl el_api_Digest (by (rfl)) ?_
 exact ⟨rfl, hst.forget⟩
theorem half_shl : ∀ n : Fin 257, 2 ≤ n.val → 1 ≤ Lib.bitLen (n.val - 1) ∧ Lib.bitLen (n.val - 1) ≤ 8 ∧ wrap64 ((2 : Int) ^ (Lib.bitLen (n.val - 1) - 1)) = (halfN n.val : Int) := by decide +kernel
set_option maxHeartbeats 1000000 in
theorem half_any (n : Nat) (h2 : 2 ≤ n) (hn : n ≤ 256) (w : World) : Calls Tryz.prog 91 #[.int .i64 (n : Int)] w fun e w' => e = .returned (.int .i64 (halfN n : Int)) ∧ St w w' [] := by
 have hst := St.refl w
 obtain ⟨hb1, hb8, hh⟩ := half_shl ⟨n, by omega⟩ h2
 have Hh := Lib.hid hh
 have hx : ((n : Int) - 1).toNat = n - 1 := by omega
 simp only at hb1 hb8 hx
 clear hh
 go_enter Tryz.func91, Tryz.ntmps91
 go_wp2_with ((go_at_call 125; refine (Tryz.bits_Len _ _ (by omega) (by omega)).mono ?_; rintro e W6 ⟨rfl, rfl⟩; rw [hx]))
 rw [Hh.out]
 go_ret
 exact ⟨rfl, hst⟩
set_option maxHeartbeats 2000000 in
theorem root_any : ∀ (n : Nat) (ls : List Dig) (A : Option Addr) (c : Nat) (w : World), Tb w → SlR w A n c 32 (digsL ls) → n ≤ 256 →
  Calls Tryz.prog 83 #[.slice A n c] w fun e w' => e = .returned (rootN ls).v ∧ St w w' [] := by
 intro n
 induction n using Nat.strongRecOn with
 | ind n ih =>
 intro ls A c w hT hx hn
 have hst := St.refl w
 have HT := Lib.hid hT
 have hl : ls.length = n := by have := hx.1; rw [length_digsL] at this; omega
 have hcap := hx.2.1
 clear hT
 by_cases h0 : n = 0
 ·subst h0
  obtain rfl : ls = [] := List.eq_nil_of_length_eq_zero hl
  go_enter Tryz.func83, Tryz.ntmps83
  go_wp2_with (first | (go_at_call 80; (try clear hnew); refine (ssum_any [] none 0 0 _ (HT.out.of hst) (SlR.nil_ _ 1) (by decide)).mono ?_; rintro e W8 ⟨rfl, hnew⟩; replace hst := hst.keep hnew) | (refine L_allocA (d := some 2) rfl rfl rfl el_api_Digest ?_; (try clear hnew); intro g2 W2 hnew; replace hst := hst.trans hnew; simp only [List.cons_append, List.nil_append] at hst) | (refine wpl_at (.store 32 (.tmp 2) (.tmp 8)) rfl ?_; (refine L_storeA rfl rfl hst rfl (by rfl) (ev_tmp rfl) (by (exact Dig.one _)) el_api_Digest (by (rfl)) 0 rfl (by (rfl)) ?_; clear hst; intro WS1 hst; simp only [List.set_cons_zero, List.set_cons_succ] at hst)))
  rw [rootN_nil]
  refine bp_cell rfl rfl rfl (hst.get 0 rfl) Tryz.underlying32 rfl el_api_Digest (by (rfl)) ?_
  exact ⟨rfl, hst.forget⟩
 ·by_cases h1 : n = 1
  ·subst h1
   obtain ⟨d, rfl⟩ : ∃ d, ls = [d] := by
    match ls, hl with
    | [d], _ => exact ⟨d, rfl⟩
   have HL := Lib.hid (show ((digsL [d]).drop ((0 : Int).toNat * 32)).take 32 = d.arr.toList by rw [digsL_single]; exact List.take_of_length_le (by simp [Dig.size]))
   go_enter Tryz.func83, Tryz.ntmps83
   go_wp2_with (first | (refine L_loadM (d := some 13) rfl rfl rfl (by rfl) Tryz.underlying32 rfl el_api_Digest (cs := d.arr) (by rw [← HL.out]; exact hr12) (Dig.size _) ?_) | (refine L_allocA (d := some 2) rfl rfl rfl el_api_Digest ?_; (try clear hnew); intro g2 W2 hnew; replace hst := hst.trans hnew; simp only [List.cons_append, List.nil_append] at hst) | (refine L_idxS (d := some 12) rfl rfl rfl (by rfl) (by rfl) Tryz.underlying44 el_api_Digest (by (exact hst.old (by decide) (by assumption))) (by omega) (by omega) ?_; intro o12 p12 ha12 hr12; ((subst ha12))) | (refine wpl_at (.store 32 (.tmp 2) (.tmp 13)) rfl ?_; (refine L_storeA rfl rfl hst rfl (by rfl) (ev_tmp rfl) (by (exact Dig.one _)) el_api_Digest (by (exact Dig.size _)) 0 rfl (by (rfl)) ?_; clear hst; intro WS3 hst; simp only [List.set_cons_zero, List.set_cons_succ] at hst)))
   rw [rootN_one]
   refine bp_cell rfl rfl rfl (hst.get 0 rfl) Tryz.underlying32 rfl el_api_Digest (by (exact Dig.size _)) ?_
   exact ⟨rfl, hst.forget⟩
  ·have hlt := halfN_lt n (by omega)
   have hps := halfN_pos n
   have HN := Lib.hid (show nodeN (rootN (ls.take (halfN n))) (rootN (ls.drop (halfN n))) = rootN ls by rw [rootN_more ls (by omega), hl])
   have H1 := Lib.hid (show ((digsL ls).drop (0 * 32)).take ((halfN n - 0) * 32) = digsL (ls.take (halfN n)) by rw [digsL_cut]; rfl)
   have H2 := Lib.hid (show ((digsL ls).drop (halfN n * 32)).take ((n - halfN n) * 32) = digsL (ls.drop (halfN n)) by rw [digsL_cut, List.take_of_length_le (by rw [List.length_drop]; omega)])
   have h0' : ¬ (n : Int) = 0 := by omega
   have h1' : ¬ (n : Int) = 1 := by omega
   have HF := Lib.hid (fun w => half_any n (by omega) (by omega) w)
   generalize halfN n = k at *
   go_enter Tryz.func83, Tryz.ntmps83
   go_wp2_with (first | (go_at_call 91; refine (HF.out _).mono ?_; rintro e W16 ⟨rfl, hnew⟩; replace hst := hst.keep hnew; clear hnew) | (refine L_allocA (d := some 2) rfl rfl rfl el_api_Digest ?_; (try clear hnew); intro g2 W2 hnew; replace hst := hst.trans hnew; simp only [List.cons_append, List.nil_append] at hst))
   clear hnew h0' h1'
   refine wp_region_idx [(0, 0), (1, 0), (2, 0), (4, 0), (5, 0), (6, 0), (3, 2), (7, 2), (8, 2), (9, 1)] (by kernel_rfl) (by kernel_rfl) ?_
   replace hst := hst.drew
   refine idx_q rfl rfl ?_; go_wp2_with fail
   refine idx_q rfl rfl ?_; go_wp2_with fail
   refine idx_q rfl rfl ?_; go_wp2_with (((refine L_cutS (d := some 19) rfl rfl rfl (by rfl) Tryz.underlying44 el_api_Digest (by decide) (by (exact hst.old (by decide) hx)) 0 k _ (Or.inl ⟨rfl, rfl⟩) (Or.inr ⟨_, _, rfl, by (exact ev_tmp rfl)⟩) (Or.inl ⟨rfl, rfl⟩) (by omega) (by omega) (by omega) (by omega) ?_; intro A19 c19 hs19)))
   refine idx_q rfl rfl ?_; go_wp2_with fail
   refine idx_q rfl rfl ?_; go_wp2_with fail
   refine idx_q rfl rfl ?_; go_wp2_with (((refine L_cutS (d := some 23) rfl rfl rfl (by rfl) Tryz.underlying44 el_api_Digest (by decide) (by (exact hst.old (by decide) hx)) k n _ (Or.inr ⟨_, _, rfl, by (exact ev_tmp rfl)⟩) (Or.inl ⟨rfl, rfl, rfl⟩) (Or.inl ⟨rfl, rfl⟩) (by omega) (by omega) (by omega) (by omega) ?_; intro A23 c23 hs23)))
   refine idx_g rfl ?_; go_wp2_with ((go_at_call_of 83 (Value.slice A19 k c19); (try clear hnew); refine (ih k hlt (ls.take k) A19 c19 _ (HT.out.of hst) (by rw [← H1.out]; exact hs19) (by omega)).mono ?_; rintro e W20 ⟨rfl, hnew⟩; replace hst := hst.keep hnew)); refine ⟨by (exact hnew.below), ?_⟩
   refine idx_g rfl ?_; go_wp2_with ((go_at_call_of 83 (Value.slice A23 (n - k) c23); refine (ih (n - k) (by omega) (ls.drop k) A23 c23 _ (HT.out.of hst) (by rw [← H2.out]; exact hnew.old (by decide) hs23) (by omega)).mono ?_; clear hnew; rintro e W24 ⟨rfl, hnew⟩; replace hst := hst.keep hnew)); refine ⟨by (exact hnew.below), ?_⟩
   refine idx_g rfl ?_; go_wp2_with ((go_at_call 99; (try clear hnew); with_reducible refine (node_any _ _ _ (HT.out.of hst)).mono ?_; rintro e W25 ⟨rfl, hnew⟩; replace hst := hst.keep hnew)); refine ⟨by (exact hnew.below), ?_⟩
   refine idx_e rfl ?_; go_wp2_with ((refine wpl_at (.store 32 (.tmp 2) (.tmp 25)) rfl ?_; (refine L_storeA rfl rfl hst rfl (by rfl) (ev_tmp rfl) (by (exact Dig.one _)) el_api_Digest (by (rfl)) 0 rfl (by (rfl)) ?_; clear hst; intro WS9 hst; simp only [List.set_cons_zero, List.set_cons_succ] at hst)))
   refine idx_nil ?_
   rw [HN.out] at hst
   go_wp2_with fail
   refine bp_cell rfl rfl rfl (hst.get 0 rfl) Tryz.underlying32 rfl el_api_Digest (by (exact Dig.size _)) ?_
   exact ⟨rfl, hst.forget⟩
set_option maxHeartbeats 1000000 in
theorem tRoot_any (ls : List Dig) (A : Option Addr) (n c : Nat) (w : World) (hT : Tb w) (hx : SlR w A n c 32 (digsL ls)) (hn : n ≤ 256) :
  Calls Tryz.prog 38 #[.slice A n c] w fun e w' => e = .returned (.tuple #[(rootN ls).v, .nilIface]) ∧ St w w' [] := by
 have hst := St.refl w
 have HT := Lib.hid hT
 have h1 : ¬ (256 : Int) < (n : Int) := by omega
 clear hT
 go_enter Tryz.func38, Tryz.ntmps38
 go_wp2_with (first | (go_at_call 83; (try clear hnew); with_reducible refine (root_any _ ls _ _ _ (HT.out.of hst) (hst.old (by decide) hx) hn).mono ?_; rintro e W10 ⟨rfl, hnew⟩; replace hst := hst.keep hnew) | (refine L_allocA (d := some 2) rfl rfl rfl el_api_Digest ?_; (try clear hnew); intro g2 W2 hnew; replace hst := hst.trans hnew; simp only [List.cons_append, List.nil_append] at hst) | (refine wpl_at (.store 32 (.tmp 2) (.tmp 10)) rfl ?_; (refine L_storeA rfl rfl hst rfl (by rfl) (ev_tmp rfl) (by (exact Dig.one _)) el_api_Digest (by (exact Dig.size _)) 0 rfl (by (rfl)) ?_; clear hst; intro WS2 hst; simp only [List.set_cons_zero, List.set_cons_succ] at hst)))
 refine bp_cell_tmp rfl rfl rfl rfl (hst.get 0 rfl) Tryz.underlying32 rfl el_api_Digest (by (exact Dig.size _)) ?_
 exact ⟨rfl, hst.forget⟩
end Go.Proofs.YtaebeemnipafbaaGreatDoor

set_option maxRecDepth 20000
set_option linter.unusedSimpArgs false
set_option linter.unusedVariables false
namespace Go.Proofs.YtaebeemnipafbaaGreatDoor
open Go.RowKit
end Go.Proofs.YtaebeemnipafbaaGreatDoor

set_option maxRecDepth 20000
set_option linter.unusedSimpArgs false
set_option linter.unusedVariables false
namespace Go.Proofs.YtaebeemnipafbaaGreatDoor
open Go.RowKit
end Go.Proofs.YtaebeemnipafbaaGreatDoor

set_option maxRecDepth 20000
set_option linter.unusedSimpArgs false
set_option linter.unusedVariables false
namespace Go.Proofs.YtaebeemnipafbaaGreatDoor
open Go.RowKit
def leafBN (b : List UInt8) : Dig := sha (0 :: b)
set_option maxHeartbeats 1000000 in
theorem tleaf_any (b : List UInt8) (A : Option Addr) (n c : Nat) (w : World) (hT : Tb w) (hx : SlR w A n c 1 (bytesL b)) (hn : n ≤ 140737488354000) :
  Calls Tryz.prog 82 #[.slice A n c] w fun e w' => e = .returned (leafBN b).v ∧ St w w' [] := by
 have hst := St.refl w
 have HT := Lib.hid hT
 have HB := Lib.hid (show [Value.int .u8 0] ++ bytesL b = bytesL (0 :: b) from rfl)
 clear hT
 go_enter Tryz.func82, Tryz.ntmps82
 go_wp2_with (first | (go_at_call 80; (try clear hnew); refine (ssum_any (List.cons 0 b) _ _ _ _ (HT.out.of hst) (by rw [← HB.out]; exact hst.sl 0 rfl) (by omega)).mono ?_; rintro e Wk1 ⟨rfl, hnew⟩; replace hst := hst.keep hnew) | (refine L_allocA (d := some 2) rfl rfl rfl el_api_Digest ?_; (try clear hnew); intro g2 W2 hnew; replace hst := hst.trans hnew; simp only [List.cons_append, List.nil_append] at hst) | (refine L_buildS (d := some 3) rfl rfl rfl [_] (bs_1 ev_const) rfl Tryz.underlying22 el_uint8 rfl (by (simp [Value.cells]; done)) (by decide) (by decide) ?_; (try clear hnew); intro g3 W3 hnew; replace hst := hst.trans hnew; simp only [List.cons_append, List.nil_append] at hst; simp only [List.flatMap_cons, List.flatMap_nil, List.append_nil, Value.cells, List.toList_toArray] at hst) | (refine L_appendO (d := some 5) rfl rfl hst rfl (by rfl) (by rfl) Tryz.underlying22 el_uint8 rfl (by decide) (by decide) 0 rfl (by (rfl)) (by (exact hst.old (by decide) hx)) (by (exact oneCell_bytes)) (by omega) ?_; clear hst; intro A5 c5 W5 hst; simp only [List.set_cons_zero, List.set_cons_succ, List.nil_append, Nat.zero_add] at hst) | (refine wpl_at (.store 32 (.tmp 2) (.tmp 6)) rfl ?_; (refine L_storeA rfl rfl hst rfl (by rfl) (ev_tmp rfl) (by (exact Dig.one _)) el_api_Digest (by (rfl)) 1 rfl (by (rfl)) ?_; clear hst; intro WS4 hst; simp only [List.set_cons_zero, List.set_cons_succ, HB.out] at hst)))
 refine bp_cell rfl rfl rfl (hst.get 1 rfl) Tryz.underlying32 rfl el_api_Digest (by (rfl)) ?_
 exact ⟨rfl, hst.forget⟩
end Go.Proofs.YtaebeemnipafbaaGreatDoor

set_option maxRecDepth 20000
set_option linter.unusedSimpArgs false
set_option linter.unusedVariables false
namespace Go.Proofs.YtaebeemnipafbaaGreatDoor
def okB (b : UInt8) : Bool := decide (97 ≤ b.toNat ∧ b.toNat ≤ 122 ∨ 48 ≤ b.toNat ∧ b.toNat ≤ 57 ∨ b.toNat = 45)
def isNm (l : List UInt8) : Bool := decide (0 < l.length ∧ l.length ≤ 30) && l.all okB
def idxN (l : List UInt8) : Nat := natE ((sha (12 :: l)).l.take 4)
structure NoteN where
 name : List UInt8
 key : Dig
 turn : Int
theorem NoteN.ext' {n m : NoteN} (h1 : n.name = m.name) (h2 : n.key = m.key) (h3 : n.turn = m.turn) : n = m := by
 cases n; cases m; simp_all
def noteB (n : NoteN) : List UInt8 := UInt8.ofNat n.name.length :: (n.name ++ (n.key.l ++ bigE 4 n.turn.toNat))
def noteOk (n : NoteN) : Bool := isNm n.name && decide (0 ≤ n.turn ∧ n.turn < 4294967296)
def ntLeaf (n : NoteN) : Dig := leafBN (noteB n)
theorem isNm_len {l : List UInt8} (h : isNm l = true) : 0 < l.length ∧ l.length ≤ 30 := by
 rw [isNm, Bool.and_eq_true] at h
 exact of_decide_eq_true h.1
theorem length_noteB (n : NoteN) : (noteB n).length = n.name.length + 37 := by
 simp [noteB, bigE, n.key.h]
def lastI : List NoteN → List UInt8 → Option Nat
 | [], _ => none
 | n :: ns, s => match lastI ns s with | some j => some (j + 1) | none => if n.name = s then some 0 else none
theorem lastI_snoc : ∀ (ns : List NoteN) (n : NoteN) (s : List UInt8), lastI (ns ++ [n]) s = if n.name = s then some ns.length else lastI ns s
 | [], n, s => by simp [lastI]
 | m :: ns, n, s => by
  rw [List.cons_append, lastI, lastI_snoc ns n s]
  by_cases h : n.name = s
  ·simp [h]
  ·simp only [h, if_false, lastI]
theorem lastI_some : ∀ {ns : List NoteN} {s : List UInt8} {j : Nat}, lastI ns s = some j → ∃ n, ns[j]? = some n ∧ n.name = s
 | [], s, j, h => by cases h
 | m :: ns, s, j, h => by
  rw [lastI] at h
  cases hl : lastI ns s with
  | some i =>
   rw [hl] at h
   obtain rfl : i + 1 = j := Option.some.inj h
   exact lastI_some (ns := ns) hl
  | none =>
   rw [hl] at h
   simp only at h
   split at h
   ·rename_i hm
    obtain rfl : 0 = j := Option.some.inj h
    exact ⟨m, rfl, hm⟩
   ·cases h
theorem lastI_none : ∀ {ns : List NoteN} {s : List UInt8}, lastI ns s = none ↔ ∀ n ∈ ns, n.name ≠ s
 | [], s => by simp [lastI]
 | m :: ns, s => by
  rw [lastI]
  cases hl : lastI ns s with
  | some i =>
   obtain ⟨n, h1, h2⟩ := lastI_some hl
   simp only [reduceCtorEq, List.mem_cons, ne_eq, false_iff]
   intro h
   exact h n (.inr (List.mem_of_getElem? h1)) h2
  | none =>
   have := lastI_none.1 hl
   by_cases h : m.name = s
   ·simp [h]
   ·simp [h]
    exact this
theorem lastI_lt {ns : List NoteN} {s : List UInt8} {j : Nat} (h : lastI ns s = some j) : j < ns.length := by
 obtain ⟨n, h1, _⟩ := lastI_some h
 exact (List.getElem?_eq_some_iff.1 h1).1
def lastN? (ns : List NoteN) (s : List UInt8) : Option NoteN := (lastI ns s).bind fun j => ns[j]?
theorem lastN_snoc (ns : List NoteN) (n : NoteN) (s : List UInt8) : lastN? (ns ++ [n]) s = if n.name = s then some n else lastN? ns s := by
 unfold lastN?
 rw [lastI_snoc]
 by_cases h : n.name = s
 ·simp [h]
 ·simp only [h, if_false]
  cases hl : lastI ns s with
  | none => rfl
  | some j => simp only [Option.bind_some]; rw [List.getElem?_append_left (lastI_lt hl)]
def namesC (ns : List NoteN) : Nat := ((List.range ns.length).filter fun i => decide ((ns[i]?.bind fun n => lastI ns n.name) = some i)).length
def takenN (ns : List NoteN) (s : List UInt8) : Bool := ns.any fun n => decide (n.name ≠ s ∧ idxN n.name = idxN s)
def addE (ns : List NoteN) (s : List UInt8) : Nat :=
 if isNm s = true then (if 256 ≤ ns.length ∨ lastI ns s = none ∧ 64 ≤ namesC ns then 4 else if takenN ns s = true then 7 else 0) else 1
def turnN (ns : List NoteN) (s : List UInt8) : Int := match lastN? ns s with | some n => n.turn + 1 | none => 0
def newN (ns : List NoteN) (s : List UInt8) (k : Dig) : NoteN := ⟨s, k, turnN ns s⟩
def addL (ns : List NoteN) (s : List UInt8) (k : Dig) : List NoteN := if addE ns s = 0 then ns ++ [newN ns s k] else ns
inductive Logged : List NoteN → Prop
 | nil : Logged []
 | add {ns : List NoteN} {s : List UInt8} {k : Dig} : Logged ns → addE ns s = 0 → Logged (ns ++ [newN ns s k])
theorem Logged.addL {ns : List NoteN} (h : Logged ns) (s : List UInt8) (k : Dig) : Logged (addL ns s k) := by
 unfold Go.Proofs.YtaebeemnipafbaaGreatDoor.addL
 split
 ·exact .add h (by assumption)
 ·exact h
theorem addE_zero {ns : List NoteN} {s : List UInt8} (h : addE ns s = 0) : isNm s = true ∧ ns.length < 256 ∧ (lastI ns s = none → namesC ns < 64) ∧ ∀ n ∈ ns, idxN n.name = idxN s → n.name = s := by
 unfold addE at h
 by_cases h1 : isNm s = true
 ·rw [if_pos h1] at h
  by_cases h2 : 256 ≤ ns.length ∨ lastI ns s = none ∧ 64 ≤ namesC ns
  ·rw [if_pos h2] at h; cases h
  rw [if_neg h2] at h
  by_cases h3 : takenN ns s = true
  ·rw [if_pos h3] at h; cases h
  refine ⟨h1, by omega, fun e => ?_, fun n hn hi => ?_⟩
  ·by_cases h4 : 64 ≤ namesC ns
   ·exact absurd (.inr ⟨e, h4⟩) h2
   ·omega
  ·by_cases h4 : n.name = s
   ·exact h4
   ·exact absurd (List.any_eq_true.2 ⟨n, hn, decide_eq_true ⟨h4, hi⟩⟩) h3
 ·rw [if_neg h1] at h; cases h
theorem Logged.len {ns : List NoteN} (h : Logged ns) : ns.length ≤ 256 := by
 induction h with
 | nil => simp
 | add h0 he ih => have := (addE_zero he).2.1; simp; omega
theorem Logged.nm {ns : List NoteN} (h : Logged ns) : ∀ n ∈ ns, isNm n.name = true := by
 induction h with
 | nil => simp
 | add h0 he ih =>
  intro n hn
  rcases List.mem_append.1 hn with hn | hn
  ·exact ih n hn
  ·rw [List.mem_singleton.1 hn]; exact (addE_zero he).1
theorem Logged.turnOf {ns : List NoteN} (h : Logged ns) : ∀ s, turnN ns s = ((ns.countP fun n => decide (n.name = s) : Nat) : Int) := by
 induction h with
 | nil => intro s; rfl
 | @add ns s k h0 he ih =>
  intro t
  unfold turnN
  rw [lastN_snoc, List.countP_append, List.countP_singleton]
  by_cases ht : s = t
  ·subst ht
   have := ih s
   simp only [newN, if_true, decide_true]
   rw [this]
   simp
  ·have := ih t
   unfold turnN at this
   simp only [newN, ht, if_false, decide_false, Bool.false_eq_true, Nat.add_zero]
   exact this
theorem Logged.turn_le {ns : List NoteN} (h : Logged ns) (s : List UInt8) : 0 ≤ turnN ns s ∧ turnN ns s ≤ ns.length := by
 rw [h.turnOf]
 have := List.countP_le_length (p := fun n : NoteN => decide (n.name = s)) (l := ns)
 omega
theorem Logged.new_ok {ns : List NoteN} (h : Logged ns) {s : List UInt8} (hs : isNm s = true) (k : Dig) : noteOk (newN ns s k) = true := by
 have h1 := h.turn_le s
 have h2 := h.len
 unfold noteOk newN
 rw [Bool.and_eq_true]
 exact ⟨hs, decide_eq_true ⟨h1.1, by show turnN ns s < _; omega⟩⟩
theorem Logged.ok {ns : List NoteN} (h : Logged ns) : ∀ n ∈ ns, noteOk n = true := by
 induction h with
 | nil => simp
 | @add ns s k h0 he ih =>
  intro n hn
  rcases List.mem_append.1 hn with hn | hn
  ·exact ih n hn
  ·rw [List.mem_singleton.1 hn]; exact h0.new_ok (addE_zero he).1 k
def lgF (ns : List NoteN) (k : Nat) : Dig := match ns.reverse.find? (fun n => idxN n.name == k) with | some n => eLeaf k (ntLeaf n) | none => zeroD
theorem lgF_snoc (ns : List NoteN) (n : NoteN) (k : Nat) : lgF (ns ++ [n]) k = if idxN n.name = k then eLeaf k (ntLeaf n) else lgF ns k := by
 unfold lgF
 rw [List.reverse_append, List.reverse_singleton, List.singleton_append, List.find?_cons]
 by_cases h : idxN n.name = k
 ·simp [h]
 ·rw [beq_eq_false_iff_ne.2 h, if_neg h]
theorem Logged.lgF_at {ns : List NoteN} (h : Logged ns) : ∀ {s n}, lastN? ns s = some n → lgF ns (idxN s) = eLeaf (idxN s) (ntLeaf n) := by
 induction h with
 | nil => intro s n hn; cases hn
 | @add ns t k h0 he ih =>
  intro s n hn
  rw [lastN_snoc] at hn
  rw [lgF_snoc]
  by_cases ht : t = s
  ·subst ht
   simp only [newN, if_true, Option.some.injEq] at hn
   subst hn
   simp only [newN, if_true]
  ·simp only [newN, ht, if_false] at hn
   have hne : idxN t ≠ idxN s := by
    intro hi
    unfold lastN? at hn
    cases hl : lastI ns s with
    | none => rw [hl] at hn; cases hn
    | some j =>
     obtain ⟨m, hm1, hm2⟩ := lastI_some hl
     have := (addE_zero he).2.2.2 m (List.mem_of_getElem? hm1) (by rw [hm2, hi])
     exact ht (this.symm.trans hm2)
   simp only [newN, hne, if_false]
   exact ih hn
theorem lgF_none {ns : List NoteN} {k : Nat} (h : ∀ n ∈ ns, idxN n.name ≠ k) : lgF ns k = zeroD := by
 unfold lgF
 rw [List.find?_eq_none.2 (fun n hn => by simpa using h n (List.mem_reverse.1 hn))]
theorem idxN_lt (s : List UInt8) : idxN s < 4294967296 := by
 unfold idxN
 have h := natE_lt ((sha (12 :: s)).l.take 4)
 have hl : ((sha (12 :: s)).l.take 4).length = 4 := by rw [List.length_take, Dig.h]; rfl
 rw [hl] at h
 exact h
def lvN (ns : List NoteN) : List Dig := ns.map ntLeaf
def mapN (ns : List NoteN) : Dig := mRoot (lgF ns) 32 0
end Go.Proofs.YtaebeemnipafbaaGreatDoor

set_option maxRecDepth 20000
set_option linter.unusedSimpArgs false
set_option linter.unusedVariables false
namespace Go.Proofs.YtaebeemnipafbaaGreatDoor
open Go.Shelf
def bsOf (l : List UInt8) : ByteArray := ⟨l.toArray⟩
theorem bsOf_size (l : List UInt8) : (bsOf l).size = l.length := by simp [bsOf, ByteArray.size]
theorem bsOf_list (l : List UInt8) : (bsOf l).data.toList = l := by simp [bsOf]
theorem bsOf_inj {a b : List UInt8} (h : bsOf a = bsOf b) : a = b := by rw [← bsOf_list a, h, bsOf_list]
theorem bsOf_eta (s : ByteArray) : s = bsOf s.data.toList := by cases s; simp [bsOf]
theorem bsOf_get (l : List UInt8) (i : Nat) (h : i < l.length) : (bsOf l).get! i = l[i] := by
 show (bsOf l).data[i]! = _
 simp [bsOf, h]
theorem bsOf_nil : (bsOf []).toList.isEmpty = true := by
 rw [List.isEmpty_iff]
 exact (toList_nil_iff_emptyBytes _).2 rfl
theorem bsOf_cons {l : List UInt8} (h : l ≠ []) : (bsOf l).toList.isEmpty = false := by
 cases he : (bsOf l).toList.isEmpty with
 | false => rfl
 | true =>
  rw [List.isEmpty_iff] at he
  have := (toList_nil_iff_emptyBytes _).1 he
  exact absurd (bsOf_inj (a := l) (b := []) this) h
def nmP (r : Nat) : Bool := !decide (97 ≤ r ∧ r ≤ 122 ∨ 48 ≤ r ∧ r ≤ 57 ∨ r = 45)
theorem nmP_ge {r : Nat} (h : 128 ≤ r) : nmP r = true := by
 unfold nmP
 rw [decide_eq_false (by omega)]
 rfl
theorem nmP_byte (b : UInt8) : nmP b.toNat = !okB b := rfl
theorem decode_lt {s : ByteArray} {i : Nat} (h : (s.get! i).toNat < 128) : Utf8.decode s i = ((s.get! i).toNat, 1) := by
 unfold Utf8.decode
 simp only [Nat.add_zero]
 rw [if_pos h]
theorem decode_ge {s : ByteArray} {i : Nat} (h : 128 ≤ (s.get! i).toNat) : 128 ≤ (Utf8.decode s i).1 := by
 unfold Utf8.decode
 simp only [Nat.add_zero]
 rw [if_neg (by omega)]
 repeat' split
 all_goals first | (simp [Utf8.runeError]; done) | (rename_i hc; simp only [Bool.and_eq_true, decide_eq_true_eq, ge_iff_le] at hc; first | exact hc | exact Nat.le_trans (by decide) hc.1)
theorem name_from (l : List UInt8) : ∀ (f pos : Nat), l.length - pos ≤ f → decide (0 ≤ Lib.idxFuncFrom nmP true (bsOf l) f pos) = !((l.drop pos).all okB)
 | 0, pos, h => by
  rw [List.drop_eq_nil_of_le (by omega)]
  rfl
 | f + 1, pos, h => by
  unfold Lib.idxFuncFrom
  rw [bsOf_size]
  by_cases hp : pos < l.length
  ·rw [if_pos hp, List.drop_eq_getElem_cons hp, List.all_cons]
   have hg := bsOf_get l pos hp
   by_cases hb : (l[pos]).toNat < 128
   ·rw [decode_lt (by rw [hg]; exact hb), hg]
    simp only
    rw [nmP_byte]
    by_cases hk : okB l[pos] = true
    ·rw [hk]
     simp only [Bool.not_true, Bool.false_eq_true, if_false, Bool.true_and]
     exact name_from l f (pos + 1) (by omega)
    ·rw [Bool.eq_false_iff.2 hk]
     simp
   ·have h1 := decode_ge (s := bsOf l) (i := pos) (by rw [hg]; omega)
    rw [nmP_ge h1]
    have hk : okB l[pos] = false := by
     unfold okB
     rw [decide_eq_false (by omega)]
    rw [hk]
    simp
  ·rw [if_neg hp, List.drop_eq_nil_of_le (by omega)]
   rfl
theorem name_idx (l : List UInt8) : decide (0 ≤ Lib.idxFunc nmP true (bsOf l)) = !l.all okB := by
 have := name_from l (bsOf l).size 0 (by rw [bsOf_size]; omega)
 rw [List.drop_zero] at this
 exact this
end Go.Proofs.YtaebeemnipafbaaGreatDoor

set_option maxRecDepth 20000
set_option linter.unusedSimpArgs false
set_option linter.unusedVariables false
namespace Go.Proofs.YtaebeemnipafbaaGreatDoor
open Go.ChangeShapes Go.WideShapes Go.ChangeAt Go.RowKit Go.Deep
section
variable {P : Program} {H : Type} {enc : TypeId × Value → H} {W : World} {base : Nat} {spare : Nat → Bool} {held : Bool}
end
def tableZ : List Int := tableN.map fun (n : Nat) => (n : Int)
theorem cellsR : Tryz.prog.cellsOf 225 = 64 := by kernel_rfl
theorem cells32 : Tryz.prog.cellsOf 196 = 1 := by kernel_rfl
theorem gTab : Tryz.prog.globalNamed "oathbook/sha.rounds" = some 1 := by kernel_rfl
theorem gTabType : (Tryz.prog.globals[1]?).map (·.type) = some 225 := by kernel_rfl
theorem tb_of {W : World} {rest : List (String × DataW Unit)} (h : laidMet Tryz.prog (("oathbook/sha.rounds", Lib.tabData .u32 tableZ) :: rest) W) : Tb W := by
 have ht := Lib.tabIs_of_head gTab gTabType Tryz.underlying225 Tryz.underlying196 cells32 cellsR h
 unfold Lib.TabIs World.var? at ht
 rw [gTab] at ht
 simp only [Option.bind_some] at ht
 split at ht
 ·rename_i cs t fr hg
  simp only [Option.some.injEq] at ht
  subst ht
  exact ⟨t, fr, hg⟩
 ·cases ht
end Go.Proofs.YtaebeemnipafbaaGreatDoor

set_option maxRecDepth 20000
set_option linter.unusedSimpArgs false
set_option linter.unusedVariables false
namespace Go.Proofs.YtaebeemnipafbaaGreatDoor
open Go.ChangeShapes Go.WideShapes Go.ChangeAt Go.RowKit Go.Deep
def hdCells (n : Int) (r m t : Dig) : List Value := .int .i64 n :: (r.arr.toList ++ (m.arr.toList ++ t.arr.toList))
theorem length_hdCells (n : Int) (r m t : Dig) : (hdCells n r m t).length = 97 := by simp [hdCells, Dig.size]
def pairsL (l : List (Int × Dig)) : List Value := l.flatMap fun p => .int .i64 p.1 :: p.2.arr.toList
theorem length_pairsL (l : List (Int × Dig)) : (pairsL l).length = l.length * 33 := by
 induction l with
 | nil => rfl
 | cons p l ih =>
  have : pairsL (p :: l) = (.int .i64 p.1 :: p.2.arr.toList) ++ pairsL l := by simp [pairsL]
  rw [this, List.length_append, ih, List.length_cons, List.length_cons, Array.length_toList, Dig.size]
  omega
section
variable {P : Program} {H : Type} {enc : TypeId × Value → H} {W : World} {base : Nat} {spare : Nat → Bool} {held : Bool}
end
end Go.Proofs.YtaebeemnipafbaaGreatDoor

set_option maxRecDepth 20000
set_option linter.unusedSimpArgs false
set_option linter.unusedVariables false
namespace Go.Proofs.YtaebeemnipafbaaGreatDoor
open Go.RowKit
def hdArr (n : Int) (x y z : Dig) : Array Value := (hdCells n x y z).toArray
theorem hdArr_size (n : Int) (x y z : Dig) : (hdArr n x y z).size = 97 := by simp [hdArr, length_hdCells]
theorem hdArr_list (n : Int) (x y z : Dig) : (hdArr n x y z).toList = .int .i64 n :: (x.arr.toList ++ (y.arr.toList ++ z.arr.toList)) := rfl
theorem hdArr_0 {n : Int} {x y z : Dig} : (hdArr n x y z)[0]? = some (.int .i64 n) := rfl
theorem hdArr_one (n : Int) (x y z : Dig) : ∀ u ∈ (hdArr n x y z).toList, u.oneCell' = true := by
 intro u hu
 rw [hdArr_list] at hu
 simp only [List.mem_cons, List.mem_append, Dig.toList] at hu
 rcases hu with rfl | hu | hu | hu
 ·rfl
 all_goals exact oneCell_bytes u hu
theorem hdArr_all (n : Int) (x y z : Dig) : (hdArr n x y z).all (·.oneCell') = true := Array.all_eq_true_iff_forall_mem.2 fun u hu => hdArr_one n x y z u (Array.mem_toList_iff.2 hu)
theorem range_of_list {W : World} {g t off : Nat} {cs : Array Value} {fr : Nat × Nat} (h : W.heap[g]? = some (.cells cs t fr)) {l : List Value} (hl : ∀ j v, l[j]? = some v → cs.toList[off + j]? = some v) : W.rangeAt g off l :=
 rangeAt_of_cells h (fun j v hv => by rw [← Array.getElem?_toList]; exact hl j v hv)
theorem hdArr_root {W : World} {g t : Nat} {n : Int} {x y z : Dig} {fr : Nat × Nat} (h : W.heap[g]? = some (.cells (hdArr n x y z) t fr)) : W.rangeAt g 1 x.arr.toList :=
 range_of_list h (fun j v hv => by
  have hj := (List.getElem?_eq_some_iff.1 hv).1
  rw [hdArr_list, Nat.add_comm, List.getElem?_cons_succ, List.getElem?_append_left hj]
  exact hv)
theorem hdArr_map {W : World} {g t : Nat} {n : Int} {x y z : Dig} {fr : Nat × Nat} (h : W.heap[g]? = some (.cells (hdArr n x y z) t fr)) : W.rangeAt g 33 y.arr.toList :=
 range_of_list h (fun j v hv => by
  have hj := (List.getElem?_eq_some_iff.1 hv).1
  have hx : x.arr.toList.length = 32 := by simp [Dig.size]
  rw [hdArr_list, show 33 + j = (32 + j) + 1 by omega, List.getElem?_cons_succ, List.getElem?_append_right (by omega), hx, show 32 + j - 32 = j by omega, List.getElem?_append_left hj]
  exact hv)
theorem hdArr_tag {W : World} {g t : Nat} {n : Int} {x y z : Dig} {fr : Nat × Nat} (h : W.heap[g]? = some (.cells (hdArr n x y z) t fr)) : W.rangeAt g 65 z.arr.toList :=
 range_of_list h (fun j v hv => by
  have hx : x.arr.toList.length = 32 := by simp [Dig.size]
  have hy : y.arr.toList.length = 32 := by simp [Dig.size]
  rw [hdArr_list, show 65 + j = (64 + j) + 1 by omega, List.getElem?_cons_succ, List.getElem?_append_right (by omega), hx, show 64 + j - 32 = 32 + j by omega, List.getElem?_append_right (by omega), hy, show 32 + j - 32 = j by omega]
  exact hv)
theorem hdArr_putTag (n : Int) (x y z d : Dig) : putAt (hdArr n x y z) 65 d.arr.toList = hdArr n x y d := by
 have l : ∀ d : Dig, d.arr.toList.length = 32 := fun d => by simp [Dig.size]
 have e : (hdArr n x y z).toList = (.int .i64 n :: (x.arr.toList ++ y.arr.toList)) ++ z.arr.toList := by rw [hdArr_list]; simp
 have e' : (hdArr n x y d).toList = (.int .i64 n :: (x.arr.toList ++ y.arr.toList)) ++ d.arr.toList := by rw [hdArr_list]; simp
 have hl : (Value.int .i64 n :: (x.arr.toList ++ y.arr.toList)).length = 65 := by simp [l, Dig.size]
 unfold putAt
 apply Array.ext'
 rw [e, e', List.take_left' hl, List.drop_append, hl, List.drop_eq_nil_of_le (by rw [hl, l]; omega), List.drop_eq_nil_of_le (by rw [l, l]; omega)]
 simp
section
variable {P : Program} {ops : Array Oper} {rest : List Oper} {o : Oper} {a : Act} {W : World} {Q : Exit → Act → World → Prop} {d : Option Tmp}
theorem L_sliceMid (hd : o.dst = d) (hw : Region.wanted o (yielded ops a.tmps) = true) {T : TypeId} {x : Operand} (ho : o.op = .slice T x none none none) {g off : Nat} (hx : a.eval x = .pointer (some ⟨g, off, none⟩))
  {n : Nat} {e : TypeId} (hu : P.underlying T = some (.array n e)) {z : Value} {s b : Nat} (he : ElemIs P e z s b) {cs : Array Value} (hg : W.rangeAt g off cs.toList) (hc : cs.size = n * s) (hn : n ≤ maxLen)
  (h : SlR W (some ⟨g, off, none⟩) n n s cs.toList → wpList P ops Q rest (a.put d (.slice (some ⟨g, off, none⟩) n n)) W) : wpList P ops Q (o :: rest) a W := by
 refine L_val hd hw ?_ (h ⟨by simp [hc], Nat.le_refl _, hn, fun _ => ⟨g, off, rfl, hg⟩⟩)
 unfold execOp
 simp only [ho, hx]
 have hb : (Instr.sliceBounds false n n none none none).run P W = .ok (0, n, n) W := by simp [Instr.sliceBounds]
 simp [Instr.sliceAt, run_underlying hu, Instr.sureAddr, hb, he.run_size, Addr.add_mid]
theorem L_shrI (hd : o.dst = d) (hw : Region.wanted o (yielded ops a.tmps) = true) {t t' : TypeId} {x y : Operand} (ho : o.op = .binOp .shr t x y t') {k k' : IntKind} {m : Int} {c : Nat} (hx : a.eval x = .int k m) (hy : a.eval y = .int k' ((c : Nat) : Int)) (hc : c ≤ k.bits)
  (h : wpList P ops Q rest (a.put d (.int k (m / 2 ^ c))) W) : wpList P ops Q (o :: rest) a W := by
 refine L_val hd hw ?_ h
 unfold execOp
 simp only [ho, hx, hy]
 have h1 : (eqGuard .shr t x y (.int k m) (.int k' (c : Int))).run P W = .ok () W := by simp [eqGuard]
 have h2 : (Go.binOp .shr t (.int k m) (.int k' (c : Int))).run P W = .ok (.int k (m / 2 ^ c)) W := by
  show (Op.shift .shr k m k' (c : Int)).run P W = _
  have hneg : ¬ (c : Int) < 0 := by omega
  have hm : min c k.bits = c := by omega
  simp only [Op.shift, hneg, if_false, Int.toNat_natCast, hm, Sem.run_pure]
  congr 2
  exact Int.fdiv_eq_ediv_of_nonneg _ (by exact Int.pow_nonneg (by omega))
 simp [h1, h2]
end
def unsN (n : Int) : Nat := (n % 18446744073709551616).toNat
def byteS (n : Int) (i : Nat) : UInt8 := UInt8.ofNat (unsN n / 2 ^ (8 * i))
theorem byteS_val (n : Int) (i : Nat) (h : i < 8) : IntKind.u8.wrap (n / 2 ^ (8 * i)) = ((byteS n i).toNat : Int) := by
 have h1 := Int.emod_nonneg n (show (18446744073709551616 : Int) ≠ 0 by decide)
 have hu : ((unsN n : Nat) : Int) = n % 18446744073709551616 := by unfold unsN; omega
 rw [byteS, UInt8.toNat_ofNat']
 show (n / 2 ^ (8 * i)) % 256 = _
 rcases (show i = 0 ∨ i = 1 ∨ i = 2 ∨ i = 3 ∨ i = 4 ∨ i = 5 ∨ i = 6 ∨ i = 7 by omega) with rfl | rfl | rfl | rfl | rfl | rfl | rfl | rfl <;> simp only [Nat.reduceMul, Int.reducePow, Nat.reducePow] <;> omega
section
variable {P : Program} {ops : Array Oper} {rest : List Oper} {o : Oper} {a : Act} {W : World} {Q : Exit → Act → World → Prop} {d : Option Tmp}
end
def sz4 (n : Int) : List UInt8 := [byteS n 3, byteS n 2, byteS n 1, byteS n 0]
theorem el_api_Head : ElemIs Tryz.prog 41 (.agg (hdArr 0 zeroD zeroD zeroD)) 97 104 := by unfold ElemIs; kernel_rfl
end Go.Proofs.YtaebeemnipafbaaGreatDoor

set_option maxRecDepth 20000
set_option linter.unusedSimpArgs false
set_option linter.unusedVariables false
namespace Go.Proofs.YtaebeemnipafbaaGreatDoor
open Go.RowKit
section
variable {P : Program}
theorem run_eqDig (dd : Nat) {t e : TypeId} {z : Value} {bb : Nat} (ht : P.underlying t = some (.array 32 e)) (he : P.underlying e = some (.int .u8)) (hi : ElemIs P e z 1 bb) (a b : Dig) (w : World) :
  (Op.equalIn (dd + 2) t (.agg a.arr) (.agg b.arr)).run P w = .ok (decide (a = b)) w := by
 obtain ⟨i, hii, _, hs, _⟩ := hi.parts
 have hc : P.cellsOf e = 1 := by simp [Program.cellsOf, hii, hs]
 rw [run_equalIn_array w (dd + 1) a.arr b.arr ht hii, hc, List.range_eq_range']
 have := run_eqItems_bytes (P := P) dd he a.l b.l w 32 0 (by rw [a.h]) (by rw [a.h, b.h])
 simp only [List.drop_zero] at this
 rw [Dig.arr, Dig.arr, this]
 congr 1
 by_cases h : a = b
 ·subst h; simp
 ·have : a.l ≠ b.l := fun e => h (Dig.ext' e)
  simp [h, this]
theorem run_partD {t e : TypeId} {z : Value} {bb : Nat} (ht : P.underlying t = some (.array 32 e)) (hi : ElemIs P t z 32 bb) {cs : Array Value} {o : Nat} {d : Dig} (hc : (cs.toList.drop o).take 32 = d.arr.toList) (w : World) :
  (part t cs o).run P w = .ok (.agg d.arr) w := by
 obtain ⟨i, hii, _, hs, _⟩ := hi.parts
 have hagg : (isAgg t).run P w = .ok true w := by
  unfold isAgg
  rw [Sem.run_bind, run_underlying ht]
  rfl
 have hx : cs.extract o (o + 32) = d.arr := by
  apply Array.ext'
  rw [Array.toList_extract, List.extract_eq_take_drop, show o + 32 - o = 32 by omega]
  exact hc
 simp [part, hagg, sizeOf, typeInfo, hii, hs, hx]
end
section
variable {P : Program} {t ti td e8 : TypeId} {zd : Value} {bd : Nat} {z8 : Value} {b8 : Nat}
end
section
variable {P : Program} {ops : Array Oper} {rest : List Oper} {o : Oper} {a : Act} {W : World} {Q : Exit → Act → World → Prop} {d : Option Tmp}
theorem L_neA (hd : o.dst = d) (hw : Region.wanted o (yielded ops a.tmps) = true) {t t' : TypeId} {x y : Operand} (ho : o.op = .binOp .neq t x y t') {cs cs' : Array Value} (hg : P.eqGuardType P.depth t = false) (hx : a.eval x = .agg cs) (hy : a.eval y = .agg cs') {r : Bool}
  (hr : (Op.equalIn 10000 t (.agg cs) (.agg cs')).run P W = .ok r W) (h : wpList P ops Q rest (a.put d (.bool (!r))) W) : wpList P ops Q (o :: rest) a W := by
 refine L_val hd hw ?_ h
 unfold execOp
 simp only [ho, hx, hy]
 have h1 : (eqGuard .neq t x y (.agg cs) (.agg cs')).run P W = .ok () W := by simp [eqGuard, program, Sem.run, hg]
 have h2 := run_neq_struct (P := P) W t cs cs'
 rw [hr] at h2
 simp [h1, h2]
end
end Go.Proofs.YtaebeemnipafbaaGreatDoor

set_option maxRecDepth 20000
set_option linter.unusedSimpArgs false
set_option linter.unusedVariables false
namespace Go.Proofs.YtaebeemnipafbaaGreatDoor
open Go.RowKit
theorem bsOf_toList (l : List UInt8) : (bsOf l).toList = l := by rw [ByteArray.toList_eq]; exact bsOf_list l
theorem eqG_str : Tryz.prog.eqGuardType Tryz.prog.depth 9 = false := by kernel_rfl
theorem bsOf_beq (s u : List UInt8) : ((bsOf s).toList == (bsOf u).toList) = decide (s = u) := by
 rw [bsOf_toList, bsOf_toList]
 by_cases h : s = u <;> simp [h]
section
variable {P : Program} {ops : Array Oper} {rest : List Oper} {o : Oper} {a : Act} {W : World} {Q : Exit → Act → World → Prop} {d : Option Tmp}
theorem L_eqStr (hd : o.dst = d) (hw : Region.wanted o (yielded ops a.tmps) = true) {t t' : TypeId} {x y : Operand} (ho : o.op = .binOp .eql t x y t') {s u : List UInt8} (hg : P.eqGuardType P.depth t = false) (ht : P.underlying t = some .string) (hx : a.eval x = .string (bsOf s)) (hy : a.eval y = .string (bsOf u))
  (h : wpList P ops Q rest (a.put d (.bool (decide (s = u)))) W) : wpList P ops Q (o :: rest) a W := by
 refine L_val hd hw ?_ h
 unfold execOp
 simp only [ho, hx, hy]
 have h1 : (eqGuard .eql t x y (.string (bsOf s)) (.string (bsOf u))).run P W = .ok () W := by simp [eqGuard, program, Sem.run, hg]
 have h2 : (Go.binOp .eql t (.string (bsOf s)) (.string (bsOf u))).run P W = .ok (.bool (decide (s = u))) W := by
  have := bsOf_beq s u
  simp only [Go.binOp, Op.stringOp, this, Sem.run_pure]
 simp [h1, h2]
theorem L_neStr (hd : o.dst = d) (hw : Region.wanted o (yielded ops a.tmps) = true) {t t' : TypeId} {x y : Operand} (ho : o.op = .binOp .neq t x y t') {s u : List UInt8} (hg : P.eqGuardType P.depth t = false) (ht : P.underlying t = some .string) (hx : a.eval x = .string (bsOf s)) (hy : a.eval y = .string (bsOf u))
  (h : wpList P ops Q rest (a.put d (.bool (!decide (s = u)))) W) : wpList P ops Q (o :: rest) a W := by
 refine L_val hd hw ?_ h
 unfold execOp
 simp only [ho, hx, hy]
 have h1 : (eqGuard .neq t x y (.string (bsOf s)) (.string (bsOf u))).run P W = .ok () W := by simp [eqGuard, program, Sem.run, hg]
 have h2 : (Go.binOp .neq t (.string (bsOf s)) (.string (bsOf u))).run P W = .ok (.bool (!decide (s = u))) W := by
  have := bsOf_beq s u
  simp only [Go.binOp, Op.stringOp, this, Sem.run_pure]
 simp [h1, h2]
end
end Go.Proofs.YtaebeemnipafbaaGreatDoor

set_option maxRecDepth 20000
set_option linter.unusedSimpArgs false
set_option linter.unusedVariables false
namespace Go.Proofs.YtaebeemnipafbaaGreatDoor
open Go.RowKit
theorem bsOf_extract (l : List UInt8) (i j : Nat) : (bsOf l).extract i j = bsOf ((l.take j).drop i) := by
 apply ByteArray.ext
 rw [ByteArray.data_extract]
 unfold bsOf
 simp [List.drop_take]
theorem bsOf_app (l m : List UInt8) : bsOf l ++ bsOf m = bsOf (l ++ m) := by
 apply ByteArray.ext
 simp [bsOf]
def errTx : Nat → List UInt8
 | 0 => [79, 75]
 | 1 => [69, 114, 114, 83, 121, 110, 116, 97, 120]
 | 2 => [69, 114, 114, 82, 97, 110, 103, 101]
 | 3 => [69, 114, 114, 76, 101, 110, 103, 116, 104]
 | 4 => [69, 114, 114, 70, 117, 108, 108]
 | 5 => [69, 114, 114, 78, 111, 110, 101]
 | 6 => [69, 114, 114, 83, 112, 101, 110, 116]
 | 7 => [69, 114, 114, 84, 119, 105, 99, 101]
 | 8 => [69, 114, 114, 79, 108, 100]
 | 9 => [69, 114, 114, 70, 111, 114, 107]
 | _ => [69, 114, 114, 110, 111]
def tHead : List UInt8 := [104, 101, 97, 100]
def tHeld : List UInt8 := [104, 101, 108, 100]
def tTake : List UInt8 := [116, 97, 107, 101]
def tFind : List UInt8 := [102, 105, 110, 100]
def tAdd : List UInt8 := [97, 100, 100]
def tFindB : List UInt8 := [102, 105, 110, 100, 32]
def tAddB : List UInt8 := [97, 100, 100, 32]
def tOk : List UInt8 := [111, 107]
def tNone : List UInt8 := [110, 111, 110, 101]
def tSp : List UInt8 := [32]
def spI (s : List UInt8) : Nat := s.findIdx fun b => b == 32
theorem spI_le (s : List UInt8) : spI s ≤ s.length := List.findIdx_le_length
theorem indexByte_sp : ∀ s : List UInt8, Lib.indexByte s 32 = if spI s < s.length then (spI s : Int) else -1
 | [] => rfl
 | b :: l => by
  have ih := indexByte_sp l
  unfold spI at *
  rw [Lib.indexByte, List.findIdx_cons, ih]
  by_cases hb : b = 32
  ·subst hb; simp
  ·have h1 : (b == 32) = false := by simp [hb]
   rw [h1]
   simp only [cond_false, Bool.false_eq_true, if_false, List.length_cons]
   by_cases hl : List.findIdx (fun b => b == 32) l < l.length
   ·have h2 : (((List.findIdx (fun b => b == 32) l : Nat) : Int) == -1) = false := by rw [beq_eq_false_iff_ne]; omega
    have h3 : List.findIdx (fun b => b == 32) l + 1 < l.length + 1 := by omega
    simp only [hl, h3, if_true, h2, Bool.false_eq_true, if_false]
    rfl
   ·have h3 : ¬ List.findIdx (fun b => b == 32) l + 1 < l.length + 1 := by omega
    simp only [hl, h3, if_false]
    rfl
theorem grow_St (w : World) (os : Array Obj) : St w (Sort.grow w os) [] := by
 refine ⟨⟨rfl, rfl, rfl, ?_, ?_⟩, by simp, by simp, List.Pairwise.nil⟩
 ·simp [Sort.grow]
 ·intro b hb
  show (w.heap ++ os)[b]? = _
  rw [Array.getElem?_append_left hb]
def Pz (W : World) : Prop := Lib.TabIs Tryz.prog W "internal/strconv.uint64pow10" .u64 Lib.pow10Tab
theorem Pz.of {w0 W : World} {L : List Res} (h : Pz w0) (hst : St w0 W L) : Pz W := by
 unfold Pz Lib.TabIs World.var? at *
 cases hg : Tryz.prog.globalNamed "internal/strconv.uint64pow10" with
 | none => rw [hg] at h; simp at h
 | some g =>
  rw [hg] at h
  simp only [Option.bind_some] at h ⊢
  cases hb : w0.heap[g]? with
  | none => rw [hb] at h; simp at h
  | some o => rw [(hst.below.block _ (Array.getElem?_eq_some_iff.1 hb).1).trans hb]; rw [hb] at h; exact h
theorem itoa_any (n : Int) (h0 : -9223372036854775808 ≤ n) (h1 : n ≤ 9223372036854775807) (w : World) (hP : Pz w) :
  Calls Tryz.prog 133 #[.int .i64 n] w fun e w' => e = .returned (.string (bsOf (Lib.itoa n))) ∧ St w w' [] := by
 refine (Tryz.strconv_Itoa n h0 h1 w hP).mono ?_
 rintro e w' ⟨rfl, k, os, rfl⟩
 refine ⟨rfl, ?_⟩
 exact ((St.refl w).drewN k).keep (grow_St _ os)
section
variable {P : Program} {ops : Array Oper} {rest : List Oper} {o : Oper} {a : Act} {W : World} {Q : Exit → Act → World → Prop} {d : Option Tmp}
theorem L_strTo (hd : o.dst = d) (hw : Region.wanted o (yielded ops a.tmps) = true) {t : TypeId} {x hi : Operand} (ho : o.op = .slice t x none (some hi) none) (hu : P.underlying t = some .string) {l : List UInt8} (hx : a.eval x = .string (bsOf l)) {k' : IntKind} {j' : Int} (hh : a.eval hi = .int k' j') (j : Nat) (hj' : j' = (j : Int)) (hjs : j ≤ l.length)
  (h : wpList P ops Q rest (a.put d (.string (bsOf (l.take j)))) W) : wpList P ops Q (o :: rest) a W := by
 subst hj'
 have hz : j ≤ (bsOf l).size := by rw [bsOf_size]; exact hjs
 have he : (bsOf l).extract 0 j = bsOf (l.take j) := by rw [bsOf_extract, List.drop_zero]
 refine L_val hd hw ?_ h
 unfold execOp
 simp only [ho, hx]
 simp [Instr.sliceAt, Instr.slice, Instr.sliceBounds, Instr.sliceBound, asIntOf, run_underlying hu, hh, hz, he]
theorem L_strFrom (hd : o.dst = d) (hw : Region.wanted o (yielded ops a.tmps) = true) {t : TypeId} {x lo : Operand} (ho : o.op = .slice t x (some lo) none none) (hu : P.underlying t = some .string) {l : List UInt8} (hx : a.eval x = .string (bsOf l)) {k : IntKind} {i' : Int} (hl : a.eval lo = .int k i') (i : Nat) (hi' : i' = (i : Int)) (his : i ≤ l.length)
  (h : wpList P ops Q rest (a.put d (.string (bsOf (l.drop i)))) W) : wpList P ops Q (o :: rest) a W := by
 subst hi'
 have hz : i ≤ (bsOf l).size := by rw [bsOf_size]; exact his
 have he : (bsOf l).extract i (bsOf l).size = bsOf (l.drop i) := by rw [bsOf_extract, bsOf_size, List.take_length]
 refine L_val hd hw ?_ h
 unfold execOp
 simp only [ho, hx]
 simp [Instr.sliceAt, Instr.slice, Instr.sliceBounds, Instr.sliceBound, asIntOf, run_underlying hu, hl, hz, he]
end
theorem bp_tmp3 {P : Program} {a : Act} {W : World} {fn : Func} {R : Ending → World → Prop} {p q q' : Tmp} (hr : fn.results = #[.tmp p, .tmp q, .tmp q']) (hd : a.defers = []) {v0 v v' : Value} (hp : a.tmps.toList[p]? = some v0) (hq : a.tmps.toList[q]? = some v) (hq2 : a.tmps.toList[q']? = some v') (hR : R (.returned (.tuple #[v0, v, v'])) W) : bodyPost P fn R .ret a W := by
 have h0 : a.tmps[p]?.getD undef = v0 := by
  have : a.tmps[p]? = some v0 := by simpa using hp
  simp [this]
 have h1 : a.tmps[q]?.getD undef = v := by
  have : a.tmps[q]? = some v := by simpa using hq
  simp [this]
 have h2 : a.tmps[q']?.getD undef = v' := by
  have : a.tmps[q']? = some v' := by simpa using hq2
  simp [this]
 refine bodyPost_ret ?_ hd hR
 simp [results, hr, h0, h1, h2]
set_option maxHeartbeats 4000000 in
theorem scut_any (s : List UInt8) (w : World) (hz : s.length ≤ 9223372036854775806) :
  Calls Tryz.prog 131 #[.string (bsOf s), .string (bsOf tSp)] w fun e w' => e = .returned (.tuple #[.string (bsOf (s.take (spI s))), .string (bsOf (s.drop (spI s + 1))), .bool (decide (spI s < s.length))]) ∧ St w w' [] := by
 have hst := St.refl w
 have hle := spI_le s
 have HI := Lib.hid (fun w' => by
  have := Tryz.stringslite_Index_one (bsOf s) 32 w'
  rw [bsOf_list, indexByte_sp] at this
  exact this)
 by_cases hs : spI s < s.length
 ·rw [decide_eq_true hs]
  rw [if_pos hs] at HI
  generalize spI s = i at *
  have HW := Lib.hid (show wrap64 ((i : Int) + ((bsOf tSp).size : Int)) = ((i + 1 : Nat) : Int) by
   rw [bsOf_size, show tSp.length = 1 from rfl]
   unfold wrap64
   omega)
  have p1 : (0 : Int) ≤ (i : Int) := by omega
  go_enter Tryz.func131, Tryz.ntmps131
  go_upto_region 1 with (go_big_may; fail)
  go_upto_region 2 with (go_big_may; (go_at_call 146; refine (HI.out _).mono ?_; rintro e Wi ⟨rfl, rfl⟩))
  go_upto_region 3 with (go_big_may; fail)
  refine wp_region_idx [(0, 0), (1, 0), (2, 0), (3, 0), (4, 0), (5, 0), (6, 0), (7, 0), (8, 0), (9, 2), (10, 2), (11, 2)] (by kernel_rfl) (by kernel_rfl) ?_
  replace hst := hst.drew
  refine idx_q rfl rfl ?_; go_wp2_with fail
  refine idx_q rfl rfl ?_; go_wp2_with fail
  refine idx_q rfl rfl ?_; go_wp2_with ((refine L_strTo (d := some 15) rfl rfl rfl Tryz.underlying9 (ev_tmp rfl) (ev_tmp rfl) i rfl (by omega) ?_))
  refine idx_q rfl rfl ?_; go_wp2_with fail
  refine idx_q rfl rfl ?_; go_wp2_with fail
  refine idx_q rfl rfl ?_; go_wp2_with fail
  refine idx_q rfl rfl ?_; go_wp2_with (fail)
  refine idx_q rfl rfl ?_; go_wp2_with fail
  refine idx_q rfl rfl ?_; go_wp2_with ((refine L_strFrom (d := some 21) rfl rfl rfl Tryz.underlying9 (ev_tmp rfl) (ev_tmp rfl) (i + 1) HW.out (by omega) ?_))
  refine idx_g rfl ?_; go_wp2_with fail; refine ⟨by (exact Below.refl _ _), ?_⟩
  refine idx_g rfl ?_; go_wp2_with fail; refine ⟨by (exact Below.refl _ _), ?_⟩
  refine idx_g rfl ?_; go_wp2_with fail; refine ⟨by (exact Below.refl _ _), ?_⟩
  refine idx_nil ?_
  go_wp2_with fail
  refine bp_tmp3 rfl rfl rfl rfl rfl ?_
  exact ⟨rfl, hst⟩
 ·rw [decide_eq_false hs]
  rw [if_neg hs] at HI
  have e1 : s.take (spI s) = s := List.take_of_length_le (by omega)
  have e2 : s.drop (spI s + 1) = [] := List.drop_eq_nil_of_le (by omega)
  rw [e1, e2]
  clear e1 e2
  go_enter Tryz.func131, Tryz.ntmps131
  go_upto_region 1 with (go_big_may; fail)
  go_upto_region 2 with (go_big_may; (go_at_call 146; refine (HI.out _).mono ?_; rintro e Wi ⟨rfl, rfl⟩))
  go_upto_region 4 with (go_big_may; fail)
  go_wp2_with (fail)
  refine bp_tmp3 rfl rfl rfl rfl rfl ?_
  exact ⟨rfl, hst⟩
theorem cut_any (s : List UInt8) (w : World) (hz : s.length ≤ 9223372036854775806) :
  Calls Tryz.prog 106 #[.string (bsOf s), .string (bsOf tSp)] w fun e w' => e = .returned (.tuple #[.string (bsOf (s.take (spI s))), .string (bsOf (s.drop (spI s + 1))), .bool (decide (spI s < s.length))]) ∧ St w w' [] := by
 have hst := St.refl w
 have HC := Lib.hid (fun w' => scut_any s w' hz)
 go_enter Tryz.func106, Tryz.ntmps106
 go_upto_region 1 with (go_big_may; fail)
 go_wp2_with ((go_at_call 131; refine (HC.out _).mono ?_; rintro e Wi ⟨rfl, hnew⟩; replace hst := hst.keep hnew))
 refine bp_tmp3 rfl rfl rfl rfl rfl ?_
 exact ⟨rfl, hst⟩
set_option maxHeartbeats 4000000 in
theorem errTx_any (r : Nat) (hr : r ≤ 9) (w : World) : Calls Tryz.prog 69 #[.int .i64 (r : Int)] w fun e w' => e = .returned (.string (bsOf (errTx r))) ∧ St w w' [] := by
 have hst := St.refl w
 have h10 : r = 0 ∨ r = 1 ∨ r = 2 ∨ r = 3 ∨ r = 4 ∨ r = 5 ∨ r = 6 ∨ r = 7 ∨ r = 8 ∨ r = 9 := by omega
 clear hr
 rcases h10 with rfl | rfl | rfl | rfl | rfl | rfl | rfl | rfl | rfl | rfl
 all_goals
  go_enter Tryz.func69, Tryz.ntmps69
  go_wp2_with fail
  go_ret
  exact ⟨rfl, hst⟩
def begN (s p : List UInt8) : Bool := decide (s.take p.length = p)
end Go.Proofs.YtaebeemnipafbaaGreatDoor

set_option maxRecDepth 20000
set_option linter.unusedSimpArgs false
set_option linter.unusedVariables false
namespace Go.Proofs.YtaebeemnipafbaaGreatDoor
open Go.ChangeShapes Go.WideShapes Go.ChangeAt Go.RowKit Go.Deep
abbrev Hd := Int × Dig × Dig × Dig
def Hd.cells (h : Hd) : List Value := hdCells h.1 h.2.1 h.2.2.1 h.2.2.2
abbrev DPiece := Option Addr × Nat × Nat × List Dig
def DPiece.v (p : DPiece) : Value := .slice p.1 p.2.1 p.2.2.1
section
variable {P : Program} {H : Type} {enc : TypeId × Value → H} {W : World} {base : Nat} {spare : Nat → Bool} {held : Bool}
end
end Go.Proofs.YtaebeemnipafbaaGreatDoor

set_option maxRecDepth 20000
set_option linter.unusedSimpArgs false
set_option linter.unusedVariables false
namespace Go.Proofs.YtaebeemnipafbaaGreatDoor
open Go.RowKit
section
variable {P : Program} {ops : Array Oper} {rest : List Oper} {o : Oper} {a : Act} {W : World} {Q : Exit → Act → World → Prop} {d : Option Tmp}
theorem L_fieldD (hd : o.dst = d) (hw : Region.wanted o (yielded ops a.tmps) = true) {T : TypeId} {x : Operand} {k : Nat} (ho : o.op = .field T x k) {fs : Array Field} (hu : P.underlying T = some (.struct fs)) {fl : Field} (hf : fs[k]? = some fl) {cs : Array Value} (hx : a.eval x = .agg cs)
  {e : TypeId} (ht : P.underlying fl.type = some (.array 32 e)) {z : Value} {b : Nat} (hi : ElemIs P fl.type z 32 b) {q : Dig} (hc : (cs.toList.drop fl.offset).take 32 = q.arr.toList)
  (h : wpList P ops Q rest (a.put d (.agg q.arr)) W) : wpList P ops Q (o :: rest) a W := by
 refine L_val hd hw ?_ h
 unfold execOp
 simp only [ho, hx]
 simp [Instr.field, run_underlying hu, hf, asAgg, run_partD ht hi hc]
end
end Go.Proofs.YtaebeemnipafbaaGreatDoor

set_option maxRecDepth 20000
set_option linter.unusedSimpArgs false
set_option linter.unusedVariables false
namespace Go.Proofs.YtaebeemnipafbaaGreatDoor
open Go.RowKit
attribute [local simp] hdArr_size
theorem slr_range {W : World} {g o : Nat} {x : Dig} (h : W.rangeAt g o x.arr.toList) : SlR W (some ⟨g, o, none⟩) 32 32 1 (bytesL x.l) := by
 rw [← Dig.toList]
 exact ⟨by simp [Dig.size], Nat.le_refl _, by decide, fun _ => ⟨g, o, rfl, h⟩⟩
def headT (n : Nat) (x y : Dig) : List UInt8 := Lib.decDigits n ++ [32] ++ hexL x.l ++ [32] ++ hexL y.l
theorem itoa_nat (n : Nat) : Lib.itoa (n : Int) = Lib.decDigits n := by
 unfold Lib.itoa
 rw [if_neg (by omega), Int.toNat_natCast]
theorem decDigits_le (n : Nat) : (Lib.decDigits n).length ≤ n + 1 := by
 induction n using Nat.strongRecOn with
 | ind n ih =>
 rw [Lib.decDigits]
 by_cases h : n < 10
 ·rw [dif_pos h]; simp
 ·rw [dif_neg h, List.length_append, List.length_singleton]
  have := ih (n / 10) (by omega)
  omega
theorem hexL_dig (x : Dig) : (hexL x.l).length = 64 := by rw [length_hexL, x.h]
set_option maxHeartbeats 4000000 in
set_option maxRecDepth 100000 in
theorem headed_any (n : Nat) (x y z : Dig) (hn : n ≤ 4294967296) (w : World) (hP : Pz w) : Calls Tryz.prog 109 #[.agg (hdArr (n : Int) x y z)] w fun e w' => e = .returned (.string (bsOf (headT n x y))) ∧ St w w' [] := by
 have hst := St.refl w
 have HP := Lib.hid hP
 have HN := Lib.hid (fun (w' : World) (h : Pz w') => by
  have := itoa_any (n : Int) (by omega) (by omega) w' h
  rw [itoa_nat] at this
  exact this)
 have HX := Lib.hid (fun (A : Option Addr) (w' : World) (h : SlR w' A 32 32 1 (bytesL x.l)) => show Calls Tryz.prog 134 #[.slice A 32 32] w' fun e w2 => e = .returned (.string (bsOf (hexL x.l))) ∧ St w' w2 [] from hex_any x.l A 32 32 w' h (by decide))
 have HY := Lib.hid (fun (A : Option Addr) (w' : World) (h : SlR w' A 32 32 1 (bytesL y.l)) => show Calls Tryz.prog 134 #[.slice A 32 32] w' fun e w2 => e = .returned (.string (bsOf (hexL y.l))) ∧ St w' w2 [] from hex_any y.l A 32 32 w' h (by decide))
 have hd1 := decDigits_le n
 have hx1 := hexL_dig x
 have hy1 := hexL_dig y
 unfold headT
 generalize Lib.decDigits n = dn at *
 clear hP
 go_enter Tryz.func109, Tryz.ntmps109
 go_upto_region 1 with (go_big_may; (refine L_boxA (d := some 1) rfl rfl rfl (ev_tmp rfl) ?_; (try clear hnew); intro g1 W1 hnew; replace hst := hst.trans hnew; simp only [List.cons_append, List.nil_append] at hst))
 (try clear hnew)
 refine wp_region_idx [(0, 0), (1, 0), (4, 0), (5, 0), (9, 0), (10, 0), (2, 2), (3, 0), (6, 2), (7, 0), (8, 0), (11, 2), (12, 2), (13, 2)] (by kernel_rfl) (by kernel_rfl) ?_
 replace hst := hst.drew
 refine idx_qf rfl rfl (by kernel_rfl) ?_; go_wp2_with fail
 refine idx_q rfl rfl ?_; go_wp2_with ((refine L_load1 (d := some 4) rfl rfl rfl (by rfl) Tryz.underlying3 rfl (by (exact cell_of (hst.get 0 rfl) hdArr_0)) ?_))
 refine idx_qf rfl rfl (by kernel_rfl) ?_; go_wp2_with fail
 refine idx_q rfl rfl ?_; go_wp2_with ((refine L_sliceMid (d := some 8) rfl rfl rfl (by rfl) Tryz.underlying32 el_uint8 (hdArr_root (hst.get 0 rfl)) (Dig.size _) (by decide) ?_; intro hs8; clear hs8))
 refine idx_qf rfl rfl (by kernel_rfl) ?_; go_wp2_with fail
 refine idx_q rfl rfl ?_; go_wp2_with ((refine L_sliceMid (d := some 13) rfl rfl rfl (by rfl) Tryz.underlying32 el_uint8 (hdArr_map (hst.get 0 rfl)) (Dig.size _) (by decide) ?_; intro hs13; clear hs13))
 refine idx_g rfl ?_; go_wp2_with ((go_at_call 133; (try clear hnew); refine (HN.out _ (HP.out.of hst)).mono ?_; rintro e Wk2 ⟨rfl, hnew⟩; replace hst := hst.keep hnew)); refine ⟨by (exact hnew.below), ?_⟩
 refine idx_sa rfl rfl (ev_tmp rfl) ev_const ?_; go_wp2_with ((refine L_strAdd (d := some 6) rfl rfl rfl (u := bsOf [32]) (ev_tmp rfl) ev_const (by simp only [bsOf_size, List.length_append, List.length_cons, List.length_nil]; omega) (bsOf_app _ _) ?_))
 refine idx_g rfl ?_; go_wp2_with ((go_at_call_of 134 (Value.slice (some ⟨g1, 1, none⟩) 32 32); (try clear hnew); have h1 := slr_range (hdArr_root (hst.get 0 rfl)); refine (HX.out _ _ h1).mono ?_; clear h1; rintro e Wx ⟨rfl, hnew⟩; replace hst := hst.keep hnew)); refine ⟨by (exact hnew.below), ?_⟩
 refine idx_sa rfl rfl (ev_tmp rfl) (ev_tmp rfl) ?_; go_wp2_with ((refine L_strAdd (d := some 10) rfl rfl rfl (ev_tmp rfl) (ev_tmp rfl) (by simp only [bsOf_size, List.length_append, List.length_cons, List.length_nil]; omega) (bsOf_app _ _) ?_))
 refine idx_sa rfl rfl (ev_tmp rfl) ev_const ?_; go_wp2_with ((refine L_strAdd (d := some 11) rfl rfl rfl (u := bsOf [32]) (ev_tmp rfl) ev_const (by simp only [bsOf_size, List.length_append, List.length_cons, List.length_nil]; omega) (bsOf_app _ _) ?_))
 refine idx_g rfl ?_; go_wp2_with ((go_at_call_of 134 (Value.slice (some ⟨g1, 33, none⟩) 32 32); (try clear hnew); have h1 := slr_range (hdArr_map (hst.get 0 rfl)); refine (HY.out _ _ h1).mono ?_; clear h1; rintro e Wx ⟨rfl, hnew⟩; replace hst := hst.keep hnew)); refine ⟨by (exact hnew.below), ?_⟩
 refine idx_g rfl ?_; go_wp2_with ((refine L_strAdd (d := some 15) rfl rfl rfl (ev_tmp rfl) (ev_tmp rfl) (by simp only [bsOf_size, List.length_append, List.length_cons, List.length_nil]; omega) (bsOf_app _ _) ?_)); refine ⟨by (exact Below.refl _ _), ?_⟩
 refine idx_g rfl ?_; go_wp2_with fail; refine ⟨by (exact Below.refl _ _), ?_⟩
 refine idx_nil ?_
 go_wp2_with fail
 go_ret
 refine ⟨?_, hst.forget⟩
 simp
end Go.Proofs.YtaebeemnipafbaaGreatDoor

set_option maxRecDepth 20000
set_option linter.unusedSimpArgs false
set_option linter.unusedVariables false
namespace Go.Proofs.YtaebeemnipafbaaGreatDoor
open Go.RowKit
def hx64 (l : List UInt8) : Prop := l.length = 64 ∧ ∀ j, j < 32 → pairOk l j
def keyD (l : List UInt8) : Dig := ⟨decL l 32, length_decL l 32⟩
theorem first_bad (p : Nat → Prop) : ∀ m : Nat, ∃ t, t ≤ m ∧ (∀ j, j < t → p j) ∧ (t < m → ¬ p t)
 | 0 => ⟨0, Nat.le_refl _, fun j h => absurd h (by omega), fun h => absurd h (by omega)⟩
 | m + 1 => by
  obtain ⟨t, h1, h2, h3⟩ := first_bad p m
  by_cases ht : t < m
  ·exact ⟨t, by omega, h2, fun _ => h3 ht⟩
  ·obtain rfl : t = m := by omega
   by_cases hp : p t
   ·exact ⟨t + 1, Nat.le_refl _, fun j hj => by
     by_cases hjt : j = t
     ·rw [hjt]; exact hp
     ·exact h2 j (by omega), fun h => absurd h (by omega)⟩
   ·exact ⟨t, by omega, h2, fun _ => hp⟩
theorem unhexP_yes (l : List UInt8) (h : hx64 l) (w : World) : Calls Tryz.prog 132 #[.string (bsOf l)] w fun e w' => ∃ A c, e = .returned (.tuple #[.slice A 32 c, .nilIface]) ∧ St w w' [.row A 32 c 5 1 (bytesL (keyD l).l)] := by
 have hz := bsOf_size l
 have := unhex_any (bsOf l) 32 32 w (by rw [hz, h.1]; decide) (by rw [hz, h.1]) (Nat.le_refl _) (fun j hj => by rw [bsOf_list]; exact h.2 j hj) (fun h => absurd h (by omega))
 rw [bsOf_list] at this
 refine this.mono ?_
 rintro e w' (⟨_, A, c, rfl, hst⟩ | ⟨hlt, _⟩)
 ·exact ⟨A, c, rfl, hst⟩
 ·omega
theorem unhexP_no (l : List UInt8) (h : ¬ hx64 l) (hl : l.length ≤ 140737488355000) :
  (∃ m bs, m ≠ 32 ∧ ∀ w, Calls Tryz.prog 132 #[.string (bsOf l)] w fun e w' => ∃ A c, e = .returned (.tuple #[.slice A m c, .nilIface]) ∧ St w w' [.row A m c 5 1 bs]) ∨
  ∀ w, Calls Tryz.prog 132 #[.string (bsOf l)] w fun e w' => e = .returned (.tuple #[.slice none 0 0, errV 1]) ∧ St w w' [] := by
 have hz := bsOf_size l
 by_cases ho : l.length % 2 = 1
 ·exact .inr fun w => unhex_odd (bsOf l) w (by rw [hz]; exact hl) (by rw [hz]; exact ho)
 ·obtain ⟨t, h1, h2, h3⟩ := first_bad (pairOk l) (l.length / 2)
  have hc := fun w => unhex_any (bsOf l) (l.length / 2) t w (by rw [hz]; exact hl) (by rw [hz]; omega) h1 (fun j hj => by rw [bsOf_list]; exact h2 j hj) (fun ht => by rw [bsOf_list]; exact h3 ht)
  rw [bsOf_list] at hc
  by_cases ht : t = l.length / 2
  ·refine .inl ⟨l.length / 2, bytesL (decL l (l.length / 2)), fun hm => h ⟨by omega, fun j hj => h2 j (by omega)⟩, fun w => (hc w).mono ?_⟩
   rintro e w' (⟨_, A, c, rfl, hst⟩ | ⟨h4, _⟩)
   ·exact ⟨A, c, rfl, hst⟩
   ·omega
  ·refine .inr fun w => (hc w).mono ?_
   rintro e w' (⟨h4, _⟩ | ⟨_, rfl, hst⟩)
   ·exact absurd h4 ht
   ·exact ⟨rfl, hst⟩
end Go.Proofs.YtaebeemnipafbaaGreatDoor

set_option maxRecDepth 20000
set_option linter.unusedSimpArgs false
set_option linter.unusedVariables false
namespace Go.Proofs.YtaebeemnipafbaaGreatDoor
def tagN (key : List UInt8) (n : Int) (x y : Dig) : Dig := macN key (sz4 n ++ (x.l ++ y.l))
end Go.Proofs.YtaebeemnipafbaaGreatDoor

set_option linter.unusedSimpArgs false
set_option linter.unusedVariables false
namespace Go.Proofs.YtaebeemnipafbaaGreatDoor
def longN (i n : Nat) : Nat :=
 if _h : n < 2 then 0
 else if i < halfN n then longN i (halfN n) + 1
 else longN (i - halfN n) (n - halfN n) + 1
termination_by n
decreasing_by
 ·exact halfN_lt n (by omega)
 ·have := halfN_pos n
  omega
theorem longN_one (i : Nat) {n : Nat} (h : n < 2) : longN i n = 0 := by rw [longN, dif_pos h]
theorem longN_left {i n : Nat} (h : 2 ≤ n) (hi : i < halfN n) : longN i n = longN i (halfN n) + 1 := by rw [longN, dif_neg (by omega), if_pos hi]
theorem longN_right {i n : Nat} (h : 2 ≤ n) (hi : ¬ i < halfN n) : longN i n = longN (i - halfN n) (n - halfN n) + 1 := by rw [longN, dif_neg (by omega), if_neg hi]
def sidesN (i n : Nat) : List Bool :=
 if _h : n < 2 then []
 else if i < halfN n then true :: sidesN i (halfN n)
 else false :: sidesN (i - halfN n) (n - halfN n)
termination_by n
decreasing_by
 ·exact halfN_lt n (by omega)
 ·have := halfN_pos n
  omega
theorem sidesN_one (i : Nat) {n : Nat} (h : n < 2) : sidesN i n = [] := by rw [sidesN, dif_pos h]
theorem sidesN_left {i n : Nat} (h : 2 ≤ n) (hi : i < halfN n) : sidesN i n = true :: sidesN i (halfN n) := by rw [sidesN, dif_neg (by omega), if_pos hi]
theorem sidesN_right {i n : Nat} (h : 2 ≤ n) (hi : ¬ i < halfN n) : sidesN i n = false :: sidesN (i - halfN n) (n - halfN n) := by rw [sidesN, dif_neg (by omega), if_neg hi]
theorem length_sidesN : ∀ (n i : Nat), (sidesN i n).length = longN i n := by
 intro n
 induction n using Nat.strongRecOn with
 | ind n ih =>
 intro i
 by_cases h : n < 2
 ·rw [sidesN_one i h, longN_one i h]
  rfl
 ·have h1 := halfN_lt n (by omega)
  have h2 := halfN_pos n
  by_cases hi : i < halfN n
  ·rw [sidesN_left (by omega) hi, longN_left (by omega) hi, List.length_cons, ih _ h1]
  ·rw [sidesN_right (by omega) hi, longN_right (by omega) hi, List.length_cons, ih _ (by omega)]
def pathN (ls : List Dig) (i : Nat) : List Dig :=
 if _h : ls.length < 2 then []
 else if i < halfN ls.length then pathN (ls.take (halfN ls.length)) i ++ [rootN (ls.drop (halfN ls.length))]
 else pathN (ls.drop (halfN ls.length)) (i - halfN ls.length) ++ [rootN (ls.take (halfN ls.length))]
termination_by ls.length
decreasing_by
 ·have := halfN_lt ls.length (by omega)
  rw [List.length_take]
  omega
 ·have := halfN_pos ls.length
  rw [List.length_drop]
  omega
theorem pathN_one {ls : List Dig} (i : Nat) (h : ls.length < 2) : pathN ls i = [] := by rw [pathN, dif_pos h]
theorem pathN_left {ls : List Dig} {i : Nat} (h : 2 ≤ ls.length) (hi : i < halfN ls.length) : pathN ls i = pathN (ls.take (halfN ls.length)) i ++ [rootN (ls.drop (halfN ls.length))] := by
 rw [pathN, dif_neg (by omega), if_pos hi]
theorem pathN_right {ls : List Dig} {i : Nat} (h : 2 ≤ ls.length) (hi : ¬ i < halfN ls.length) : pathN ls i = pathN (ls.drop (halfN ls.length)) (i - halfN ls.length) ++ [rootN (ls.take (halfN ls.length))] := by
 rw [pathN, dif_neg (by omega), if_neg hi]
theorem length_pathN : ∀ (n : Nat) (ls : List Dig) (i : Nat), ls.length = n → (pathN ls i).length = longN i n := by
 intro n
 induction n using Nat.strongRecOn with
 | ind n ih =>
 intro ls i hl
 by_cases h : n < 2
 ·rw [pathN_one i (by omega), longN_one i h]
  rfl
 ·have h1 := halfN_lt n (by omega)
  have h2 := halfN_pos n
  by_cases hi : i < halfN n
  ·rw [pathN_left (by omega) (by rw [hl]; exact hi), longN_left (by omega) hi, List.length_append, hl, ih _ h1 (ls.take (halfN n)) i (by rw [List.length_take]; omega), List.length_singleton]
  ·rw [pathN_right (by omega) (by rw [hl]; exact hi), longN_right (by omega) hi, List.length_append, hl, ih (n - halfN n) (by omega) (ls.drop (halfN n)) (i - halfN n) (by rw [List.length_drop]; omega), List.length_singleton]
def foldN (l : Dig) : List (Dig × Bool) → Dig
 | [] => l
 | (p, s) :: r => foldN (if s then nodeN l p else nodeN p l) r
theorem foldN_append (l : Dig) (a b : List (Dig × Bool)) : foldN l (a ++ b) = foldN (foldN l a) b := by
 induction a generalizing l with
 | nil => rfl
 | cons x a ih =>
  obtain ⟨p, s⟩ := x
  exact ih _
def foldedN (l : Dig) (i n : Nat) (path : List Dig) : Dig := foldN l (path.zip (sidesN i n).reverse)
end Go.Proofs.YtaebeemnipafbaaGreatDoor

set_option maxRecDepth 20000
set_option linter.unusedSimpArgs false
set_option linter.unusedVariables false
namespace Go.Proofs.YtaebeemnipafbaaGreatDoor
def plN (n m : Nat) (own : Bool) : Nat :=
 if m = n then (if own then 0 else 1)
 else if _h : n < 2 then 0
 else if m ≤ halfN n then plN (halfN n) m own + 1
 else plN (n - halfN n) (m - halfN n) false + 1
termination_by n
decreasing_by
 ·exact halfN_lt n (by omega)
 ·have := halfN_pos n
  omega
theorem plN_all (n : Nat) (own : Bool) : plN n n own = if own then 0 else 1 := by rw [plN, if_pos rfl]
theorem plN_left {n m : Nat} {own : Bool} (h : m ≠ n) (h2 : 2 ≤ n) (hk : m ≤ halfN n) : plN n m own = plN (halfN n) m own + 1 := by rw [plN, if_neg h, dif_neg (by omega), if_pos hk]
theorem plN_right {n m : Nat} {own : Bool} (h : m ≠ n) (h2 : 2 ≤ n) (hk : ¬ m ≤ halfN n) : plN n m own = plN (n - halfN n) (m - halfN n) false + 1 := by rw [plN, if_neg h, dif_neg (by omega), if_neg hk]
theorem plN_le : ∀ (n m : Nat) (own : Bool), plN n m own ≤ n + 1 := by
 intro n
 induction n using Nat.strongRecOn with
 | ind n ih =>
 intro m own
 by_cases h : m = n
 ·subst h
  rw [plN_all]
  split <;> omega
 ·by_cases h2 : n < 2
  ·rw [plN, if_neg h, dif_pos h2]
   omega
  ·have h1 := halfN_lt n (by omega)
   have h3 := halfN_pos n
   by_cases hk : m ≤ halfN n
   ·have := ih _ h1 m own
    rw [plN_left h (by omega) hk]
    omega
   ·have := ih (n - halfN n) (by omega) (m - halfN n) false
    rw [plN_right h (by omega) hk]
    omega
def gpN (ls : List Dig) (m : Nat) (own : Bool) : List Dig :=
 if m = ls.length then (if own then [] else [rootN ls])
 else if _h : ls.length < 2 then []
 else if m ≤ halfN ls.length then gpN (ls.take (halfN ls.length)) m own ++ [rootN (ls.drop (halfN ls.length))]
 else gpN (ls.drop (halfN ls.length)) (m - halfN ls.length) false ++ [rootN (ls.take (halfN ls.length))]
termination_by ls.length
decreasing_by
 ·have := halfN_lt ls.length (by omega)
  rw [List.length_take]
  omega
 ·have := halfN_pos ls.length
  rw [List.length_drop]
  omega
theorem gpN_all (ls : List Dig) {m : Nat} (own : Bool) (h : m = ls.length) : gpN ls m own = if own then [] else [rootN ls] := by rw [gpN, if_pos h]
theorem gpN_left {ls : List Dig} {m : Nat} {own : Bool} (h : m ≠ ls.length) (h2 : 2 ≤ ls.length) (hk : m ≤ halfN ls.length) : gpN ls m own = gpN (ls.take (halfN ls.length)) m own ++ [rootN (ls.drop (halfN ls.length))] := by
 rw [gpN, if_neg h, dif_neg (by omega), if_pos hk]
theorem gpN_right {ls : List Dig} {m : Nat} {own : Bool} (h : m ≠ ls.length) (h2 : 2 ≤ ls.length) (hk : ¬ m ≤ halfN ls.length) : gpN ls m own = gpN (ls.drop (halfN ls.length)) (m - halfN ls.length) false ++ [rootN (ls.take (halfN ls.length))] := by
 rw [gpN, if_neg h, dif_neg (by omega), if_neg hk]
theorem length_gpN : ∀ (n : Nat) (ls : List Dig) (m : Nat) (own : Bool), ls.length = n → (gpN ls m own).length = plN n m own := by
 intro n
 induction n using Nat.strongRecOn with
 | ind n ih =>
 intro ls m own hl
 by_cases h : m = n
 ·subst h
  rw [gpN_all ls own hl.symm, plN_all]
  split <;> rfl
 ·by_cases h2 : n < 2
  ·rw [gpN, if_neg (by omega), dif_pos (by omega), plN, if_neg h, dif_pos h2]
   rfl
  ·have h1 := halfN_lt n (by omega)
   have h3 := halfN_pos n
   by_cases hk : m ≤ halfN n
   ·rw [gpN_left (by omega) (by omega) (by rw [hl]; exact hk), plN_left h (by omega) hk, List.length_append, hl, ih _ h1 (ls.take (halfN n)) m own (by rw [List.length_take]; omega), List.length_singleton]
   ·rw [gpN_right (by omega) (by omega) (by rw [hl]; exact hk), plN_right h (by omega) hk, List.length_append, hl, ih (n - halfN n) (by omega) (ls.drop (halfN n)) (m - halfN n) false (by rw [List.length_drop]; omega), List.length_singleton]
def grN (n m : Nat) (own : Bool) (old : Dig) (p : List Dig) : Dig × Dig :=
 if m = n then (if own then (old, old) else (p.getLastD zeroD, p.getLastD zeroD))
 else if _h : n < 2 then (old, old)
 else if m ≤ halfN n then
  ((grN (halfN n) m own old p.dropLast).1, nodeN (grN (halfN n) m own old p.dropLast).2 (p.getLastD zeroD))
 else
  (nodeN (p.getLastD zeroD) (grN (n - halfN n) (m - halfN n) false old p.dropLast).1, nodeN (p.getLastD zeroD) (grN (n - halfN n) (m - halfN n) false old p.dropLast).2)
termination_by n
decreasing_by
 all_goals first | exact halfN_lt n (by omega) | (have := halfN_pos n; omega)
theorem grN_all (n : Nat) (own : Bool) (old : Dig) (p : List Dig) : grN n n own old p = if own then (old, old) else (p.getLastD zeroD, p.getLastD zeroD) := by rw [grN, if_pos rfl]
theorem grN_left {n m : Nat} {own : Bool} {old : Dig} (h : m ≠ n) (h2 : 2 ≤ n) (hk : m ≤ halfN n) (q : List Dig) (d : Dig) : grN n m own old (q ++ [d]) = ((grN (halfN n) m own old q).1, nodeN (grN (halfN n) m own old q).2 d) := by
 rw [grN, if_neg h, dif_neg (by omega), if_pos hk]
 simp
theorem grN_right {n m : Nat} {own : Bool} {old : Dig} (h : m ≠ n) (h2 : 2 ≤ n) (hk : ¬ m ≤ halfN n) (q : List Dig) (d : Dig) : grN n m own old (q ++ [d]) = (nodeN d (grN (n - halfN n) (m - halfN n) false old q).1, nodeN d (grN (n - halfN n) (m - halfN n) false old q).2) := by
 rw [grN, if_neg h, dif_neg (by omega), if_neg hk]
 simp
theorem root_take {ls : List Dig} {m : Nat} (h2 : 2 ≤ ls.length) (hk : ¬ m ≤ halfN ls.length) (hm : m ≤ ls.length) :
  rootN (ls.take m) = nodeN (rootN (ls.take (halfN ls.length))) (rootN ((ls.drop (halfN ls.length)).take (m - halfN ls.length))) := by
 have h3 := halfN_pos ls.length
 have hl : (ls.take m).length = m := by rw [List.length_take]; omega
 have hh : halfN m = halfN ls.length := by
  have hu : ls.length - 1 < 2 ^ (Nat.log2 (ls.length - 1) + 1) := Nat.lt_log2_self
  refine halfN_of (Nat.log2 (ls.length - 1)) rfl (by omega) ?_
  unfold halfN
  rw [Nat.pow_succ] at hu
  omega
 rw [rootN_more (ls.take m) (by omega), hl, hh, List.take_take, Nat.min_eq_left (by omega), List.drop_take]
theorem grow_proves : ∀ (n : Nat) (ls : List Dig) (m : Nat) (own : Bool) (old : Dig), ls.length = n → 1 ≤ m → m ≤ n → (own = true → old = rootN (ls.take m)) → grN n m own old (gpN ls m own) = (rootN (ls.take m), rootN ls) := by
 intro n
 induction n using Nat.strongRecOn with
 | ind n ih =>
 intro ls m own old hl h1 hm ho
 by_cases h : m = n
 ·subst h
  rw [gpN_all ls own hl.symm, grN_all, List.take_of_length_le (by omega)]
  cases own with
  | true =>
   have := ho rfl
   rw [List.take_of_length_le (by omega)] at this
   simp [this]
  | false => simp
 ·have h2 : 2 ≤ n := by omega
  have hlt := halfN_lt n h2
  have hps := halfN_pos n
  by_cases hk : m ≤ halfN n
  ·have hl' : (ls.take (halfN n)).length = halfN n := by rw [List.length_take]; omega
   have ht : (ls.take (halfN n)).take m = ls.take m := by rw [List.take_take, Nat.min_eq_left hk]
   have := ih _ hlt (ls.take (halfN n)) m own old hl' h1 hk (fun e => by rw [ht]; exact ho e)
   rw [gpN_left (by omega) (by omega) (by rw [hl]; exact hk), hl, grN_left h h2 hk, this, ht, rootN_more ls (by omega), hl]
  ·have hl' : (ls.drop (halfN n)).length = n - halfN n := by rw [List.length_drop, hl]
   have := ih (n - halfN n) (by omega) (ls.drop (halfN n)) (m - halfN n) false old hl' (by omega) (by omega) (fun e => by cases e)
   rw [gpN_right (by omega) (by omega) (by rw [hl]; exact hk), hl, grN_right h h2 hk, this, root_take (m := m) (by omega) (by rw [hl]; exact hk) (by omega), rootN_more ls (by omega), hl]
end Go.Proofs.YtaebeemnipafbaaGreatDoor

set_option linter.unusedSimpArgs false
set_option linter.unusedVariables false
namespace Go.Proofs.YtaebeemnipafbaaGreatDoor
theorem digsL_append (a b : List Dig) : digsL (a ++ b) = digsL a ++ digsL b := by simp [digsL]
end Go.Proofs.YtaebeemnipafbaaGreatDoor

set_option maxRecDepth 20000
set_option linter.unusedSimpArgs false
set_option linter.unusedVariables false
namespace Go.Proofs.YtaebeemnipafbaaGreatDoor
open Go.RowKit
end Go.Proofs.YtaebeemnipafbaaGreatDoor

set_option linter.unusedSimpArgs false
set_option linter.unusedVariables false
namespace Go.Proofs.YtaebeemnipafbaaGreatDoor
structure SwapAt {α : Type} (l l' : List α) (i : Nat) : Prop where
 len : l'.length = l.length
 at_ : ∀ k, k < l.length → l'[k]? = if k < i ∨ l.length ≤ k + i then l[l.length - 1 - k]? else l[k]?
theorem SwapAt.start {α : Type} (l : List α) : SwapAt l l 0 := ⟨rfl, fun k hk => by rw [if_neg (by omega)]⟩
theorem SwapAt.step {α : Type} {l l' : List α} {i : Nat} (h : SwapAt l l' i) (hi : 2 * i + 1 < l.length) {x y : α} (hx : l'[i]? = some x) (hy : l'[l.length - 1 - i]? = some y) : SwapAt l ((l'.set i y).set (l.length - 1 - i) x) (i + 1) := by
 refine ⟨by rw [List.length_set, List.length_set, h.len], fun k hk => ?_⟩
 have h1 := h.at_ i (by omega)
 have h2 := h.at_ (l.length - 1 - i) (by omega)
 rw [if_neg (by omega), hx] at h1
 rw [if_neg (by omega), hy] at h2
 rw [List.getElem?_set, List.getElem?_set, List.length_set, h.len]
 by_cases hkj : l.length - 1 - i = k
 ·rw [if_pos hkj, if_pos (by omega), if_pos (by omega), h1]
  congr 1
  omega
 ·rw [if_neg hkj]
  by_cases hki : i = k
  ·subst hki
   rw [if_pos rfl, if_pos (by omega), if_pos (by omega), h2]
  ·rw [if_neg hki, h.at_ k hk]
   by_cases hc : k < i ∨ l.length ≤ k + i
   ·rw [if_pos hc, if_pos (by omega)]
   ·rw [if_neg hc, if_neg (by omega)]
theorem SwapAt.done {α : Type} {l l' : List α} {i : Nat} (h : SwapAt l l' i) (hi : l.length ≤ 2 * i + 1) : l' = l.reverse := by
 apply List.ext_getElem?
 intro k
 by_cases hk : k < l.length
 ·rw [h.at_ k hk, List.getElem?_reverse hk]
  by_cases hc : k < i ∨ l.length ≤ k + i
  ·rw [if_pos hc]
  ·rw [if_neg hc]
   congr 1
   omega
 ·rw [List.getElem?_eq_none (by rw [h.len]; omega), List.getElem?_eq_none (by rw [List.length_reverse]; omega)]
theorem digsL_cons (d : Dig) (l : List Dig) : digsL (d :: l) = d.arr.toList ++ digsL l := by simp [digsL, Dig.toList]
theorem digsL_set : ∀ (l : List Dig) (i : Nat) (d : Dig), i < l.length → (digsL l).take (i * 32) ++ d.arr.toList ++ (digsL l).drop (i * 32 + 32) = digsL (l.set i d)
 | [], i, d, h => by simp at h
 | x :: l, 0, d, _ => by
  rw [digsL_cons, List.set_cons_zero, digsL_cons, Nat.zero_mul, Nat.zero_add, List.take_zero, List.nil_append, List.drop_append_of_le_length (by rw [Array.length_toList, Dig.size]; exact Nat.le_refl _)]
  rw [List.drop_eq_nil_of_le (by rw [Array.length_toList, Dig.size]; exact Nat.le_refl _), List.nil_append]
 | x :: l, i + 1, d, h => by
  have hs : x.arr.toList.length = 32 := by rw [Array.length_toList, Dig.size]
  have ih := digsL_set l i d (by simpa using h)
  rw [digsL_cons, List.set_cons_succ, digsL_cons, ← ih, List.take_append, List.drop_append, hs]
  have e1 : x.arr.toList.take ((i + 1) * 32) = x.arr.toList := List.take_of_length_le (by omega)
  have e2 : x.arr.toList.drop ((i + 1) * 32 + 32) = [] := List.drop_eq_nil_of_le (by omega)
  rw [e1, e2, show (i + 1) * 32 - 32 = i * 32 by omega, show (i + 1) * 32 + 32 - 32 = i * 32 + 32 by omega, List.nil_append]
  simp only [List.append_assoc]
def boolsL (l : List Bool) : List Value := l.map fun b => .bool b
theorem length_boolsL (l : List Bool) : (boolsL l).length = l.length := by simp [boolsL]
theorem boolsL_append (a b : List Bool) : boolsL (a ++ b) = boolsL a ++ boolsL b := by simp [boolsL]
theorem boolsL_set (l : List Bool) (i : Nat) (b : Bool) : (boolsL l).set i (.bool b) = boolsL (l.set i b) := by simp [boolsL, List.map_set]
end Go.Proofs.YtaebeemnipafbaaGreatDoor

set_option maxRecDepth 20000
set_option linter.unusedSimpArgs false
set_option linter.unusedVariables false
namespace Go.Proofs.YtaebeemnipafbaaGreatDoor
open Go.RowKit
theorem el_bool : ElemIs Tryz.prog 4 (.bool false) 1 1 := by unfold ElemIs; kernel_rfl
set_option maxHeartbeats 2000000 in
theorem revB_any (l : List Bool) (n c : Nat) (A : Option Addr) (w0 w : World) (L : List Res) (hst : St w0 w (.row A n c 4 1 (boolsL l) :: L)) :
  Calls Tryz.prog 98 #[.slice A n c] w fun e w' => e = .returned (.tuple #[]) ∧ St w0 w' (.row A n c 4 1 (boolsL l.reverse) :: L) := by
 have hl : l.length = n := by have := (hst.sl 0 rfl).1; rw [length_boolsL] at this; omega
 have hcap := (hst.sl 0 rfl).2.1
 have hmax := (hst.sl 0 rfl).2.2.1
 simp only [maxLen] at hmax
 have Hl := Lib.hid hl
 clear hl
 go_enter Tryz.func98, Tryz.ntmps98
 go_wp2_with (fail)
 go_loopg [2, 3] n (fun gk s2 s3 wr => ∃ (i : Nat) (l' : List Bool), Hid (i + gk = n) ∧ Hid (SwapAt l l' i) ∧ s2 = .int .i64 (i : Int) ∧ s3 = .int .i64 ((n : Int) - 1 - (i : Int)) ∧ 2 * i ≤ n ∧ St w0 wr (.row A n c 4 1 (boolsL l') :: L))
 case atStart => exact ⟨0, l, Lib.hid (by omega), Lib.hid (SwapAt.start l), rfl, by congr 1; omega, by omega, hst⟩
 case round =>
  clear hst
  obtain ⟨i, l', HI, HS, rfl, rfl, h2i, hst⟩ := hrel
  have hi := HI.out
  by_cases hin : (i : Int) < (n : Int) - 1 - (i : Int)
  ·clear hi
   obtain ⟨x, hx⟩ : ∃ x, l'[i]? = some x := ⟨l'[i]'(by rw [HS.out.len, Hl.out]; omega), List.getElem?_eq_getElem _⟩
   obtain ⟨y, hy⟩ : ∃ y, l'[l.length - 1 - i]? = some y := ⟨l'[l.length - 1 - i]'(by rw [HS.out.len, Hl.out]; omega), List.getElem?_eq_getElem _⟩
   have HN := Lib.hid (HS.out.step (by rw [Hl.out]; omega) hx hy)
   have hat : ∀ (k : Nat) (z : Bool), l'[k]? = some z → ((boolsL l').drop (k * 1)).take 1 = [.bool z] := fun k z hz => by
    obtain ⟨hk, rfl⟩ := List.getElem?_eq_some_iff.1 hz
    rw [Nat.mul_one, List.drop_eq_getElem_cons (by rw [length_boolsL]; exact hk)]
    simp [boolsL]
   have HX := Lib.hid (show ((boolsL l').drop ((i : Int).toNat * 1)).take 1 = [.bool x] from hat i x hx)
   have HY := Lib.hid (show ((boolsL l').drop (((n : Int) - 1 - (i : Int)).toNat * 1)).take 1 = [.bool y] by
    rw [show ((n : Int) - 1 - (i : Int)).toNat = l.length - 1 - i by rw [Hl.out]; omega]
    exact hat _ y hy)
   have HP := Lib.hid (show (boolsL l').set ((i : Int).toNat * 1) (.bool y) = boolsL (l'.set i y) by rw [Nat.mul_one]; exact boolsL_set l' i y)
   have HQ := Lib.hid (show (boolsL (l'.set i y)).set (((n : Int) - 1 - (i : Int)).toNat * 1) (.bool x) = boolsL ((l'.set i y).set (l.length - 1 - i) x) by
    rw [Hl.out, Nat.mul_one, show ((n : Int) - 1 - (i : Int)).toNat = n - 1 - i by omega]
    exact boolsL_set _ _ x)
   clear hx hy hat
   go_wp2_with (fail)
   refine wp_region_pn (.one 0 3 (.one 1 3 (.one 2 3 (.one 3 3 (.one 4 3 (.one 5 3 (.one 8 3 (.one 9 3 (.one 6 0 (.one 7 0 (.one 10 2 (.one 11 2 (.one 12 2 (.one 13 1 (.one 14 2 (.one 15 1 .nil)))))))))))))))) (by kernel_rfl) (by kernel_rfl) ?_
   replace hst := hst.drew
   refine pn_p rfl rfl ?_; go_wp2_with fail
   refine pn_p rfl rfl ?_; go_wp2_with fail
   refine pn_p rfl rfl ?_; go_wp2_with fail
   refine pn_p rfl rfl ?_; go_wp2_with fail
   refine pn_p rfl rfl ?_; go_wp2_with fail
   refine pn_p rfl rfl ?_; go_wp2_with fail
   refine pn_p rfl rfl ?_; go_wp2_with fail
   refine pn_p rfl rfl ?_; go_wp2_with fail
   refine pn_q rfl rfl ?_; go_wp2_with ((refine L_idxS (d := some 20) rfl rfl rfl (by rfl) (by rfl) Tryz.underlying155 el_bool (by (exact hst.sl 0 rfl)) (by omega) (by omega) ?_; intro o20 p20 ha20 hr20; ((subst ha20))))
   refine pn_q rfl rfl ?_; go_wp2_with ((refine L_load1 (d := some 21) rfl rfl rfl (by rfl) Tryz.underlying4 rfl (v := .bool y) (hr20 0 (.bool y) (by rw [HY.out]; rfl)) ?_))
   refine pn_g rfl ?_; go_wp2_with ((refine L_idxS (d := some 24) rfl rfl rfl (by rfl) (by rfl) Tryz.underlying155 el_bool (by (exact hst.sl 0 rfl)) (by omega) (by omega) ?_; intro o24 p24 ha24 hr24; ((obtain ⟨h1, h2⟩ := some_addr ha24; subst h1; subst h2; clear ha24)))); refine ⟨by (exact Below.refl _ _), ?_⟩
   refine pn_g rfl ?_; go_wp2_with ((refine L_load1 (d := some 25) rfl rfl rfl (by rfl) Tryz.underlying4 rfl (v := .bool x) (hr24 0 (.bool x) (by rw [HX.out]; rfl)) ?_)); refine ⟨by (exact Below.refl _ _), ?_⟩
   refine pn_g rfl ?_; go_wp2_with (((refine L_idxO (d := some 26) rfl rfl hst rfl (by rfl) (by rfl) Tryz.underlying155 el_bool 0 rfl (by (rfl)) (by omega) (by omega) ?_; intro o26 p26 ha26; ((obtain ⟨h1, h2⟩ := some_addr ha26; subst h1; subst h2; clear ha26))))); refine ⟨by (exact Below.refl _ _), ?_⟩
   refine pn_e rfl ?_; go_wp2_with ((refine wpl_at (.store 4 (.tmp 26) (.tmp 21)) rfl ?_; (refine L_storeR rfl rfl hst rfl (by rfl) (ev_tmp rfl) rfl el_bool 0 rfl (by (omega)) ?_; clear hst; intro WS13 hst; simp only [List.set_cons_zero, List.set_cons_succ, HP.out, HQ.out] at hst)))
   refine pn_g rfl ?_; go_wp2_with (((refine L_idxO (d := some 27) rfl rfl hst rfl (by rfl) (by rfl) Tryz.underlying155 el_bool 0 rfl (by (rfl)) (by omega) (by omega) ?_; intro o27 p27 ha27; ((obtain ⟨h1, h2⟩ := some_addr ha27; subst h1; subst h2; clear ha27))))); refine ⟨by (exact Below.refl _ _), ?_⟩
   refine pn_e rfl ?_; go_wp2_with ((refine wpl_at (.store 4 (.tmp 27) (.tmp 25)) rfl ?_; (refine L_storeR rfl rfl hst rfl (by rfl) (ev_tmp rfl) rfl el_bool 0 rfl (by (omega)) ?_; clear hst; intro WS15 hst; simp only [List.set_cons_zero, List.set_cons_succ, HP.out, HQ.out] at hst)))
   refine pn_nil ?_
   go_wp2_with fail
   go_roundg (gk - 1)
   case measure => have hi := HI.out; omega
   case rel =>
    have hi := HI.out
    exact ⟨i + 1, _, Lib.hid (by omega), HN, by go_num, by congr 1; omega, by omega, hst⟩
  ·have hd := HS.out.done (by rw [Hl.out]; omega)
   rw [hd] at hst
   clear hd hi HI
   go_wp2_with (fail)
   go_end0
   exact ⟨rfl, hst⟩
set_option maxHeartbeats 2000000 in
theorem sides_any (i n : Nat) (hn : n ≤ 256) (hin : i < n) (w : World) : Calls Tryz.prog 97 #[.int .i64 (i : Int), .int .i64 (n : Int)] w fun e w' => ∃ A c, e = .returned (.slice A (longN i n) c) ∧ St w w' [.row A (longN i n) c 4 1 (boolsL (sidesN i n))] := by
 have hst := St.refl w
 go_enter Tryz.func97, Tryz.ntmps97
 go_wp2_with (fail)
 have hst : St w w [.row none 0 0 4 1 (boolsL [])] := hst.nilRow 4 1
 go_loopg [0, 1, 4] n (fun gk s0 s1 s4 wr => ∃ (i' p : Nat) (lt : List Bool) (O : Option Addr) (oc : Nat), Hid (lt ++ sidesN i' gk = sidesN i n) ∧ Hid (lt.length = p) ∧ i' < gk ∧ p + gk ≤ n ∧ s0 = .int .i64 (i' : Int) ∧ s1 = .int .i64 (gk : Int) ∧ s4 = .slice O p oc ∧ St w wr [.row O p oc 4 1 (boolsL lt)])
 case atStart => exact ⟨i, 0, [], none, 0, Lib.hid rfl, Lib.hid rfl, hin, by omega, rfl, rfl, rfl, hst⟩
 case round =>
  clear hst
  obtain ⟨i', p, lt, O, oc, HS, HL, hi', hp, rfl, rfl, rfl, hst⟩ := hrel
  by_cases h1 : 1 < gk
  ·have hlt := halfN_lt gk (by omega)
   have hps := halfN_pos gk
   have HF := Lib.hid (fun w => half_any gk (by omega) (by omega) w)
   by_cases hk : i' < halfN gk
   ·have HN := Lib.hid (show (lt ++ [true]) ++ sidesN i' (halfN gk) = sidesN i n by
     rw [← HS.out, sidesN_left (by omega) hk, List.append_assoc]
     rfl)
    have HB := Lib.hid (show boolsL lt ++ [.bool true] = boolsL (lt ++ [true]) by rw [boolsL_append]; rfl)
    generalize halfN gk = k at *
    go_wp2_with (first | (go_at_call 91; (try clear hnew); refine (HF.out _).mono ?_; rintro e Wk1 ⟨rfl, hnew⟩; replace hst := hst.keep hnew) | (refine L_buildS (d := some 14) rfl rfl rfl [_] (bs_1 (ev_tmp rfl)) rfl Tryz.underlying155 el_bool rfl (by (simp [Value.cells]; done)) (by decide) (by decide) ?_; (try clear hnew); intro g14 W14 hnew; replace hst := hst.trans hnew; simp only [List.cons_append, List.nil_append] at hst; simp only [List.flatMap_cons, List.flatMap_nil, List.append_nil, Value.cells, List.toList_toArray] at hst) | (refine L_appendO (d := some 15) rfl rfl hst rfl (by rfl) (by rfl) Tryz.underlying155 el_bool rfl (by decide) (by decide) 1 rfl (by (rfl)) (by (exact hst.sl 0 rfl)) (by (simp [Value.oneCell']; done)) (by omega) ?_; clear hst; intro A15 c15 W15 hst; simp only [List.set_cons_zero, List.set_cons_succ, List.nil_append, Nat.zero_add] at hst))
    go_roundg k
    case measure => exact hlt
    case rel =>
     refine ⟨i', p + 1, lt ++ [true], A15, c15, HN, Lib.hid (by rw [List.length_append, HL.out]; rfl), hk, by omega, rfl, rfl, rfl, ?_⟩
     rw [← HB.out]
     exact hst.pick [1] (by decide)
   ·have HN := Lib.hid (show (lt ++ [false]) ++ sidesN (i' - halfN gk) (gk - halfN gk) = sidesN i n by
     rw [← HS.out, sidesN_right (by omega) hk, List.append_assoc]
     rfl)
    have HB := Lib.hid (show boolsL lt ++ [.bool false] = boolsL (lt ++ [false]) by rw [boolsL_append]; rfl)
    generalize halfN gk = k at *
    go_wp2_with (first | (go_at_call 91; (try clear hnew); refine (HF.out _).mono ?_; rintro e Wk2 ⟨rfl, hnew⟩; replace hst := hst.keep hnew) | (refine L_buildS (d := some 14) rfl rfl rfl [_] (bs_1 (ev_tmp rfl)) rfl Tryz.underlying155 el_bool rfl (by (simp [Value.cells]; done)) (by decide) (by decide) ?_; (try clear hnew); intro g14 W14 hnew; replace hst := hst.trans hnew; simp only [List.cons_append, List.nil_append] at hst; simp only [List.flatMap_cons, List.flatMap_nil, List.append_nil, Value.cells, List.toList_toArray] at hst) | (refine L_appendO (d := some 15) rfl rfl hst rfl (by rfl) (by rfl) Tryz.underlying155 el_bool rfl (by decide) (by decide) 1 rfl (by (rfl)) (by (exact hst.sl 0 rfl)) (by (simp [Value.oneCell']; done)) (by omega) ?_; clear hst; intro A15 c15 W15 hst; simp only [List.set_cons_zero, List.set_cons_succ, List.nil_append, Nat.zero_add] at hst))
    go_roundg (gk - k)
    case measure => omega
    case rel =>
     refine ⟨i' - k, p + 1, lt ++ [false], A15, c15, HN, Lib.hid (by rw [List.length_append, HL.out]; rfl), by omega, by omega, by congr 1; omega, by congr 1; omega, rfl, ?_⟩
     rw [← HB.out]
     exact hst.pick [1] (by decide)
  ·have HN := Lib.hid (show lt = sidesN i n by rw [← HS.out, sidesN_one i' (by omega), List.append_nil])
   have hp' : p = longN i n := by rw [← length_sidesN, ← HN.out, HL.out]
   rw [hp', HN.out] at hst
   rw [hp']
   clear hp HS HL hp'
   go_wp2_with (fail)
   go_ret
   exact ⟨_, _, rfl, hst⟩
end Go.Proofs.YtaebeemnipafbaaGreatDoor

set_option maxRecDepth 20000
set_option linter.unusedSimpArgs false
set_option linter.unusedVariables false
namespace Go.Proofs.YtaebeemnipafbaaGreatDoor
open Go.RowKit
set_option maxHeartbeats 2000000 in
theorem revD_any (l : List Dig) (n c : Nat) (A : Option Addr) (w0 w : World) (L : List Res) (hst : St w0 w (.row A n c 32 32 (digsL l) :: L)) :
  Calls Tryz.prog 92 #[.slice A n c] w fun e w' => e = .returned (.tuple #[]) ∧ St w0 w' (.row A n c 32 32 (digsL l.reverse) :: L) := by
 have hl : l.length = n := by have := (hst.sl 0 rfl).1; rw [length_digsL] at this; omega
 have hcap := (hst.sl 0 rfl).2.1
 have hmax := (hst.sl 0 rfl).2.2.1
 simp only [maxLen] at hmax
 have Hl := Lib.hid hl
 clear hl
 go_enter Tryz.func92, Tryz.ntmps92
 go_wp2_with (fail)
 go_loopg [2, 3] n (fun gk s2 s3 wr => ∃ (i : Nat) (l' : List Dig), Hid (i + gk = n) ∧ Hid (SwapAt l l' i) ∧ s2 = .int .i64 (i : Int) ∧ s3 = .int .i64 ((n : Int) - 1 - (i : Int)) ∧ 2 * i ≤ n ∧ St w0 wr (.row A n c 32 32 (digsL l') :: L))
 case atStart => exact ⟨0, l, Lib.hid (by omega), Lib.hid (SwapAt.start l), rfl, by congr 1; omega, by omega, hst⟩
 case round =>
  clear hst
  obtain ⟨i, l', HI, HS, rfl, rfl, h2i, hst⟩ := hrel
  have hi := HI.out
  by_cases hin : (i : Int) < (n : Int) - 1 - (i : Int)
  ·clear hi
   obtain ⟨x, hx⟩ : ∃ x, l'[i]? = some x := ⟨l'[i]'(by rw [HS.out.len, Hl.out]; omega), List.getElem?_eq_getElem _⟩
   obtain ⟨y, hy⟩ : ∃ y, l'[l.length - 1 - i]? = some y := ⟨l'[l.length - 1 - i]'(by rw [HS.out.len, Hl.out]; omega), List.getElem?_eq_getElem _⟩
   have HN := Lib.hid (HS.out.step (by rw [Hl.out]; omega) hx hy)
   have hat : ∀ (k : Nat) (z : Dig), l'[k]? = some z → ((digsL l').drop (k * 32)).take 32 = z.arr.toList := fun k z hz => by
    obtain ⟨hk, rfl⟩ := List.getElem?_eq_some_iff.1 hz
    rw [digsL_at l' k hk, Dig.toList]
   have HX := Lib.hid (hat i x hx)
   have HY := Lib.hid (show ((digsL l').drop (((n : Int) - 1 - (i : Int)).toNat * 32)).take 32 = y.arr.toList by
    rw [show ((n : Int) - 1 - (i : Int)).toNat = l.length - 1 - i by rw [Hl.out]; omega]
    exact hat _ y hy)
   have HP := Lib.hid (show ((digsL l').take ((i : Int).toNat * 32) ++ y.arr.toList ++ (digsL l').drop ((i : Int).toNat * 32 + 32)) = digsL (l'.set i y) from digsL_set l' i y (by rw [HS.out.len, Hl.out]; omega))
   have HQ := Lib.hid (show ((digsL (l'.set i y)).take (((n : Int) - 1 - (i : Int)).toNat * 32) ++ x.arr.toList ++ (digsL (l'.set i y)).drop (((n : Int) - 1 - (i : Int)).toNat * 32 + 32)) = digsL ((l'.set i y).set (l.length - 1 - i) x) by
    rw [Hl.out, show ((n : Int) - 1 - (i : Int)).toNat = n - 1 - i by omega]
    exact digsL_set _ _ x (by rw [List.length_set, HS.out.len, Hl.out]; omega))
   clear hx hy hat
   go_wp2_with (fail)
   refine wp_region_pn (.one 0 3 (.one 1 3 (.one 2 3 (.one 3 3 (.one 4 3 (.one 5 3 (.one 8 3 (.one 9 3 (.one 6 0 (.one 7 0 (.one 10 2 (.one 11 2 (.one 12 2 (.one 13 1 (.one 14 2 (.one 15 1 .nil)))))))))))))))) (by kernel_rfl) (by kernel_rfl) ?_
   replace hst := hst.drew
   refine pn_p rfl rfl ?_; go_wp2_with fail
   refine pn_p rfl rfl ?_; go_wp2_with fail
   refine pn_p rfl rfl ?_; go_wp2_with fail
   refine pn_p rfl rfl ?_; go_wp2_with fail
   refine pn_p rfl rfl ?_; go_wp2_with fail
   refine pn_p rfl rfl ?_; go_wp2_with fail
   refine pn_p rfl rfl ?_; go_wp2_with fail
   refine pn_p rfl rfl ?_; go_wp2_with fail
   refine pn_q rfl rfl ?_; go_wp2_with ((refine L_idxS (d := some 20) rfl rfl rfl (by rfl) (by rfl) Tryz.underlying44 el_api_Digest (by (exact hst.sl 0 rfl)) (by omega) (by omega) ?_; intro o20 p20 ha20 hr20; ((subst ha20))))
   refine pn_q rfl rfl ?_; go_wp2_with ((refine L_loadM (d := some 21) rfl rfl rfl (by rfl) Tryz.underlying32 rfl el_api_Digest (cs := y.arr) (by rw [← HY.out]; exact hr20) (Dig.size _) ?_))
   refine pn_g rfl ?_; go_wp2_with ((refine L_idxS (d := some 24) rfl rfl rfl (by rfl) (by rfl) Tryz.underlying44 el_api_Digest (by (exact hst.sl 0 rfl)) (by omega) (by omega) ?_; intro o24 p24 ha24 hr24; ((obtain ⟨h1, h2⟩ := some_addr ha24; subst h1; subst h2; clear ha24)))); refine ⟨by (exact Below.refl _ _), ?_⟩
   refine pn_g rfl ?_; go_wp2_with ((refine L_loadM (d := some 25) rfl rfl rfl (by rfl) Tryz.underlying32 rfl el_api_Digest (cs := x.arr) (by rw [← HX.out]; exact hr24) (Dig.size _) ?_)); refine ⟨by (exact Below.refl _ _), ?_⟩
   refine pn_g rfl ?_; go_wp2_with (((refine L_idxO (d := some 26) rfl rfl hst rfl (by rfl) (by rfl) Tryz.underlying44 el_api_Digest 0 rfl (by (rfl)) (by omega) (by omega) ?_; intro o26 p26 ha26; ((obtain ⟨h1, h2⟩ := some_addr ha26; subst h1; subst h2; clear ha26))))); refine ⟨by (exact Below.refl _ _), ?_⟩
   refine pn_e rfl ?_; go_wp2_with ((refine wpl_at (.store 32 (.tmp 26) (.tmp 21)) rfl ?_; (refine L_storeRM rfl rfl hst rfl (by rfl) (ev_tmp rfl) (by (exact Dig.one _)) el_api_Digest (by (exact Dig.size _)) 0 rfl (by (omega)) ?_; clear hst; intro WS13 hst; simp only [List.set_cons_zero, List.set_cons_succ, HP.out, HQ.out] at hst)))
   refine pn_g rfl ?_; go_wp2_with (((refine L_idxO (d := some 27) rfl rfl hst rfl (by rfl) (by rfl) Tryz.underlying44 el_api_Digest 0 rfl (by (rfl)) (by omega) (by omega) ?_; intro o27 p27 ha27; ((obtain ⟨h1, h2⟩ := some_addr ha27; subst h1; subst h2; clear ha27))))); refine ⟨by (exact Below.refl _ _), ?_⟩
   refine pn_e rfl ?_; go_wp2_with ((refine wpl_at (.store 32 (.tmp 27) (.tmp 25)) rfl ?_; (refine L_storeRM rfl rfl hst rfl (by rfl) (ev_tmp rfl) (by (exact Dig.one _)) el_api_Digest (by (exact Dig.size _)) 0 rfl (by (omega)) ?_; clear hst; intro WS15 hst; simp only [List.set_cons_zero, List.set_cons_succ, HP.out, HQ.out] at hst)))
   refine pn_nil ?_
   go_wp2_with fail
   go_roundg (gk - 1)
   case measure => have hi := HI.out; omega
   case rel =>
    have hi := HI.out
    exact ⟨i + 1, _, Lib.hid (by omega), HN, by go_num, by congr 1; omega, by omega, hst⟩
  ·have hd := HS.out.done (by rw [Hl.out]; omega)
   rw [hd] at hst
   clear hd hi HI
   go_wp2_with (fail)
   go_end0
   exact ⟨rfl, hst⟩
end Go.Proofs.YtaebeemnipafbaaGreatDoor

set_option maxRecDepth 20000
set_option linter.unusedSimpArgs false
set_option linter.unusedVariables false
namespace Go.Proofs.YtaebeemnipafbaaGreatDoor
open Go.RowKit
set_option maxHeartbeats 4000000 in
theorem tPath_any (ls : List Dig) (A : Option Addr) (n c i : Nat) (w : World) (hT : Tb w) (hx : SlR w A n c 32 (digsL ls)) (hn : n ≤ 256) (hin : i < n) :
  Calls Tryz.prog 47 #[.slice A n c, .int .i64 (i : Int)] w fun e w' => ∃ O oc, e = .returned (.tuple #[.slice O (longN i n) oc, .nilIface]) ∧ St w w' [.row O (longN i n) oc 32 32 (digsL (pathN ls i))] := by
 have hst := St.refl w
 have HT := Lib.hid hT
 have hl : ls.length = n := by have := hx.1; rw [length_digsL] at this; omega
 have Hl := Lib.hid hl
 have h1 : ¬ (256 : Int) < (n : Int) := by omega
 have h2 : ¬ (i : Int) < 0 := by omega
 have h3 : ¬ (n : Int) ≤ (i : Int) := by omega
 clear hT hl
 go_enter Tryz.func47, Tryz.ntmps47
 go_wp2_with (fail)
 have hst : St w w [.row none 0 0 32 32 (digsL [])] := hst.nilRow 32 32
 clear h1 h2 h3
 go_loopg [0, 1, 6] n (fun gk s0 s1 s6 wr => ∃ (i' p : Nat) (cur out : List Dig) (B O : Option Addr) (d oc : Nat), Hid (out ++ (pathN cur i').reverse = (pathN ls i).reverse) ∧ Hid (out.length = p) ∧ Hid (cur.length = gk) ∧ i' < gk ∧ p + gk ≤ n ∧ s0 = .slice B gk d ∧ s1 = .int .i64 (i' : Int) ∧ s6 = .slice O p oc ∧ SlR w B gk d 32 (digsL cur) ∧ St w wr [.row O p oc 32 32 (digsL out)])
 case atStart => exact ⟨i, 0, ls, [], A, none, c, 0, Lib.hid rfl, Lib.hid rfl, Hl, hin, by omega, rfl, rfl, rfl, hx, hst⟩
 case round =>
  clear hst
  obtain ⟨i', p, cur, out, B, O, d, oc, HS, HO, HC, hi', hp, rfl, rfl, rfl, hcur, hst⟩ := hrel
  have hcap := hcur.2.1
  by_cases h1 : 1 < gk
  ·have hlt := halfN_lt gk (by omega)
   have hps := halfN_pos gk
   have HF := Lib.hid (fun w => half_any gk (by omega) (by omega) w)
   have H1 := Lib.hid (show ((digsL cur).drop (0 * 32)).take ((halfN gk - 0) * 32) = digsL (cur.take (halfN gk)) by rw [digsL_cut]; rfl)
   have H2 := Lib.hid (show ((digsL cur).drop (halfN gk * 32)).take ((gk - halfN gk) * 32) = digsL (cur.drop (halfN gk)) by rw [digsL_cut, List.take_of_length_le (by rw [List.length_drop, HC.out]; omega)])
   by_cases hk : i' < halfN gk
   ·have HN := Lib.hid (show (out ++ [rootN (cur.drop (halfN gk))]) ++ (pathN (cur.take (halfN gk)) i').reverse = (pathN ls i).reverse by
     rw [← HS.out, pathN_left (ls := cur) (by rw [HC.out]; omega) (by rw [HC.out]; exact hk), List.reverse_append, HC.out, List.append_assoc]
     rfl)
    have HB := Lib.hid (show digsL out ++ (rootN (cur.drop (halfN gk))).arr.toList = digsL (out ++ [rootN (cur.drop (halfN gk))]) by rw [digsL_append, digsL_single, Dig.toList])
    have HL := Lib.hid (show (cur.take (halfN gk)).length = halfN gk by rw [List.length_take, HC.out]; omega)
    generalize halfN gk = k at *
    go_wp2_with (first | (go_at_call 91; (try clear hnew); refine (HF.out _).mono ?_; rintro e Wk1 ⟨rfl, hnew⟩; replace hst := hst.keep hnew) | (go_at_call 83; (try clear hnew); refine (root_any (gk - k) (cur.drop k) A33 c33 _ (HT.out.of hst) (by rw [← H2.out]; exact hst.old (by decide) hs33) (by omega)).mono ?_; rintro e Wk2 ⟨rfl, hnew⟩; replace hst := hst.keep hnew) | ((refine L_cutV (d := some 33) rfl rfl rfl (by rfl) Tryz.underlying44 el_api_Digest (by decide) hcur k gk _ (Or.inr ⟨_, _, rfl, by (exact ev_tmp rfl)⟩) (Or.inl ⟨rfl, rfl, rfl⟩) (Or.inl ⟨rfl, rfl⟩) (by omega) (by omega) (by omega) (by omega) ?_; intro A33 c33 hs33)) | (refine L_buildS (d := some 35) rfl rfl rfl [_] (bs_1 (ev_tmp rfl)) rfl Tryz.underlying44 el_api_Digest rfl (by (simp [Value.cells, Dig.size]; done)) (by decide) (by decide) ?_; (try clear hnew); intro g35 W35 hnew; replace hst := hst.trans hnew; simp only [List.cons_append, List.nil_append] at hst; simp only [List.flatMap_cons, List.flatMap_nil, List.append_nil, Value.cells, List.toList_toArray] at hst) | (refine L_appendO (d := some 36) rfl rfl hst rfl (by rfl) (by rfl) Tryz.underlying44 el_api_Digest rfl (by decide) (by decide) 1 rfl (by (rfl)) (by (exact hst.sl 0 rfl)) (by (exact oneCell_bytes)) (by omega) ?_; clear hst; intro A36 c36 W36 hst; simp only [List.set_cons_zero, List.set_cons_succ, List.nil_append, Nat.zero_add] at hst) | ((refine L_cutV (d := some 39) rfl rfl rfl (by rfl) Tryz.underlying44 el_api_Digest (by decide) hcur 0 k _ (Or.inl ⟨rfl, rfl⟩) (Or.inr ⟨_, _, rfl, by (exact ev_tmp rfl)⟩) (Or.inl ⟨rfl, rfl⟩) (by omega) (by omega) (by omega) (by omega) ?_; intro A39 c39 hs39)))
    go_roundg k
    case measure => exact hlt
    case rel =>
     refine ⟨i', p + 1, cur.take k, out ++ [rootN (cur.drop k)], A39, A36, c39, c36, HN, Lib.hid (by rw [List.length_append, HO.out]; rfl), HL, hk, by omega, rfl, rfl, rfl, by rw [← H1.out]; exact hs39, ?_⟩
     rw [← HB.out]
     exact hst.pick [1] (by decide)
   ·have HN := Lib.hid (show (out ++ [rootN (cur.take (halfN gk))]) ++ (pathN (cur.drop (halfN gk)) (i' - halfN gk)).reverse = (pathN ls i).reverse by
     rw [← HS.out, pathN_right (ls := cur) (by rw [HC.out]; omega) (by rw [HC.out]; exact hk), List.reverse_append, HC.out, List.append_assoc]
     rfl)
    have HB := Lib.hid (show digsL out ++ (rootN (cur.take (halfN gk))).arr.toList = digsL (out ++ [rootN (cur.take (halfN gk))]) by rw [digsL_append, digsL_single, Dig.toList])
    have HL := Lib.hid (show (cur.drop (halfN gk)).length = gk - halfN gk by rw [List.length_drop, HC.out])
    generalize halfN gk = k at *
    go_wp2_with (first | (go_at_call 91; (try clear hnew); refine (HF.out _).mono ?_; rintro e Wk3 ⟨rfl, hnew⟩; replace hst := hst.keep hnew) | (go_at_call 83; (try clear hnew); refine (root_any k (cur.take k) A43 c43 _ (HT.out.of hst) (by rw [← H1.out]; exact hst.old (by decide) hs43) (by omega)).mono ?_; rintro e Wk4 ⟨rfl, hnew⟩; replace hst := hst.keep hnew) | ((refine L_cutV (d := some 43) rfl rfl rfl (by rfl) Tryz.underlying44 el_api_Digest (by decide) hcur 0 k _ (Or.inl ⟨rfl, rfl⟩) (Or.inr ⟨_, _, rfl, by (exact ev_tmp rfl)⟩) (Or.inl ⟨rfl, rfl⟩) (by omega) (by omega) (by omega) (by omega) ?_; intro A43 c43 hs43)) | (refine L_buildS (d := some 45) rfl rfl rfl [_] (bs_1 (ev_tmp rfl)) rfl Tryz.underlying44 el_api_Digest rfl (by (simp [Value.cells, Dig.size]; done)) (by decide) (by decide) ?_; (try clear hnew); intro g45 W45 hnew; replace hst := hst.trans hnew; simp only [List.cons_append, List.nil_append] at hst; simp only [List.flatMap_cons, List.flatMap_nil, List.append_nil, Value.cells, List.toList_toArray] at hst) | (refine L_appendO (d := some 46) rfl rfl hst rfl (by rfl) (by rfl) Tryz.underlying44 el_api_Digest rfl (by decide) (by decide) 1 rfl (by (rfl)) (by (exact hst.sl 0 rfl)) (by (exact oneCell_bytes)) (by omega) ?_; clear hst; intro A46 c46 W46 hst; simp only [List.set_cons_zero, List.set_cons_succ, List.nil_append, Nat.zero_add] at hst) | ((refine L_cutV (d := some 49) rfl rfl rfl (by rfl) Tryz.underlying44 el_api_Digest (by decide) hcur k gk _ (Or.inr ⟨_, _, rfl, by (exact ev_tmp rfl)⟩) (Or.inl ⟨rfl, rfl, rfl⟩) (Or.inl ⟨rfl, rfl⟩) (by omega) (by omega) (by omega) (by omega) ?_; intro A49 c49 hs49)))
    go_roundg (gk - k)
    case measure => omega
    case rel =>
     refine ⟨i' - k, p + 1, cur.drop k, out ++ [rootN (cur.take k)], A49, A46, c49, c46, HN, Lib.hid (by rw [List.length_append, HO.out]; rfl), HL, by omega, by omega, rfl, by congr 1; omega, rfl, by rw [← H2.out]; exact hs49, ?_⟩
     rw [← HB.out]
     exact hst.pick [1] (by decide)
  ·have HN := Lib.hid (show out.reverse = pathN ls i by
    have := HS.out
    rw [pathN_one i' (by rw [HC.out]; omega), List.reverse_nil, List.append_nil] at this
    rw [this, List.reverse_reverse])
   have hp' : p = longN i n := by rw [← HO.out, ← length_pathN n ls i Hl.out, ← HN.out, List.length_reverse]
   rw [hp'] at hst
   rw [hp']
   clear hp HS HO hp'
   go_wp2_with ((go_at_call 92; refine (revD_any out _ _ _ w _ [] hst).mono ?_; rintro e Wr ⟨rfl, hst'⟩; clear hst; have hst := hst'; clear hst'; rw [HN.out] at hst))
   exact bp_two rfl rfl rfl rfl ⟨_, _, rfl, hst⟩
theorem foldN_step (l : Dig) (zs : List (Dig × Bool)) (j : Nat) (hj : j < zs.length) : foldN l (zs.take (j + 1)) = if (zs[j]).2 then nodeN (foldN l (zs.take j)) (zs[j]).1 else nodeN (zs[j]).1 (foldN l (zs.take j)) := by
 rw [List.take_succ_eq_append_getElem hj, foldN_append]
 rfl
set_option maxHeartbeats 4000000 in
theorem tFold_any (l : Dig) (path : List Dig) (A : Option Addr) (m c i n : Nat) (w : World) (hT : Tb w) (hx : SlR w A m c 32 (digsL path)) (hn : n ≤ 256) (hin : i < n) (hm : m = longN i n) :
  Calls Tryz.prog 59 #[l.v, .int .i64 (i : Int), .int .i64 (n : Int), .slice A m c] w fun e w' => e = .returned (.tuple #[(foldedN l i n path).v, .nilIface]) ∧ St w w' [] := by
 have hst := St.refl w
 have HT := Lib.hid hT
 have hl : path.length = m := by have := hx.1; rw [length_digsL] at this; omega
 have hmax := hx.2.2.1
 have hcap := hx.2.1
 simp only [maxLen] at hmax
 have hsl : (sidesN i n).reverse.length = m := by rw [List.length_reverse, length_sidesN, hm]
 have HSd := Lib.hid (sides_any i n hn hin)
 have HM := Lib.hid hm
 have h1 : ¬ (n : Int) < 1 := by omega
 have h2 : ¬ (256 : Int) < (n : Int) := by omega
 have h3 : ¬ (i : Int) < 0 := by omega
 have h4 : ¬ (n : Int) ≤ (i : Int) := by omega
 clear hT
 go_enter Tryz.func59, Tryz.ntmps59
 rw [← HM.out] at HSd
 have HZ := Lib.hid (show foldN l ((path.zip (sidesN i n).reverse).take m) = foldedN l i n path by
  rw [List.take_of_length_le (by rw [List.length_zip]; omega)]
  rfl)
 have HA := Lib.hid (fun j (hj : j < m) => show ∃ (p : Dig) (b : Bool), ((digsL path).drop (j * 32)).take 32 = p.arr.toList ∧ ((boolsL (sidesN i n).reverse).drop (j * 1)).take 1 = [.bool b] ∧
   foldN l ((path.zip (sidesN i n).reverse).take (j + 1)) = if b then nodeN (foldN l ((path.zip (sidesN i n).reverse).take j)) p else nodeN p (foldN l ((path.zip (sidesN i n).reverse).take j)) by
  refine ⟨path[j]'(by omega), (sidesN i n).reverse[j]'(by omega), by rw [digsL_at path j (by omega), Dig.toList], ?_, ?_⟩
  ·rw [Nat.mul_one, List.drop_eq_getElem_cons (by rw [length_boolsL]; omega)]
   simp [boolsL]
  ·rw [foldN_step _ _ j (by rw [List.length_zip]; omega), List.getElem_zip])
 clear hm hl hsl
 go_wp2_with (first | (go_at_call 97; (try clear hnew); refine (HSd.out _).mono ?_; rintro e Wk5 ⟨A32, c32, rfl, hnew⟩; replace hst := hst.trans hnew; simp only [List.cons_append, List.nil_append] at hst) | (go_at_call 98; (try clear hnew); refine (revB_any (sidesN i n) _ _ _ w _ _ hst).mono ?_; rintro e Wr ⟨rfl, hst'⟩; clear hst; have hst := hst'; clear hst') | (refine L_boxA (d := some 4) rfl rfl rfl (ev_tmp rfl) ?_; (try clear hnew); intro g4 W4 hnew; replace hst := hst.trans hnew; simp only [List.cons_append, List.nil_append] at hst) | (refine L_allocA (d := some 8) rfl rfl rfl el_api_Digest ?_; (try clear hnew); intro g8 W8 hnew; replace hst := hst.trans hnew; simp only [List.cons_append, List.nil_append] at hst))
 clear h1 h2 h3 h4
 have h0 : foldN l ((path.zip (sidesN i n).reverse).take 0) = l := rfl
 generalize boolsL (sidesN i n).reverse = lb at *
 generalize path.zip (sidesN i n).reverse = zs at *
 rw [← h0] at hst
 clear h0
 go_loopg [44] m (fun gk s44 wr => ∃ j : Nat, Hid (j + gk = m) ∧ s44 = .int .i64 (j : Int) ∧ St w wr [.row A32 m c32 4 1 lb, .blk g8 32 zeroD.arr, .blk g4 32 (foldN l (zs.take j)).arr])
 case atStart => exact ⟨0, Lib.hid (by omega), rfl, hst⟩
 case round =>
  clear hst
  obtain ⟨j, HI, rfl, hst⟩ := hrel
  have hi := HI.out
  by_cases hjm : j < m
  ·clear hi
   obtain ⟨p, b, hp, hb, hs⟩ := HA.out j hjm
   have HP := Lib.hid hp
   have HB := Lib.hid (show (lb.drop ((j : Int).toNat * 1)).take 1 = [.bool b] from hb)
   have HS := Lib.hid hs
   clear hp hb hs
   generalize foldN l (zs.take j) = u at *
   cases b
   ·
    go_wp2_with (first | (refine L_loadM (d := some 48) rfl rfl rfl (by rfl) Tryz.underlying32 rfl el_api_Digest (cs := p.arr) (by rw [← HP.out]; exact hr47) (Dig.size _) ?_) | (refine L_load1 (d := some 52) rfl rfl rfl (by rfl) Tryz.underlying4 rfl (v := .bool false) (hr51 0 (.bool false) (by rw [HB.out]; rfl)) ?_) | (go_at_call 99; (try clear hnew); with_reducible refine (node_any _ _ _ (HT.out.of hst)).mono ?_; rintro e Wk6 ⟨rfl, hnew⟩; replace hst := hst.keep hnew) | (refine L_idxS (d := some 47) rfl rfl rfl (by rfl) (by rfl) Tryz.underlying44 el_api_Digest (by (exact hst.old (by decide) hx)) (by omega) (by omega) ?_; intro o47 p47 ha47 hr47; ((subst ha47))) | (refine L_allocA (d := some 12) rfl rfl rfl el_api_Digest ?_; (try clear hnew); intro g12 W12 hnew; replace hst := hst.trans hnew; simp only [List.cons_append, List.nil_append] at hst) | (refine wpl_at (.store 32 (.tmp 12) (.tmp 48)) rfl ?_; (refine L_storeA rfl rfl hst rfl (by rfl) (ev_tmp rfl) (by (exact Dig.one _)) el_api_Digest (by (exact Dig.size _)) 0 rfl (by (rfl)) ?_; clear hst; intro WS5 hst; simp only [List.set_cons_zero, List.set_cons_succ] at hst)) | (refine L_idxS (d := some 51) rfl rfl rfl (by rfl) (by rfl) Tryz.underlying155 el_bool (by (exact hst.sl 1 rfl)) (by omega) (by omega) ?_; intro o51 p51 ha51 hr51; ((subst ha51))) | ((refine L_loadA (d := some 56) rfl rfl rfl (by rfl) Tryz.underlying32 rfl el_api_Digest (by (exact hst.get 0 rfl)) (by (exact Dig.size _)) ?_)) | ((refine L_loadA (d := some 57) rfl rfl rfl (by rfl) Tryz.underlying32 rfl el_api_Digest (by (exact hst.get 3 rfl)) (by (exact Dig.size _)) ?_)) | (refine wpl_at (.store 32 (.tmp 4) (.tmp 58)) rfl ?_; (refine L_storeA rfl rfl hst rfl (by rfl) (ev_tmp rfl) (by (exact Dig.one _)) el_api_Digest (by (rfl)) 3 rfl (by (exact Dig.size _)) ?_; clear hst; intro WS3 hst; simp only [List.set_cons_zero, List.set_cons_succ] at hst)))
    go_roundg (gk - 1)
    case measure => have hi := HI.out; omega
    case rel =>
     have hi := HI.out
     refine ⟨j + 1, Lib.hid (by omega), by go_num, ?_⟩
     rw [HS.out]
     exact hst.pick [1, 2, 3] (by decide)
   ·
    go_wp2_with (first | (refine L_loadM (d := some 48) rfl rfl rfl (by rfl) Tryz.underlying32 rfl el_api_Digest (cs := p.arr) (by rw [← HP.out]; exact hr47) (Dig.size _) ?_) | (refine L_load1 (d := some 52) rfl rfl rfl (by rfl) Tryz.underlying4 rfl (v := .bool true) (hr51 0 (.bool true) (by rw [HB.out]; rfl)) ?_) | (go_at_call 99; (try clear hnew); with_reducible refine (node_any _ _ _ (HT.out.of hst)).mono ?_; rintro e Wk7 ⟨rfl, hnew⟩; replace hst := hst.keep hnew) | (refine L_idxS (d := some 47) rfl rfl rfl (by rfl) (by rfl) Tryz.underlying44 el_api_Digest (by (exact hst.old (by decide) hx)) (by omega) (by omega) ?_; intro o47 p47 ha47 hr47; ((subst ha47))) | (refine L_allocA (d := some 12) rfl rfl rfl el_api_Digest ?_; (try clear hnew); intro g12 W12 hnew; replace hst := hst.trans hnew; simp only [List.cons_append, List.nil_append] at hst) | (refine wpl_at (.store 32 (.tmp 12) (.tmp 48)) rfl ?_; (refine L_storeA rfl rfl hst rfl (by rfl) (ev_tmp rfl) (by (exact Dig.one _)) el_api_Digest (by (exact Dig.size _)) 0 rfl (by (rfl)) ?_; clear hst; intro WS5 hst; simp only [List.set_cons_zero, List.set_cons_succ] at hst)) | (refine L_idxS (d := some 51) rfl rfl rfl (by rfl) (by rfl) Tryz.underlying155 el_bool (by (exact hst.sl 1 rfl)) (by omega) (by omega) ?_; intro o51 p51 ha51 hr51; ((subst ha51))) | ((refine L_loadA (d := some 53) rfl rfl rfl (by rfl) Tryz.underlying32 rfl el_api_Digest (by (exact hst.get 3 rfl)) (by (exact Dig.size _)) ?_)) | ((refine L_loadA (d := some 54) rfl rfl rfl (by rfl) Tryz.underlying32 rfl el_api_Digest (by (exact hst.get 0 rfl)) (by (exact Dig.size _)) ?_)) | (refine wpl_at (.store 32 (.tmp 4) (.tmp 55)) rfl ?_; (refine L_storeA rfl rfl hst rfl (by rfl) (ev_tmp rfl) (by (exact Dig.one _)) el_api_Digest (by (rfl)) 3 rfl (by (exact Dig.size _)) ?_; clear hst; intro WS3 hst; simp only [List.set_cons_zero, List.set_cons_succ] at hst)))
    go_roundg (gk - 1)
    case measure => have hi := HI.out; omega
    case rel =>
     have hi := HI.out
     refine ⟨j + 1, Lib.hid (by omega), by go_num, ?_⟩
     rw [HS.out]
     exact hst.pick [1, 2, 3] (by decide)
  ·obtain rfl : j = m := by omega
   rw [HZ.out] at hst
   clear hi HI
   go_wp2_with (first | ((refine L_loadA (d := some 60) rfl rfl rfl (by rfl) Tryz.underlying32 rfl el_api_Digest (by (exact hst.get 2 rfl)) (by (exact Dig.size _)) ?_)) | (refine wpl_at (.store 32 (.tmp 8) (.tmp 60)) rfl ?_; (refine L_storeA rfl rfl hst rfl (by rfl) (ev_tmp rfl) (by (exact Dig.one _)) el_api_Digest (by (exact Dig.size _)) 1 rfl (by (rfl)) ?_; clear hst; intro WS1 hst; simp only [List.set_cons_zero, List.set_cons_succ] at hst)))
   refine bp_cell_tmp rfl rfl rfl rfl (hst.get 1 rfl) Tryz.underlying32 rfl el_api_Digest (by (exact Dig.size _)) ?_
   exact ⟨rfl, hst.forget⟩
theorem tFold_length (l : Dig) (A : Option Addr) (m c i n : Nat) (w : World) (hn : n ≤ 256) (hin : i < n) (hm : m ≠ longN i n) :
  Calls Tryz.prog 59 #[l.v, .int .i64 (i : Int), .int .i64 (n : Int), .slice A m c] w fun e w' => e = .returned (.tuple #[zeroD.v, errV 3]) ∧ St w w' [] := by
 have hst := St.refl w
 have h1 : ¬ (n : Int) < 1 := by omega
 have h2 : ¬ (256 : Int) < (n : Int) := by omega
 have h3 : ¬ (i : Int) < 0 := by omega
 have h4 : ¬ (n : Int) ≤ (i : Int) := by omega
 have h5 : ((m : Int) != (longN i n : Int)) = true := by rw [bne_iff_ne]; omega
 clear hm
 go_enter Tryz.func59, Tryz.ntmps59
 go_wp2_with (first | (go_at_call 97; (try clear hnew); refine (sides_any i n hn hin _).mono ?_; rintro e Wk8 ⟨A32, c32, rfl, hnew⟩; replace hst := hst.trans hnew; simp only [List.cons_append, List.nil_append] at hst) | (refine L_boxA (d := some 4) rfl rfl rfl (ev_tmp rfl) ?_; (try clear hnew); intro g4 W4 hnew; replace hst := hst.trans hnew; simp only [List.cons_append, List.nil_append] at hst) | (refine L_allocA (d := some 8) rfl rfl rfl el_api_Digest ?_; (try clear hnew); intro g8 W8 hnew; replace hst := hst.trans hnew; simp only [List.cons_append, List.nil_append] at hst) | (refine L_build0 (d := some 38) rfl rfl rfl Tryz.underlying32 el_uint8 el_api_Digest ?_) | (refine wpl_at (.store 32 (.tmp 8) (.tmp 38)) rfl ?_; (refine L_storeA rfl rfl hst rfl (by rfl) (ev_tmp rfl) (by (exact Dig.one _)) el_api_Digest (by (rfl)) 1 rfl (by (rfl)) ?_; clear hst; intro WS2 hst; simp only [List.set_cons_zero, List.set_cons_succ] at hst)))
 refine bp_cell_tmp rfl rfl rfl rfl (hst.get 1 rfl) Tryz.underlying32 rfl el_api_Digest (by (rfl)) ?_
 exact ⟨rfl, hst.forget⟩
theorem tFold_range (l : Dig) (A : Option Addr) (m c : Nat) (i n : Int) (w : World) (h : n < 1 ∨ ¬ n < 1 ∧ 256 < n ∨ ¬ n < 1 ∧ ¬ 256 < n ∧ i < 0 ∨ ¬ n < 1 ∧ ¬ 256 < n ∧ ¬ i < 0 ∧ n ≤ i) :
  Calls Tryz.prog 59 #[l.v, .int .i64 i, .int .i64 n, .slice A m c] w fun e w' => e = .returned (.tuple #[zeroD.v, errV 2]) ∧ St w w' [] := by
 have hst := St.refl w
 rcases h with h1 | ⟨h1, h2⟩ | ⟨h1, h2, h3⟩ | ⟨h1, h2, h3, h4⟩
 all_goals
  go_enter Tryz.func59, Tryz.ntmps59
  go_wp2_with (first | (refine L_boxA (d := some 4) rfl rfl rfl (ev_tmp rfl) ?_; (try clear hnew); intro g4 W4 hnew; replace hst := hst.trans hnew; simp only [List.cons_append, List.nil_append] at hst) | (refine L_allocA (d := some 8) rfl rfl rfl el_api_Digest ?_; (try clear hnew); intro g8 W8 hnew; replace hst := hst.trans hnew; simp only [List.cons_append, List.nil_append] at hst) | (refine L_build0 (d := some 28) rfl rfl rfl Tryz.underlying32 el_uint8 el_api_Digest ?_) | (refine wpl_at (.store 32 (.tmp 8) (.tmp 28)) rfl ?_; (refine L_storeA rfl rfl hst rfl (by rfl) (ev_tmp rfl) (by (exact Dig.one _)) el_api_Digest (by (rfl)) 0 rfl (by (rfl)) ?_; clear hst; intro WS2 hst; simp only [List.set_cons_zero, List.set_cons_succ] at hst)))
  refine bp_cell_tmp rfl rfl rfl rfl (hst.get 0 rfl) Tryz.underlying32 rfl el_api_Digest (by (rfl)) ?_
  exact ⟨rfl, hst.forget⟩
end Go.Proofs.YtaebeemnipafbaaGreatDoor

set_option linter.unusedSimpArgs false
set_option linter.unusedVariables false
namespace Go.Proofs.YtaebeemnipafbaaGreatDoor
open Go.RowKit
set_option maxHeartbeats 8000000 in
set_option maxRecDepth 100000 in
theorem gproof_any : ∀ (n : Nat) (ls : List Dig) (A : Option Addr) (c m : Nat) (own : Bool) (w : World), Tb w → SlR w A n c 32 (digsL ls) → 1 ≤ m → m ≤ n → n ≤ 256 →
  Calls Tryz.prog 94 #[.slice A n c, .int .i64 (m : Int), .bool own] w fun e w' => ∃ O oc, e = .returned (.slice O (plN n m own) oc) ∧ St w w' [.row O (plN n m own) oc 32 32 (digsL (gpN ls m own))] := by
 intro n
 induction n using Nat.strongRecOn with
 | ind n ih =>
 intro ls A c m own w hT hx hm1 hmn hn
 have hst := St.refl w
 have HT := Lib.hid hT
 have hl : ls.length = n := by have := hx.1; rw [length_digsL] at this; omega
 have hcap := hx.2.1
 clear hT
 by_cases h : m = n
 ·subst h
  rw [gpN_all ls own hl.symm, plN_all]
  cases own with
  | true =>
   clear ih
   go_enter Tryz.func94, Tryz.ntmps94
   go_wp2_with (fail)
   go_ret
   exact ⟨_, _, rfl, hst.nilRow 32 32⟩
  | false =>
   have HR := Lib.hid (fun w hT hs => tRoot_any ls A m c w hT hs hn)
   have HB := Lib.hid (show (rootN ls).arr.toList = digsL [rootN ls] by rw [digsL_single, Dig.toList])
   clear ih
   generalize rootN ls = r at *
   go_enter Tryz.func94, Tryz.ntmps94
   go_wp2_with (first | (go_at_call 38; (try clear hnew); refine (HR.out _ (HT.out.of hst) (hst.old (by decide) hx)).mono ?_; rintro e Wk1 ⟨rfl, hnew⟩; replace hst := hst.keep hnew) | (refine L_allocA (d := some 7) rfl rfl rfl el_api_Digest ?_; (try clear hnew); intro g7 W7 hnew; replace hst := hst.trans hnew; simp only [List.cons_append, List.nil_append] at hst) | (refine wpl_at (.store 32 (.tmp 7) (.tmp 22)) rfl ?_; (refine L_storeA rfl rfl hst rfl (by rfl) (ev_tmp rfl) (by (exact Dig.one _)) el_api_Digest (by (exact Dig.size _)) 0 rfl (by (rfl)) ?_; clear hst; intro WS6 hst; simp only [List.set_cons_zero, List.set_cons_succ] at hst)) | ((refine L_loadA (d := some 24) rfl rfl rfl (by rfl) Tryz.underlying32 rfl el_api_Digest (by (exact hst.get 0 rfl)) (by (exact Dig.size _)) ?_)) | (refine L_buildS (d := some 25) rfl rfl rfl [_] (bs_1 (ev_tmp rfl)) rfl Tryz.underlying44 el_api_Digest rfl (by (simp [Value.cells, Dig.size]; done)) (by decide) (by decide) ?_; (try clear hnew); intro g25 W25 hnew; replace hst := hst.trans hnew; simp only [List.cons_append, List.nil_append] at hst; simp only [List.flatMap_cons, List.flatMap_nil, List.append_nil, Value.cells, List.toList_toArray] at hst))
   go_ret
   refine ⟨_, _, rfl, ?_⟩
   (try simp only [Bool.false_eq_true, if_false])
   rw [← HB.out]
   exact hst.pick [0] (by decide)
 ·have hlt := halfN_lt n (by omega)
  have hps := halfN_pos n
  have h' : ((m : Int) == (n : Int)) = false := by rw [beq_eq_false_iff_ne]; omega
  have HF := Lib.hid (fun w => half_any n (by omega) (by omega) w)
  have H1 := Lib.hid (show ((digsL ls).drop (0 * 32)).take ((halfN n - 0) * 32) = digsL (ls.take (halfN n)) by rw [digsL_cut]; rfl)
  have H2 := Lib.hid (show ((digsL ls).drop (halfN n * 32)).take ((n - halfN n) * 32) = digsL (ls.drop (halfN n)) by rw [digsL_cut, List.take_of_length_le (by rw [List.length_drop]; omega)])
  by_cases hk : m ≤ halfN n
  ·have hle := plN_le (halfN n) m own
   rw [plN_left h (by omega) hk]
   have HI := Lib.hid (fun A c w hT hs => ih (halfN n) hlt (ls.take (halfN n)) A c m own w hT hs hm1 hk (by omega))
   have HR := Lib.hid (fun A c w hT hs => tRoot_any (ls.drop (halfN n)) A (n - halfN n) c w hT hs (by omega))
   have HB := Lib.hid (show digsL (gpN (ls.take (halfN n)) m own) ++ (rootN (ls.drop (halfN n))).arr.toList = digsL (gpN ls m own) by
    rw [gpN_left (ls := ls) (by omega) (by omega) (by rw [hl]; exact hk), hl, digsL_append, digsL_single, Dig.toList])
   have hk' : (m : Int) ≤ (halfN n : Int) := by omega
   clear ih hl
   generalize plN (halfN n) m own = r at *
   generalize halfN n = k at *
   generalize rootN (ls.drop k) = x at *
   go_enter Tryz.func94, Tryz.ntmps94
   go_upto_region 1 with (fail)
   go_upto_region 6 with (fail)
   go_upto_region 7 with ((go_at_call 91; (try clear hnew); refine (HF.out _).mono ?_; rintro e Wk2 ⟨rfl, hnew⟩; replace hst := hst.keep hnew))
   go_upto_region 8 with (fail)
   go_upto_region 9 with (first | (go_at_call 38; (try clear hnew); refine (HR.out A35 c35 _ (HT.out.of hst) (by rw [← H2.out]; exact hst.old (by decide) hs35)).mono ?_; rintro e Wk3 ⟨rfl, hnew⟩; replace hst := hst.keep hnew) | ((refine L_cutV (d := some 35) rfl rfl rfl (by rfl) Tryz.underlying44 el_api_Digest (by decide) hx k n _ (Or.inr ⟨_, _, rfl, by (exact ev_tmp rfl)⟩) (Or.inl ⟨rfl, rfl, rfl⟩) (Or.inl ⟨rfl, rfl⟩) (by omega) (by omega) (by omega) (by omega) ?_; intro A35 c35 hs35)) | (refine L_allocA (d := some 10) rfl rfl rfl el_api_Digest ?_; (try clear hnew); intro g10 W10 hnew; replace hst := hst.trans hnew; simp only [List.cons_append, List.nil_append] at hst) | (refine wpl_at (.store 32 (.tmp 10) (.tmp 37)) rfl ?_; (refine L_storeA rfl rfl hst rfl (by rfl) (ev_tmp rfl) (by (exact Dig.one _)) el_api_Digest (by (exact Dig.size _)) 0 rfl (by (rfl)) ?_; clear hst; intro WS8 hst; simp only [List.set_cons_zero, List.set_cons_succ] at hst)))
   (try clear hnew)
   refine wp_region_pn (.one 0 3 (.one 1 3 (.one 3 3 (.one 4 3 (.one 2 0 (.one 6 0 (.two 5 (.one 7 2 (.one 8 1 (.one 9 2 .nil))) 7 (.one 5 2 (.one 8 1 (.one 9 2 .nil)))))))))) (by kernel_rfl) (by kernel_rfl) ?_
   replace hst := hst.drew
   refine pn_p rfl rfl ?_; go_wp2_with fail
   refine pn_p rfl rfl ?_; go_wp2_with fail
   refine pn_p rfl rfl ?_; go_wp2_with fail
   refine pn_p rfl rfl ?_; go_wp2_with fail
   refine pn_q rfl rfl ?_; go_wp2_with (((refine L_cutV (d := some 41) rfl rfl rfl (by rfl) Tryz.underlying44 el_api_Digest (by decide) hx 0 k _ (Or.inl ⟨rfl, rfl⟩) (Or.inr ⟨_, _, rfl, by (exact ev_tmp rfl)⟩) (Or.inl ⟨rfl, rfl⟩) (by omega) (by omega) (by omega) (by omega) ?_; intro A41 c41 hs41)))
   refine pn_q rfl rfl ?_; go_wp2_with (((refine L_loadA (d := some 45) rfl rfl rfl (by rfl) Tryz.underlying32 rfl el_api_Digest (by (exact hst.get 0 rfl)) (by (exact Dig.size _)) ?_)))
   refine pn_two rfl rfl ?_ ?_
   ·go_wp2_with ((go_at_call 94; (try clear hnew); refine (HI.out A41 c41 _ (HT.out.of hst) (by rw [← H1.out]; exact hst.old (by decide) hs41)).mono ?_; rintro e Wk4 ⟨O44, c44, rfl, hnew⟩; replace hst := hst.trans hnew; simp only [List.cons_append, List.nil_append] at hst)); refine ⟨by (exact hnew.below), ?_⟩
    refine pn_g rfl ?_; go_wp2_with ((refine L_buildS (d := some 46) rfl rfl rfl [_] (bs_1 (ev_tmp rfl)) rfl Tryz.underlying44 el_api_Digest rfl (by (simp [Value.cells, Dig.size]; done)) (by decide) (by decide) ?_; (try clear hnew); intro g46 W46 hnew; replace hst := hst.trans hnew; simp only [List.cons_append, List.nil_append] at hst; simp only [List.flatMap_cons, List.flatMap_nil, List.append_nil, Value.cells, List.toList_toArray] at hst)); refine ⟨by (exact hnew.below), ?_⟩
    refine pn_e rfl ?_; go_wp2_with ((refine L_appendO (d := some 47) rfl rfl hst rfl (by rfl) (by rfl) Tryz.underlying44 el_api_Digest rfl (by decide) (by decide) 1 rfl (by (rfl)) (by (exact hst.sl 0 rfl)) (by (exact oneCell_bytes)) (by omega) ?_; clear hst; intro A47 c47 W47 hst; simp only [List.set_cons_zero, List.set_cons_succ, List.nil_append, Nat.zero_add] at hst))
    refine pn_g rfl ?_; go_wp2_with fail; refine ⟨by (exact Below.refl _ _), ?_⟩
    refine pn_nil ?_
    go_wp2_with fail
    go_ret
    refine ⟨_, _, rfl, ?_⟩
    rw [HB.out] at hst
    (exact hst.pick [1] (by decide))
   ·go_wp2_with ((refine L_buildS (d := some 46) rfl rfl rfl [_] (bs_1 (ev_tmp rfl)) rfl Tryz.underlying44 el_api_Digest rfl (by (simp [Value.cells, Dig.size]; done)) (by decide) (by decide) ?_; (try clear hnew); intro g46 W46 hnew; replace hst := hst.trans hnew; simp only [List.cons_append, List.nil_append] at hst; simp only [List.flatMap_cons, List.flatMap_nil, List.append_nil, Value.cells, List.toList_toArray] at hst)); refine ⟨by (exact hnew.below), ?_⟩
    refine pn_g rfl ?_; go_wp2_with ((go_at_call 94; (try clear hnew); refine (HI.out A41 c41 _ (HT.out.of hst) (by rw [← H1.out]; exact hst.old (by decide) hs41)).mono ?_; rintro e Wk4 ⟨O44, c44, rfl, hnew⟩; replace hst := hst.trans hnew; simp only [List.cons_append, List.nil_append] at hst)); refine ⟨by (exact hnew.below), ?_⟩
    refine pn_e rfl ?_; go_wp2_with ((refine L_appendO (d := some 47) rfl rfl hst rfl (by rfl) (by rfl) Tryz.underlying44 el_api_Digest rfl (by decide) (by decide) 0 rfl (by (rfl)) (by (exact hst.sl 1 rfl)) (by (exact oneCell_bytes)) (by omega) ?_; clear hst; intro A47 c47 W47 hst; simp only [List.set_cons_zero, List.set_cons_succ, List.nil_append, Nat.zero_add] at hst))
    refine pn_g rfl ?_; go_wp2_with fail; refine ⟨by (exact Below.refl _ _), ?_⟩
    refine pn_nil ?_
    go_wp2_with fail
    go_ret
    refine ⟨_, _, rfl, ?_⟩
    rw [HB.out] at hst
    (exact hst.pick [0] (by decide))
  ·have hle := plN_le (n - halfN n) (m - halfN n) false
   rw [plN_right h (by omega) hk]
   have HI := Lib.hid (fun A c w hT hs => ih (n - halfN n) (by omega) (ls.drop (halfN n)) A c (m - halfN n) false w hT hs (by omega) (by omega) (by omega))
   have HR := Lib.hid (fun A c w hT hs => tRoot_any (ls.take (halfN n)) A (halfN n) c w hT hs (by omega))
   have HB := Lib.hid (show digsL (gpN (ls.drop (halfN n)) (m - halfN n) false) ++ (rootN (ls.take (halfN n))).arr.toList = digsL (gpN ls m own) by
    rw [gpN_right (ls := ls) (by omega) (by omega) (by rw [hl]; exact hk), hl, digsL_append, digsL_single, Dig.toList])
   have e1 : (((m - halfN n : Nat)) : Int) = (m : Int) - (halfN n : Int) := by omega
   rw [e1] at HI
   have hk' : ¬ (m : Int) ≤ (halfN n : Int) := by omega
   clear ih hl e1
   generalize plN (n - halfN n) (m - halfN n) false = r at *
   generalize halfN n = k at *
   generalize rootN (ls.take k) = x at *
   go_enter Tryz.func94, Tryz.ntmps94
   go_upto_region 1 with (fail)
   go_upto_region 6 with (fail)
   go_upto_region 7 with ((go_at_call 91; (try clear hnew); refine (HF.out _).mono ?_; rintro e Wk5 ⟨rfl, hnew⟩; replace hst := hst.keep hnew))
   go_upto_region 10 with (fail)
   go_upto_region 11 with (first | (go_at_call 38; (try clear hnew); refine (HR.out A51 c51 _ (HT.out.of hst) (by rw [← H1.out]; exact hst.old (by decide) hs51)).mono ?_; rintro e Wk6 ⟨rfl, hnew⟩; replace hst := hst.keep hnew) | ((refine L_cutV (d := some 51) rfl rfl rfl (by rfl) Tryz.underlying44 el_api_Digest (by decide) hx 0 k _ (Or.inl ⟨rfl, rfl⟩) (Or.inr ⟨_, _, rfl, by (exact ev_tmp rfl)⟩) (Or.inl ⟨rfl, rfl⟩) (by omega) (by omega) (by omega) (by omega) ?_; intro A51 c51 hs51)) | (refine L_allocA (d := some 12) rfl rfl rfl el_api_Digest ?_; (try clear hnew); intro g12 W12 hnew; replace hst := hst.trans hnew; simp only [List.cons_append, List.nil_append] at hst) | (refine wpl_at (.store 32 (.tmp 12) (.tmp 53)) rfl ?_; (refine L_storeA rfl rfl hst rfl (by rfl) (ev_tmp rfl) (by (exact Dig.one _)) el_api_Digest (by (exact Dig.size _)) 0 rfl (by (rfl)) ?_; clear hst; intro WS8 hst; simp only [List.set_cons_zero, List.set_cons_succ] at hst)))
   (try clear hnew)
   refine wp_region_pn (.one 0 3 (.one 1 3 (.one 3 3 (.one 4 3 (.one 2 0 (.one 5 0 (.one 7 0 (.two 6 (.one 8 2 (.one 9 1 (.one 10 2 .nil))) 8 (.one 6 2 (.one 9 1 (.one 10 2 .nil))))))))))) (by kernel_rfl) (by kernel_rfl) ?_
   replace hst := hst.drew
   refine pn_p rfl rfl ?_; go_wp2_with fail
   refine pn_p rfl rfl ?_; go_wp2_with fail
   refine pn_p rfl rfl ?_; go_wp2_with fail
   refine pn_p rfl rfl ?_; go_wp2_with fail
   refine pn_q rfl rfl ?_; go_wp2_with (((refine L_cutV (d := some 57) rfl rfl rfl (by rfl) Tryz.underlying44 el_api_Digest (by decide) hx k n _ (Or.inr ⟨_, _, rfl, by (exact ev_tmp rfl)⟩) (Or.inl ⟨rfl, rfl, rfl⟩) (Or.inl ⟨rfl, rfl⟩) (by omega) (by omega) (by omega) (by omega) ?_; intro A57 c57 hs57)))
   refine pn_q rfl rfl ?_; go_wp2_with fail
   refine pn_q rfl rfl ?_; go_wp2_with (((refine L_loadA (d := some 62) rfl rfl rfl (by rfl) Tryz.underlying32 rfl el_api_Digest (by (exact hst.get 0 rfl)) (by (exact Dig.size _)) ?_)))
   refine pn_two rfl rfl ?_ ?_
   ·go_wp2_with ((go_at_call 94; (try clear hnew); refine (HI.out A57 c57 _ (HT.out.of hst) (by rw [← H2.out]; exact hst.old (by decide) hs57)).mono ?_; rintro e Wk7 ⟨O61, c61, rfl, hnew⟩; replace hst := hst.trans hnew; simp only [List.cons_append, List.nil_append] at hst)); refine ⟨by (exact hnew.below), ?_⟩
    refine pn_g rfl ?_; go_wp2_with ((refine L_buildS (d := some 63) rfl rfl rfl [_] (bs_1 (ev_tmp rfl)) rfl Tryz.underlying44 el_api_Digest rfl (by (simp [Value.cells, Dig.size]; done)) (by decide) (by decide) ?_; (try clear hnew); intro g63 W63 hnew; replace hst := hst.trans hnew; simp only [List.cons_append, List.nil_append] at hst; simp only [List.flatMap_cons, List.flatMap_nil, List.append_nil, Value.cells, List.toList_toArray] at hst)); refine ⟨by (exact hnew.below), ?_⟩
    refine pn_e rfl ?_; go_wp2_with ((refine L_appendO (d := some 64) rfl rfl hst rfl (by rfl) (by rfl) Tryz.underlying44 el_api_Digest rfl (by decide) (by decide) 1 rfl (by (rfl)) (by (exact hst.sl 0 rfl)) (by (exact oneCell_bytes)) (by omega) ?_; clear hst; intro A64 c64 W64 hst; simp only [List.set_cons_zero, List.set_cons_succ, List.nil_append, Nat.zero_add] at hst))
    refine pn_g rfl ?_; go_wp2_with fail; refine ⟨by (exact Below.refl _ _), ?_⟩
    refine pn_nil ?_
    go_wp2_with fail
    go_ret
    refine ⟨_, _, rfl, ?_⟩
    rw [HB.out] at hst
    (exact hst.pick [1] (by decide))
   ·go_wp2_with ((refine L_buildS (d := some 63) rfl rfl rfl [_] (bs_1 (ev_tmp rfl)) rfl Tryz.underlying44 el_api_Digest rfl (by (simp [Value.cells, Dig.size]; done)) (by decide) (by decide) ?_; (try clear hnew); intro g63 W63 hnew; replace hst := hst.trans hnew; simp only [List.cons_append, List.nil_append] at hst; simp only [List.flatMap_cons, List.flatMap_nil, List.append_nil, Value.cells, List.toList_toArray] at hst)); refine ⟨by (exact hnew.below), ?_⟩
    refine pn_g rfl ?_; go_wp2_with ((go_at_call 94; (try clear hnew); refine (HI.out A57 c57 _ (HT.out.of hst) (by rw [← H2.out]; exact hst.old (by decide) hs57)).mono ?_; rintro e Wk7 ⟨O61, c61, rfl, hnew⟩; replace hst := hst.trans hnew; simp only [List.cons_append, List.nil_append] at hst)); refine ⟨by (exact hnew.below), ?_⟩
    refine pn_e rfl ?_; go_wp2_with ((refine L_appendO (d := some 64) rfl rfl hst rfl (by rfl) (by rfl) Tryz.underlying44 el_api_Digest rfl (by decide) (by decide) 0 rfl (by (rfl)) (by (exact hst.sl 1 rfl)) (by (exact oneCell_bytes)) (by omega) ?_; clear hst; intro A64 c64 W64 hst; simp only [List.set_cons_zero, List.set_cons_succ, List.nil_append, Nat.zero_add] at hst))
    refine pn_g rfl ?_; go_wp2_with fail; refine ⟨by (exact Below.refl _ _), ?_⟩
    refine pn_nil ?_
    go_wp2_with fail
    go_ret
    refine ⟨_, _, rfl, ?_⟩
    rw [HB.out] at hst
    (exact hst.pick [0] (by decide))
set_option maxHeartbeats 1000000 in
theorem gProof_any (ls : List Dig) (A : Option Addr) (n c m : Nat) (w : World) (hT : Tb w) (hx : SlR w A n c 32 (digsL ls)) (h1 : 1 ≤ m) (hmn : m ≤ n) (hn : n ≤ 256) :
  Calls Tryz.prog 51 #[.slice A n c, .int .i64 (m : Int)] w fun e w' => ∃ O oc, e = .returned (.tuple #[.slice O (plN n m true) oc, .nilIface]) ∧ St w w' [.row O (plN n m true) oc 32 32 (digsL (gpN ls m true))] := by
 have hst := St.refl w
 have HP := Lib.hid (gproof_any n ls A c m true w hT hx h1 hmn hn)
 have t1 : ¬ (256 : Int) < (n : Int) := by omega
 have t2 : ¬ (m : Int) < 1 := by omega
 have t3 : ¬ (n : Int) < (m : Int) := by omega
 go_enter Tryz.func51, Tryz.ntmps51
 go_wp2_with ((go_at_call 94; refine HP.out.mono ?_; rintro e W21 ⟨O, oc, rfl, hnew⟩; replace hst := hnew))
 exact bp_two rfl rfl rfl rfl ⟨_, _, rfl, hst⟩
end Go.Proofs.YtaebeemnipafbaaGreatDoor

set_option maxRecDepth 20000
set_option linter.unusedSimpArgs false
set_option linter.unusedVariables false
namespace Go.Proofs.YtaebeemnipafbaaGreatDoor
open Go.RowKit
def fArr (old : Dig) (A : Option Addr) (n c : Nat) : Array Value := old.arr.push (.slice A n c)
theorem fArr_size (old : Dig) (A : Option Addr) (n c : Nat) : (fArr old A n c).size = 33 := by simp [fArr, Dig.size]
theorem fArr_at (old : Dig) (A : Option Addr) (n c : Nat) : (fArr old A n c)[32]? = some (.slice A n c) := by
 have h := Dig.size old
 rw [fArr, Array.getElem?_push, if_pos h.symm]
theorem fArr_set (old : Dig) (A B : Option Addr) (n c m d : Nat) : (fArr old A n c).setIfInBounds 32 (.slice B m d) = fArr old B m d := by
 have h := Dig.size old
 apply Array.ext_getElem?
 intro i
 rw [Array.getElem?_setIfInBounds, fArr_size, fArr, fArr, Array.getElem?_push, Array.getElem?_push, h]
 by_cases hi : 32 = i
 ·subst hi; simp
 ·rw [if_neg hi, if_neg (by omega), if_neg (by omega)]
theorem fArr_old {W : World} {g : Nat} {t : TypeId} {fr : Nat × Nat} {old : Dig} {A : Option Addr} {n c : Nat} (h : W.heap[g]? = some (.cells (fArr old A n c) t fr)) : W.rangeAt g 0 old.arr.toList := rangeAt_of_cells h fun j v hv => by
 have hj : j < 32 := by
  have := (List.getElem?_eq_some_iff.1 hv).1
  rw [Array.length_toList, Dig.size] at this
  exact this
 have h := Dig.size old
 rw [Nat.zero_add, fArr, Array.getElem?_push, if_neg (by omega)]
 simpa using hv
theorem el_grow_folder : ElemIs Tryz.prog 261 (.agg (fArr zeroD none 0 0)) 33 56 := by unfold ElemIs; kernel_rfl
theorem el_S_api_Digest : ElemIs Tryz.prog 44 (.slice none 0 0) 1 24 := by unfold ElemIs; kernel_rfl
theorem el_error : ElemIs Tryz.prog 36 (.nilIface) 1 16 := by unfold ElemIs; kernel_rfl
section
variable {ops : Array Oper} {rest : List Oper} {o : Oper} {a : Act} {W : World} {Q : Exit → Act → World → Prop} {d : Option Tmp}
theorem L_buildF (hd : o.dst = d) (hw : Region.wanted o (yielded ops a.tmps) = true) {x y : Operand} (ho : o.op = .build 261 #[(0, x), (1, y)]) {old : Dig} (hx : a.eval x = .agg old.arr) {A : Option Addr} {n c : Nat} (hy : a.eval y = .slice A n c)
  (h : wpList Tryz.prog ops Q rest (a.put d (.agg (fArr old A n c))) W) : wpList Tryz.prog ops Q (o :: rest) a W := by
 refine L_val hd hw ?_ h
 unfold execOp
 simp only [ho]
 have hz := el_grow_folder.run_zero W
 have h1 := el_api_Digest.run_size W
 have h2 := el_S_api_Digest.run_size W
 have h3 : (fArr zeroD none 0 0).size = 33 := fArr_size _ _ _ _
 have h4 : Array.foldl (fun (cs : Array Value) (x : Value × Nat) => cs.setIfInBounds x.snd x.fst) (fArr zeroD none 0 0) old.arr.zipIdx 0 32 = fArr old none 0 0 := by
  have h := Dig.size old
  have h' := Dig.size zeroD
  have e1 : 32 = old.arr.zipIdx.size := by simp [h]
  have h5 := fold_put old.arr.toList 0 0 (fArr zeroD none 0 0) (by simp [h, h3])
  simp only [Nat.zero_add] at h5
  rw [e1, ← Array.foldl_toList, Array.toList_zipIdx, h5]
  unfold putAt fArr
  apply Array.ext'
  simp [h, h']
 simp [Instr.build, hz, run_underlying Tryz.underlying261, h1, h2, hx, hy, Value.cells, Instr.fill, h3, Dig.size, h4, fArr_size, fArr_set]
end
section
variable {P : Program} {a : Act} {W : World}
theorem bp_cell2 {fn : Func} {R : Ending → World → Prop} {p q : Tmp} {ty ty' : TypeId} (hr : fn.results = #[.cell p ty, .cell q ty']) (hd : a.defers = []) {g g' : Nat} (hp : a.tmps.toList[p]? = some (.pointer (some ⟨g, 0, none⟩))) (hq : a.tmps.toList[q]? = some (.pointer (some ⟨g', 0, none⟩))) {t t' : TypeId} {cs cs' : Array Value} {fr fr' : Nat × Nat} (hg : W.heap[g]? = some (.cells cs t fr)) (hg' : W.heap[g']? = some (.cells cs' t' fr'))
  {td td' : TypeDesc} (hu : P.underlying ty = some td) (hrow : td.isRow = true) (hu' : P.underlying ty' = some td') (hrow' : td'.isRow = true) {z z' : Value} {s s' b b' : Nat} (he : ElemIs P ty z s b) (hs : cs.size = s) (he' : ElemIs P ty' z' s' b') (hs' : cs'.size = s') (hR : R (.returned (.tuple #[.agg cs, .agg cs'])) W) : bodyPost P fn R .ret a W := by
 have hp' : a.tmps[p]?.getD undef = .pointer (some ⟨g, 0, none⟩) := by
  have : a.tmps[p]? = some (.pointer (some ⟨g, 0, none⟩)) := by simpa using hp
  simp [this]
 have hq' : a.tmps[q]?.getD undef = .pointer (some ⟨g', 0, none⟩) := by
  have : a.tmps[q]? = some (.pointer (some ⟨g', 0, none⟩)) := by simpa using hq
  simp [this]
 refine bodyPost_ret ?_ hd hR
 simp [results, hr, hp', hq', asAddr, run_loadVar_row W g t ty cs fr td hg hu (by cases td <;> simp_all [TypeDesc.isRow]) (by rw [he.size, hs]), run_loadVar_row W g' t' ty' cs' fr' td' hg' hu' (by cases td' <;> simp_all [TypeDesc.isRow]) (by rw [he'.size, hs'])]
end
theorem St.keep3 {w0 W : World} {L : List Res} {a x y z : Res} (h : St w0 W (a :: x :: y :: z :: L)) : St w0 W (a :: L) := h.drop ((((List.Sublist.refl L).cons z).cons y).cons x |>.cons_cons a)
theorem St.keep2 {w0 W : World} {L : List Res} {a x y : Res} (h : St w0 W (a :: x :: y :: L)) : St w0 W (a :: L) := h.drop (((List.Sublist.refl L).cons y).cons x |>.cons_cons a)
end Go.Proofs.YtaebeemnipafbaaGreatDoor

set_option maxRecDepth 20000
set_option linter.unusedSimpArgs false
set_option linter.unusedVariables false
namespace Go.Proofs.YtaebeemnipafbaaGreatDoor
open Go.RowKit
theorem path_end (q : List Dig) (d : Dig) (r : Nat) (h : q.length = r) : ((digsL (q ++ [d])).drop (r * 32)).take 32 = d.arr.toList := by
 rw [digsL_append, digsL_single, ← h, List.drop_left' (by rw [length_digsL]), List.take_of_length_le (by rw [Array.length_toList, Dig.size]; exact Nat.le_refl _)]
set_option maxHeartbeats 4000000 in
set_option maxRecDepth 100000 in
theorem take_any (old d : Dig) (q : List Dig) (A : Option Addr) (n c g : Nat) (w0 w : World) (L : List Res) (hst : St w0 w (.blk g 261 (fArr old A n c) :: L)) (hx : SlR w0 A n c 32 (digsL (q ++ [d]))) :
  Calls Tryz.prog 187 #[.pointer (some ⟨g, 0, none⟩)] w fun e w' => e = .returned d.v ∧ ∃ A' c', St w0 w' (.blk g 261 (fArr old A' (n - 1) c') :: L) ∧ SlR w0 A' (n - 1) c' 32 (digsL q) := by
 have hn : n = q.length + 1 := by have := hx.1; rw [length_digsL, List.length_append] at this; simp at this; omega
 obtain ⟨r, hr⟩ : ∃ r, q.length = r := ⟨_, rfl⟩
 rw [hr] at hn
 subst hn
 have hcap := hx.2.1
 have hmax := hx.2.2.1
 simp only [maxLen] at hmax
 have HF := Lib.hid (fArr_at old A (r + 1) c)
 have HX := Lib.hid (show ((digsL (q ++ [d])).drop ((r : Int).toNat * 32)).take 32 = d.arr.toList from path_end q d r hr)
 have HC := Lib.hid (show ((digsL (q ++ [d])).drop (0 * 32)).take ((r - 0) * 32) = digsL q by rw [digsL_cut, List.drop_zero, Nat.sub_zero, List.take_left' hr])
 have h0 : ((r : Int) + 1 == 0) = false := by rw [beq_eq_false_iff_ne]; omega
 rw [show r + 1 - 1 = r by omega]
 clear hr
 generalize digsL (q ++ [d]) = lx at *
 generalize digsL q = lq at *
 go_enter Tryz.func187, Tryz.ntmps187
 go_upto_region 1 with ((refine L_allocA (d := some 2) rfl rfl rfl el_api_Digest ?_; (try clear hnew); intro g2 W2 hnew; replace hst := hst.trans hnew; simp only [List.cons_append, List.nil_append] at hst))
 go_upto_region 3 with ((refine L_load1 (d := some 7) rfl rfl rfl (by rfl) Tryz.underlying44 rfl (by (exact cell_of (hst.get 1 rfl) HF.out)) ?_))
 (try clear hnew)
 refine wp_region_idx [(0, 0), (1, 0), (2, 0), (3, 0), (4, 0), (5, 0), (6, 0), (7, 0), (8, 0), (9, 0), (10, 0), (11, 0), (12, 2), (13, 1)] (by kernel_rfl) (by kernel_rfl) ?_
 replace hst := hst.drew
 refine idx_q rfl rfl ?_; go_wp2_with fail
 refine idx_q rfl rfl ?_; go_wp2_with fail
 refine idx_qf rfl rfl (by kernel_rfl) ?_; go_wp2_with fail
 refine idx_q rfl rfl ?_; go_wp2_with ((refine L_load1 (d := some 14) rfl rfl rfl (by rfl) Tryz.underlying44 rfl (by (exact cell_of (hst.get 1 rfl) HF.out)) ?_))
 refine idx_q rfl rfl ?_; go_wp2_with fail
 refine idx_q rfl rfl ?_; go_wp2_with fail
 refine idx_qf rfl rfl (by kernel_rfl) ?_; go_wp2_with fail
 refine idx_q rfl rfl ?_; go_wp2_with ((refine L_load1 (d := some 18) rfl rfl rfl (by rfl) Tryz.underlying44 rfl (by (exact cell_of (hst.get 1 rfl) HF.out)) ?_))
 refine idx_q rfl rfl ?_; go_wp2_with (fail)
 refine idx_q rfl rfl ?_; go_wp2_with fail
 refine idx_q rfl rfl ?_; go_wp2_with ((refine L_idxS (d := some 21) rfl rfl rfl (by rfl) (by rfl) Tryz.underlying44 el_api_Digest (by (exact hst.old (by decide) hx)) (by omega) (by omega) ?_; intro o21 p21 ha21 hr21; ((subst ha21))))
 refine idx_q rfl rfl ?_; go_wp2_with ((refine L_loadM (d := some 22) rfl rfl rfl (by rfl) Tryz.underlying32 rfl el_api_Digest (cs := d.arr) (by rw [← HX.out]; exact hr21) (Dig.size _) ?_))
 refine idx_g rfl ?_; go_wp2_with ((refine L_allocA (d := some 3) rfl rfl rfl el_api_Digest ?_; (try clear hnew); intro g3 W3 hnew; replace hst := hst.trans hnew; simp only [List.cons_append, List.nil_append] at hst)); refine ⟨by (exact hnew.below), ?_⟩
 refine idx_e rfl ?_; go_wp2_with ((refine wpl_at (.store 32 (.tmp 3) (.tmp 22)) rfl ?_; (refine L_storeA rfl rfl hst rfl (by rfl) (ev_tmp rfl) (by (exact Dig.one _)) el_api_Digest (by (exact Dig.size _)) 0 rfl (by (rfl)) ?_; clear hst; intro WS13 hst; simp only [List.set_cons_zero, List.set_cons_succ] at hst)))
 refine idx_nil ?_
 go_wp2_with fail
 (try clear hnew)
 refine wp_region_idx [(0, 0), (1, 0), (2, 0), (3, 0), (4, 0), (5, 2), (6, 2), (7, 2), (8, 2), (9, 2), (10, 2), (11, 2), (12, 2), (13, 2), (14, 1)] (by kernel_rfl) (by kernel_rfl) ?_
 replace hst := hst.drew
 refine idx_q rfl rfl ?_; go_wp2_with fail
 refine idx_q rfl rfl ?_; go_wp2_with fail
 refine idx_q rfl rfl ?_; go_wp2_with fail
 refine idx_qf rfl rfl (by kernel_rfl) ?_; go_wp2_with fail
 refine idx_q rfl rfl ?_; go_wp2_with ((refine L_load1 (d := some 27) rfl rfl rfl (by rfl) Tryz.underlying44 rfl (by (exact cell_of (hst.get 2 rfl) HF.out)) ?_))
 refine idx_g rfl ?_; go_wp2_with fail; refine ⟨by (exact Below.refl _ _), ?_⟩
 refine idx_g rfl ?_; go_wp2_with fail; refine ⟨by (exact Below.refl _ _), ?_⟩
 refine idx_g rfl ?_; go_wp2_with fail; refine ⟨by (exact Below.refl _ _), ?_⟩
 refine idx_g rfl ?_; go_wp2_with ((refine L_load1 (d := some 31) rfl rfl rfl (by rfl) Tryz.underlying44 rfl (by (exact cell_of (hst.get 2 rfl) HF.out)) ?_)); refine ⟨by (exact Below.refl _ _), ?_⟩
 refine idx_g rfl ?_; go_wp2_with (fail); refine ⟨by (exact Below.refl _ _), ?_⟩
 refine idx_g rfl ?_; go_wp2_with fail; refine ⟨by (exact Below.refl _ _), ?_⟩
 refine idx_g rfl ?_; go_wp2_with (((refine L_cutV (d := some 34) rfl rfl rfl (by rfl) Tryz.underlying44 el_api_Digest (by decide) hx 0 r _ (Or.inl ⟨rfl, rfl⟩) (Or.inr ⟨_, _, rfl, by (exact ev_tmp rfl)⟩) (Or.inl ⟨rfl, rfl⟩) (by omega) (by omega) (by omega) (by omega) ?_; intro A34 c34 hs34))); refine ⟨by (exact Below.refl _ _), ?_⟩
 refine idx_g rfl ?_; go_wp2_with fail; refine ⟨by (exact Below.refl _ _), ?_⟩
 refine idx_g rfl ?_; go_wp2_with fail; refine ⟨by (exact Below.refl _ _), ?_⟩
 refine idx_e rfl ?_; go_wp2_with ((refine wpl_at (.store 44 (.tmp 36) (.tmp 34)) rfl ?_; refine L_store1 rfl rfl hst rfl (by rfl) (ev_tmp rfl) rfl el_S_api_Digest 2 rfl (by rw [fArr_size]; decide) ?_; clear hst; intro WS14 hst; simp only [List.set_cons_zero, List.set_cons_succ, fArr_set] at hst))
 refine idx_nil ?_
 go_wp2_with (first | ((refine L_loadA (d := some 37) rfl rfl rfl (by rfl) Tryz.underlying32 rfl el_api_Digest (by (exact hst.get 0 rfl)) (by (exact Dig.size _)) ?_)) | (refine wpl_at (.store 32 (.tmp 2) (.tmp 37)) rfl ?_; (refine L_storeA rfl rfl hst rfl (by rfl) (ev_tmp rfl) (by (exact Dig.one _)) el_api_Digest (by (exact Dig.size _)) 1 rfl (by (rfl)) ?_; clear hst; intro WS1 hst; simp only [List.set_cons_zero, List.set_cons_succ] at hst)))
 refine bp_cell rfl rfl rfl (hst.get 1 rfl) Tryz.underlying32 rfl el_api_Digest (by (exact Dig.size _)) ?_
 exact ⟨rfl, A34, c34, hst.tailN 2, by rw [← HC.out]; exact hs34⟩
set_option maxHeartbeats 8000000 in
set_option maxRecDepth 100000 in
theorem gfold_any (old : Dig) (g : Nat) (w0 : World) (hT : Tb w0) (r : List Dig) : ∀ (n m : Nat) (own : Bool) (p : List Dig) (A : Option Addr) (k c : Nat) (w : World) (L : List Res), St w0 w (.blk g 261 (fArr old A k c) :: L) → SlR w0 A k c 32 (digsL (r ++ p)) → p.length = plN n m own → 1 ≤ m → m ≤ n → n ≤ 256 →
  Calls Tryz.prog 181 #[.pointer (some ⟨g, 0, none⟩), .int .i64 (m : Int), .int .i64 (n : Int), .bool own] w fun e w' => e = .returned (.tuple #[(grN n m own old p).1.v, (grN n m own old p).2.v]) ∧ ∃ A' c', St w0 w' (.blk g 261 (fArr old A' r.length c') :: L) ∧ SlR w0 A' r.length c' 32 (digsL r) := by
 intro n
 induction n using Nat.strongRecOn with
 | ind n ih =>
 intro m own p A k c w L hst hx hp hm1 hmn hn
 have HT := Lib.hid hT
 have hk : k = r.length + p.length := by have := hx.1; rw [length_digsL, List.length_append] at this; omega
 by_cases h : m = n
 ·subst h
  rw [plN_all] at hp
  cases own with
  | true =>
   obtain rfl : p = [] := List.eq_nil_of_length_eq_zero (by simpa using hp)
   rw [List.append_nil] at hx
   obtain rfl : k = r.length := by simpa using hk
   rw [grN_all]
   clear ih hp hk
   generalize digsL r = lr at *
   generalize r.length = k at *
   go_enter Tryz.func181, Tryz.ntmps181
   go_upto_region 1 with (first | (refine L_allocA (d := some 8) rfl rfl rfl el_api_Digest ?_; (try clear hnew); intro g8 W8 hnew; replace hst := hst.trans hnew; simp only [List.cons_append, List.nil_append] at hst) | (refine L_allocA (d := some 9) rfl rfl rfl el_api_Digest ?_; (try clear hnew); intro g9 W9 hnew; replace hst := hst.trans hnew; simp only [List.cons_append, List.nil_append] at hst))
   go_upto_region 2 with (fail)
   go_upto_region 3 with (fail)
   (try clear hnew)
   refine wp_region_pm (.one 0 3 (.one 4 3 (.one 1 0 (.one 2 0 (.one 3 0 (.two 5 2 (.two 6 2 (.two 7 2 (.one 8 1 (.one 9 1 .nil)) 8 1 (.one 7 2 (.one 9 1 .nil))) 8 1 (.one 6 2 (.one 7 2 (.one 9 1 .nil)))) 8 1 (.one 5 2 (.one 6 2 (.one 7 2 (.one 9 1 .nil)))))))))) (by kernel_rfl) (by kernel_rfl) ?_
   replace hst := hst.drew
   refine pm_p rfl rfl ?_; go_wp2_with fail
   refine pm_p rfl rfl ?_; go_wp2_with fail
   refine pm_q rfl rfl ?_; go_wp2_with fail
   refine pm_qf rfl rfl (by kernel_rfl) ?_; go_wp2_with fail
   refine pm_q rfl rfl ?_; go_wp2_with (((refine L_loadM (d := some 20) rfl rfl rfl (by rfl) Tryz.underlying32 rfl el_api_Digest (by (exact fArr_old (hst.get 2 rfl))) (by (exact Dig.size _)) ?_)))
   refine pm_two (ki := 2) (kj := 1) rfl rfl ?_ ?_
   ·go_wp2_with fail; refine ⟨fun _ => (by (exact Below.refl _ _)), ?_⟩
    refine pm_two (ki := 2) (kj := 1) rfl rfl ?_ ?_
    ·go_wp2_with fail; refine ⟨fun _ => (by (exact Below.refl _ _)), ?_⟩
     refine pm_two (ki := 2) (kj := 1) rfl rfl ?_ ?_
     ·go_wp2_with (((refine L_loadM (d := some 24) rfl rfl rfl (by rfl) Tryz.underlying32 rfl el_api_Digest (by (exact fArr_old (hst.get 2 rfl))) (by (exact Dig.size _)) ?_))); refine ⟨fun _ => (by (exact Below.refl _ _)), ?_⟩
      refine pm_e rfl ?_; go_wp2_with ((refine wpl_at (.store 32 (.tmp 8) (.tmp 20)) rfl ?_; (refine L_storeA rfl rfl hst rfl (by rfl) (ev_tmp rfl) (by (exact Dig.one _)) el_api_Digest (by (exact Dig.size _)) 1 rfl (by (rfl)) ?_; clear hst; intro WS8 hst; simp only [List.set_cons_zero, List.set_cons_succ] at hst)))
      refine pm_e rfl ?_; go_wp2_with ((refine wpl_at (.store 32 (.tmp 9) (.tmp 24)) rfl ?_; (refine L_storeA rfl rfl hst rfl (by rfl) (ev_tmp rfl) (by (exact Dig.one _)) el_api_Digest (by (exact Dig.size _)) 0 rfl (by (rfl)) ?_; clear hst; intro WS9 hst; simp only [List.set_cons_zero, List.set_cons_succ] at hst)))
      refine pm_nil ?_
      go_wp2_with fail
      refine bp_cell2 rfl rfl rfl rfl (hst.get 1 rfl) (hst.get 0 rfl) Tryz.underlying32 rfl Tryz.underlying32 rfl el_api_Digest (Dig.size _) el_api_Digest (Dig.size _) ?_
      exact ⟨rfl, A, c, hst.tailN 2, hx⟩
     ·go_wp2_with ((refine wpl_at (.store 32 (.tmp 8) (.tmp 20)) rfl ?_; (refine L_storeA rfl rfl hst rfl (by rfl) (ev_tmp rfl) (by (exact Dig.one _)) el_api_Digest (by (exact Dig.size _)) 1 rfl (by (rfl)) ?_; clear hst; intro WS8 hst; simp only [List.set_cons_zero, List.set_cons_succ] at hst))); refine ⟨fun h => absurd h (by decide), ?_⟩
      refine pm_g rfl ?_; go_wp2_with (((refine L_loadM (d := some 24) rfl rfl rfl (by rfl) Tryz.underlying32 rfl el_api_Digest (by (exact fArr_old (hst.get 2 rfl))) (by (exact Dig.size _)) ?_))); refine ⟨by (exact Below.refl _ _), ?_⟩
      refine pm_e rfl ?_; go_wp2_with ((refine wpl_at (.store 32 (.tmp 9) (.tmp 24)) rfl ?_; (refine L_storeA rfl rfl hst rfl (by rfl) (ev_tmp rfl) (by (exact Dig.one _)) el_api_Digest (by (exact Dig.size _)) 0 rfl (by (rfl)) ?_; clear hst; intro WS9 hst; simp only [List.set_cons_zero, List.set_cons_succ] at hst)))
      refine pm_nil ?_
      go_wp2_with fail
      refine bp_cell2 rfl rfl rfl rfl (hst.get 1 rfl) (hst.get 0 rfl) Tryz.underlying32 rfl Tryz.underlying32 rfl el_api_Digest (Dig.size _) el_api_Digest (Dig.size _) ?_
      exact ⟨rfl, A, c, hst.tailN 2, hx⟩
    ·go_wp2_with ((refine wpl_at (.store 32 (.tmp 8) (.tmp 20)) rfl ?_; (refine L_storeA rfl rfl hst rfl (by rfl) (ev_tmp rfl) (by (exact Dig.one _)) el_api_Digest (by (exact Dig.size _)) 1 rfl (by (rfl)) ?_; clear hst; intro WS8 hst; simp only [List.set_cons_zero, List.set_cons_succ] at hst))); refine ⟨fun h => absurd h (by decide), ?_⟩
     refine pm_g rfl ?_; go_wp2_with fail; refine ⟨by (exact Below.refl _ _), ?_⟩
     refine pm_g rfl ?_; go_wp2_with (((refine L_loadM (d := some 24) rfl rfl rfl (by rfl) Tryz.underlying32 rfl el_api_Digest (by (exact fArr_old (hst.get 2 rfl))) (by (exact Dig.size _)) ?_))); refine ⟨by (exact Below.refl _ _), ?_⟩
     refine pm_e rfl ?_; go_wp2_with ((refine wpl_at (.store 32 (.tmp 9) (.tmp 24)) rfl ?_; (refine L_storeA rfl rfl hst rfl (by rfl) (ev_tmp rfl) (by (exact Dig.one _)) el_api_Digest (by (exact Dig.size _)) 0 rfl (by (rfl)) ?_; clear hst; intro WS9 hst; simp only [List.set_cons_zero, List.set_cons_succ] at hst)))
     refine pm_nil ?_
     go_wp2_with fail
     refine bp_cell2 rfl rfl rfl rfl (hst.get 1 rfl) (hst.get 0 rfl) Tryz.underlying32 rfl Tryz.underlying32 rfl el_api_Digest (Dig.size _) el_api_Digest (Dig.size _) ?_
     exact ⟨rfl, A, c, hst.tailN 2, hx⟩
   ·go_wp2_with ((refine wpl_at (.store 32 (.tmp 8) (.tmp 20)) rfl ?_; (refine L_storeA rfl rfl hst rfl (by rfl) (ev_tmp rfl) (by (exact Dig.one _)) el_api_Digest (by (exact Dig.size _)) 1 rfl (by (rfl)) ?_; clear hst; intro WS8 hst; simp only [List.set_cons_zero, List.set_cons_succ] at hst))); refine ⟨fun h => absurd h (by decide), ?_⟩
    refine pm_g rfl ?_; go_wp2_with fail; refine ⟨by (exact Below.refl _ _), ?_⟩
    refine pm_g rfl ?_; go_wp2_with fail; refine ⟨by (exact Below.refl _ _), ?_⟩
    refine pm_g rfl ?_; go_wp2_with (((refine L_loadM (d := some 24) rfl rfl rfl (by rfl) Tryz.underlying32 rfl el_api_Digest (by (exact fArr_old (hst.get 2 rfl))) (by (exact Dig.size _)) ?_))); refine ⟨by (exact Below.refl _ _), ?_⟩
    refine pm_e rfl ?_; go_wp2_with ((refine wpl_at (.store 32 (.tmp 9) (.tmp 24)) rfl ?_; (refine L_storeA rfl rfl hst rfl (by rfl) (ev_tmp rfl) (by (exact Dig.one _)) el_api_Digest (by (exact Dig.size _)) 0 rfl (by (rfl)) ?_; clear hst; intro WS9 hst; simp only [List.set_cons_zero, List.set_cons_succ] at hst)))
    refine pm_nil ?_
    go_wp2_with fail
    refine bp_cell2 rfl rfl rfl rfl (hst.get 1 rfl) (hst.get 0 rfl) Tryz.underlying32 rfl Tryz.underlying32 rfl el_api_Digest (Dig.size _) el_api_Digest (Dig.size _) ?_
    exact ⟨rfl, A, c, hst.tailN 2, hx⟩
  | false =>
   obtain ⟨d, rfl⟩ : ∃ d, p = [d] := by
    match p, hp with
    | [d], _ => exact ⟨d, rfl⟩
   obtain rfl : k = r.length + 1 := by simpa using hk
   have HK := Lib.hid (fun w L hst => take_any old d r A (r.length + 1) c g w0 w L hst hx)
   rw [Nat.add_sub_cancel] at HK
   rw [grN_all]
   simp only [Bool.false_eq_true, if_false, List.getLastD_cons, List.getLastD_nil]
   clear ih hp hk hx
   generalize digsL r = lr at *
   generalize r.length = k at *
   go_enter Tryz.func181, Tryz.ntmps181
   go_upto_region 1 with (first | (refine L_allocA (d := some 8) rfl rfl rfl el_api_Digest ?_; (try clear hnew); intro g8 W8 hnew; replace hst := hst.trans hnew; simp only [List.cons_append, List.nil_append] at hst) | (refine L_allocA (d := some 9) rfl rfl rfl el_api_Digest ?_; (try clear hnew); intro g9 W9 hnew; replace hst := hst.trans hnew; simp only [List.cons_append, List.nil_append] at hst))
   go_upto_region 2 with (fail)
   go_upto_region 4 with (fail)
   go_upto_region 5 with (first | (go_at_call 187; (try clear hnew); refine (HK.out _ _ (hst.front 2 rfl)).mono ?_; rintro e W26 ⟨rfl, A26, c26, hst', hx'⟩; clear hst; have hst := hst'; clear hst'; simp only [List.eraseIdx_cons_succ, List.eraseIdx_cons_zero] at hst) | (refine L_allocA (d := some 10) rfl rfl rfl el_api_Digest ?_; (try clear hnew); intro g10 W10 hnew; replace hst := hst.trans hnew; simp only [List.cons_append, List.nil_append] at hst) | (refine wpl_at (.store 32 (.tmp 10) (.tmp 26)) rfl ?_; (refine L_storeA rfl rfl hst rfl (by rfl) (ev_tmp rfl) (by (exact Dig.one _)) el_api_Digest (by (exact Dig.size _)) 0 rfl (by (rfl)) ?_; clear hst; intro WS3 hst; simp only [List.set_cons_zero, List.set_cons_succ] at hst)))
   (try clear hnew)
   refine wp_region_pm (.one 0 0 (.two 1 2 (.one 2 1 (.one 3 1 .nil)) 2 1 (.one 1 2 (.one 3 1 .nil)))) (by kernel_rfl) (by kernel_rfl) ?_
   replace hst := hst.drew
   refine pm_q rfl rfl ?_; go_wp2_with (((refine L_loadA (d := some 27) rfl rfl rfl (by rfl) Tryz.underlying32 rfl el_api_Digest (by (exact hst.get 0 rfl)) (by (exact Dig.size _)) ?_)))
   refine pm_two (ki := 2) (kj := 1) rfl rfl ?_ ?_
   ·go_wp2_with (((refine L_loadA (d := some 28) rfl rfl rfl (by rfl) Tryz.underlying32 rfl el_api_Digest (by (exact hst.get 0 rfl)) (by (exact Dig.size _)) ?_))); refine ⟨fun _ => (by (exact Below.refl _ _)), ?_⟩
    refine pm_e rfl ?_; go_wp2_with ((refine wpl_at (.store 32 (.tmp 8) (.tmp 27)) rfl ?_; (refine L_storeA rfl rfl hst rfl (by rfl) (ev_tmp rfl) (by (exact Dig.one _)) el_api_Digest (by (exact Dig.size _)) 3 rfl (by (rfl)) ?_; clear hst; intro WS2 hst; simp only [List.set_cons_zero, List.set_cons_succ] at hst)))
    refine pm_e rfl ?_; go_wp2_with ((refine wpl_at (.store 32 (.tmp 9) (.tmp 28)) rfl ?_; (refine L_storeA rfl rfl hst rfl (by rfl) (ev_tmp rfl) (by (exact Dig.one _)) el_api_Digest (by (exact Dig.size _)) 2 rfl (by (rfl)) ?_; clear hst; intro WS3 hst; simp only [List.set_cons_zero, List.set_cons_succ] at hst)))
    refine pm_nil ?_
    go_wp2_with fail
    refine bp_cell2 rfl rfl rfl rfl (hst.get 3 rfl) (hst.get 2 rfl) Tryz.underlying32 rfl Tryz.underlying32 rfl el_api_Digest (Dig.size _) el_api_Digest (Dig.size _) ?_
    exact ⟨rfl, A26, c26, (hst.tailN 1).keep2, hx'⟩
   ·go_wp2_with ((refine wpl_at (.store 32 (.tmp 8) (.tmp 27)) rfl ?_; (refine L_storeA rfl rfl hst rfl (by rfl) (ev_tmp rfl) (by (exact Dig.one _)) el_api_Digest (by (exact Dig.size _)) 3 rfl (by (rfl)) ?_; clear hst; intro WS2 hst; simp only [List.set_cons_zero, List.set_cons_succ] at hst))); refine ⟨fun h => absurd h (by decide), ?_⟩
    refine pm_g rfl ?_; go_wp2_with (((refine L_loadA (d := some 28) rfl rfl rfl (by rfl) Tryz.underlying32 rfl el_api_Digest (by (exact hst.get 0 rfl)) (by (exact Dig.size _)) ?_))); refine ⟨by (exact Below.refl _ _), ?_⟩
    refine pm_e rfl ?_; go_wp2_with ((refine wpl_at (.store 32 (.tmp 9) (.tmp 28)) rfl ?_; (refine L_storeA rfl rfl hst rfl (by rfl) (ev_tmp rfl) (by (exact Dig.one _)) el_api_Digest (by (exact Dig.size _)) 2 rfl (by (rfl)) ?_; clear hst; intro WS3 hst; simp only [List.set_cons_zero, List.set_cons_succ] at hst)))
    refine pm_nil ?_
    go_wp2_with fail
    refine bp_cell2 rfl rfl rfl rfl (hst.get 3 rfl) (hst.get 2 rfl) Tryz.underlying32 rfl Tryz.underlying32 rfl el_api_Digest (Dig.size _) el_api_Digest (Dig.size _) ?_
    exact ⟨rfl, A26, c26, (hst.tailN 1).keep2, hx'⟩
 ·have hlt := halfN_lt n (by omega)
  have hps := halfN_pos n
  have h' : ((m : Int) == (n : Int)) = false := by rw [beq_eq_false_iff_ne]; omega
  have HF := Lib.hid (fun w => half_any n (by omega) (by omega) w)
  by_cases hk2 : m ≤ halfN n
  ·rw [plN_left h (by omega) hk2] at hp
   obtain ⟨q, d, rfl⟩ : ∃ q d, p = q ++ [d] := ⟨p.dropLast, p.getLast (fun e => by rw [e] at hp; simp at hp), (List.dropLast_concat_getLast _).symm⟩
   have hq : q.length = plN (halfN n) m own := by simpa using hp
   rw [grN_left h (by omega) hk2]
   have HK := Lib.hid (fun w L hst => take_any old d (r ++ q) A k c g w0 w L hst (by rw [List.append_assoc]; exact hx))
   have HI := Lib.hid (fun A' c' w L hst hx' => ih (halfN n) hlt m own q A' (k - 1) c' w L hst hx' hq hm1 hk2 (by omega))
   have hk' : (m : Int) ≤ (halfN n : Int) := by omega
   clear ih hp hx hq hk h
   generalize digsL (r ++ q) = lrq at *
   generalize digsL r = lr at *
   generalize grN (halfN n) m own old q = ab at *
   generalize halfN n = kk at *
   generalize r.length = rl at *
   go_enter Tryz.func181, Tryz.ntmps181
   go_upto_region 1 with (first | (refine L_allocA (d := some 8) rfl rfl rfl el_api_Digest ?_; (try clear hnew); intro g8 W8 hnew; replace hst := hst.trans hnew; simp only [List.cons_append, List.nil_append] at hst) | (refine L_allocA (d := some 9) rfl rfl rfl el_api_Digest ?_; (try clear hnew); intro g9 W9 hnew; replace hst := hst.trans hnew; simp only [List.cons_append, List.nil_append] at hst))
   go_upto_region 6 with (fail)
   go_upto_region 7 with (first | (go_at_call 187; (try clear hnew); refine (HK.out _ _ (hst.front 2 rfl)).mono ?_; rintro e W30 ⟨rfl, A30, c30, hst', hx'⟩; clear hst; have hst := hst'; clear hst'; simp only [List.eraseIdx_cons_succ, List.eraseIdx_cons_zero] at hst) | (refine L_allocA (d := some 11) rfl rfl rfl el_api_Digest ?_; (try clear hnew); intro g11 W11 hnew; replace hst := hst.trans hnew; simp only [List.cons_append, List.nil_append] at hst) | (refine wpl_at (.store 32 (.tmp 11) (.tmp 30)) rfl ?_; (refine L_storeA rfl rfl hst rfl (by rfl) (ev_tmp rfl) (by (exact Dig.one _)) el_api_Digest (by (exact Dig.size _)) 0 rfl (by (rfl)) ?_; clear hst; intro WS3 hst; simp only [List.set_cons_zero, List.set_cons_succ] at hst)))
   go_upto_region 8 with ((go_at_call 91; (try clear hnew); refine (HF.out _).mono ?_; rintro e Wk1 ⟨rfl, hnew⟩; replace hst := hst.keep hnew))
   go_upto_region 9 with (fail)
   go_upto_region 10 with (first | (go_at_call 181; (try clear hnew); refine (HI.out _ _ _ _ (hst.front 1 rfl) hx').mono ?_; rintro e W41 ⟨rfl, A41, c41, hst', hx''⟩; clear hst; have hst := hst'; clear hst'; simp only [List.eraseIdx_cons_succ, List.eraseIdx_cons_zero] at hst) | (refine wpl_at (.store 32 (.tmp 8) (.tmp 42)) rfl ?_; (refine L_storeA rfl rfl hst rfl (by rfl) (ev_tmp rfl) (by (exact Dig.one _)) el_api_Digest (by (exact Dig.size _)) 3 rfl (by (rfl)) ?_; clear hst; intro WS8 hst; simp only [List.set_cons_zero, List.set_cons_succ] at hst)) | (refine wpl_at (.store 32 (.tmp 9) (.tmp 43)) rfl ?_; (refine L_storeA rfl rfl hst rfl (by rfl) (ev_tmp rfl) (by (exact Dig.one _)) el_api_Digest (by (exact Dig.size _)) 2 rfl (by (rfl)) ?_; clear hst; intro WS9 hst; simp only [List.set_cons_zero, List.set_cons_succ] at hst)))
   (try clear hnew)
   refine wp_region_idxT [(0, 0), (1, 0), (2, 2), (3, 2), (4, 1), (5, 1)] (by kernel_rfl) (by kernel_rfl) ?_
   replace hst := hst.drew
   refine idx_q rfl rfl ?_; go_wp2_with (((refine L_loadA (d := some 44) rfl rfl rfl (by rfl) Tryz.underlying32 rfl el_api_Digest (by (exact hst.get 3 rfl)) (by (exact Dig.size _)) ?_)))
   refine idx_q rfl rfl ?_; go_wp2_with (((refine L_loadA (d := some 45) rfl rfl rfl (by rfl) Tryz.underlying32 rfl el_api_Digest (by (exact hst.get 2 rfl)) (by (exact Dig.size _)) ?_)))
   refine idx_g rfl ?_; go_wp2_with (((refine L_loadA (d := some 46) rfl rfl rfl (by rfl) Tryz.underlying32 rfl el_api_Digest (by (exact hst.get 1 rfl)) (by (exact Dig.size _)) ?_))); refine ⟨by (exact Below.refl _ _), ?_⟩
   refine idx_g rfl ?_; go_wp2_with ((go_at_call 99; (try clear hnew); with_reducible refine (node_any _ _ _ (HT.out.of hst)).mono ?_; rintro e Wk2 ⟨rfl, hnew⟩; replace hst := hst.keep hnew)); refine ⟨by (exact hnew.below), ?_⟩
   refine idx_e rfl ?_; go_wp2_with ((refine wpl_at (.store 32 (.tmp 8) (.tmp 44)) rfl ?_; (refine L_storeA rfl rfl hst rfl (by rfl) (ev_tmp rfl) (by (exact Dig.one _)) el_api_Digest (by (exact Dig.size _)) 3 rfl (by (exact Dig.size _)) ?_; clear hst; intro WS4 hst; simp only [List.set_cons_zero, List.set_cons_succ] at hst)))
   refine idx_e rfl ?_; go_wp2_with ((refine wpl_at (.store 32 (.tmp 9) (.tmp 47)) rfl ?_; (refine L_storeA rfl rfl hst rfl (by rfl) (ev_tmp rfl) (by (exact Dig.one _)) el_api_Digest (by (rfl)) 2 rfl (by (exact Dig.size _)) ?_; clear hst; intro WS5 hst; simp only [List.set_cons_zero, List.set_cons_succ] at hst)))
   refine idx_nil ?_
   go_wp2_with fail
   refine bp_cell2 rfl rfl rfl rfl (hst.get 3 rfl) (hst.get 2 rfl) Tryz.underlying32 rfl Tryz.underlying32 rfl el_api_Digest (Dig.size _) el_api_Digest (Dig.size _) ?_
   exact ⟨rfl, A41, c41, hst.keep3, hx''⟩
  ·rw [plN_right h (by omega) hk2] at hp
   obtain ⟨q, d, rfl⟩ : ∃ q d, p = q ++ [d] := ⟨p.dropLast, p.getLast (fun e => by rw [e] at hp; simp at hp), (List.dropLast_concat_getLast _).symm⟩
   have hq : q.length = plN (n - halfN n) (m - halfN n) false := by simpa using hp
   rw [grN_right h (by omega) hk2]
   have HK := Lib.hid (fun w L hst => take_any old d (r ++ q) A k c g w0 w L hst (by rw [List.append_assoc]; exact hx))
   have HI := Lib.hid (fun A' c' w L hst hx' => ih (n - halfN n) (by omega) (m - halfN n) false q A' (k - 1) c' w L hst hx' hq (by omega) (by omega) (by omega))
   have e1 : ((m - halfN n : Nat) : Int) = (m : Int) - (halfN n : Int) := by omega
   have e2 : ((n - halfN n : Nat) : Int) = (n : Int) - (halfN n : Int) := by omega
   rw [e1, e2] at HI
   have hk' : ¬ (m : Int) ≤ (halfN n : Int) := by omega
   clear ih hp hx hq hk h e1 e2
   generalize digsL (r ++ q) = lrq at *
   generalize digsL r = lr at *
   generalize grN (n - halfN n) (m - halfN n) false old q = ab at *
   generalize halfN n = kk at *
   generalize r.length = rl at *
   go_enter Tryz.func181, Tryz.ntmps181
   go_upto_region 1 with (first | (refine L_allocA (d := some 8) rfl rfl rfl el_api_Digest ?_; (try clear hnew); intro g8 W8 hnew; replace hst := hst.trans hnew; simp only [List.cons_append, List.nil_append] at hst) | (refine L_allocA (d := some 9) rfl rfl rfl el_api_Digest ?_; (try clear hnew); intro g9 W9 hnew; replace hst := hst.trans hnew; simp only [List.cons_append, List.nil_append] at hst))
   go_upto_region 6 with (fail)
   go_upto_region 7 with (first | (go_at_call 187; (try clear hnew); refine (HK.out _ _ (hst.front 2 rfl)).mono ?_; rintro e W30 ⟨rfl, A30, c30, hst', hx'⟩; clear hst; have hst := hst'; clear hst'; simp only [List.eraseIdx_cons_succ, List.eraseIdx_cons_zero] at hst) | (refine L_allocA (d := some 11) rfl rfl rfl el_api_Digest ?_; (try clear hnew); intro g11 W11 hnew; replace hst := hst.trans hnew; simp only [List.cons_append, List.nil_append] at hst) | (refine wpl_at (.store 32 (.tmp 11) (.tmp 30)) rfl ?_; (refine L_storeA rfl rfl hst rfl (by rfl) (ev_tmp rfl) (by (exact Dig.one _)) el_api_Digest (by (exact Dig.size _)) 0 rfl (by (rfl)) ?_; clear hst; intro WS3 hst; simp only [List.set_cons_zero, List.set_cons_succ] at hst)))
   go_upto_region 8 with ((go_at_call 91; (try clear hnew); refine (HF.out _).mono ?_; rintro e Wk3 ⟨rfl, hnew⟩; replace hst := hst.keep hnew))
   go_upto_region 11 with (fail)
   go_upto_region 12 with (first | (go_at_call 181; (try clear hnew); refine (HI.out _ _ _ _ (hst.front 1 rfl) hx').mono ?_; rintro e W56 ⟨rfl, A56, c56, hst', hx''⟩; clear hst; have hst := hst'; clear hst'; simp only [List.eraseIdx_cons_succ, List.eraseIdx_cons_zero] at hst) | (refine wpl_at (.store 32 (.tmp 8) (.tmp 57)) rfl ?_; (refine L_storeA rfl rfl hst rfl (by rfl) (ev_tmp rfl) (by (exact Dig.one _)) el_api_Digest (by (exact Dig.size _)) 3 rfl (by (rfl)) ?_; clear hst; intro WS11 hst; simp only [List.set_cons_zero, List.set_cons_succ] at hst)) | (refine wpl_at (.store 32 (.tmp 9) (.tmp 58)) rfl ?_; (refine L_storeA rfl rfl hst rfl (by rfl) (ev_tmp rfl) (by (exact Dig.one _)) el_api_Digest (by (exact Dig.size _)) 2 rfl (by (rfl)) ?_; clear hst; intro WS12 hst; simp only [List.set_cons_zero, List.set_cons_succ] at hst)))
   (try clear hnew)
   refine wp_region_idxT [(0, 0), (1, 0), (3, 0), (4, 0), (2, 2), (5, 2), (6, 1), (7, 1)] (by kernel_rfl) (by kernel_rfl) ?_
   replace hst := hst.drew
   refine idx_q rfl rfl ?_; go_wp2_with (((refine L_loadA (d := some 59) rfl rfl rfl (by rfl) Tryz.underlying32 rfl el_api_Digest (by (exact hst.get 1 rfl)) (by (exact Dig.size _)) ?_)))
   refine idx_q rfl rfl ?_; go_wp2_with (((refine L_loadA (d := some 60) rfl rfl rfl (by rfl) Tryz.underlying32 rfl el_api_Digest (by (exact hst.get 3 rfl)) (by (exact Dig.size _)) ?_)))
   refine idx_q rfl rfl ?_; go_wp2_with (((refine L_loadA (d := some 62) rfl rfl rfl (by rfl) Tryz.underlying32 rfl el_api_Digest (by (exact hst.get 1 rfl)) (by (exact Dig.size _)) ?_)))
   refine idx_q rfl rfl ?_; go_wp2_with (((refine L_loadA (d := some 63) rfl rfl rfl (by rfl) Tryz.underlying32 rfl el_api_Digest (by (exact hst.get 2 rfl)) (by (exact Dig.size _)) ?_)))
   refine idx_g rfl ?_; go_wp2_with ((go_at_call 99; (try clear hnew); with_reducible refine (node_any _ _ _ (HT.out.of hst)).mono ?_; rintro e Wk4 ⟨rfl, hnew⟩; replace hst := hst.keep hnew)); refine ⟨by (exact hnew.below), ?_⟩
   refine idx_g rfl ?_; go_wp2_with ((go_at_call 99; (try clear hnew); with_reducible refine (node_any _ _ _ (HT.out.of hst)).mono ?_; rintro e Wk4 ⟨rfl, hnew⟩; replace hst := hst.keep hnew)); refine ⟨by (exact hnew.below), ?_⟩
   refine idx_e rfl ?_; go_wp2_with ((refine wpl_at (.store 32 (.tmp 8) (.tmp 61)) rfl ?_; (refine L_storeA rfl rfl hst rfl (by rfl) (ev_tmp rfl) (by (exact Dig.one _)) el_api_Digest (by (rfl)) 3 rfl (by (exact Dig.size _)) ?_; clear hst; intro WS6 hst; simp only [List.set_cons_zero, List.set_cons_succ] at hst)))
   refine idx_e rfl ?_; go_wp2_with ((refine wpl_at (.store 32 (.tmp 9) (.tmp 64)) rfl ?_; (refine L_storeA rfl rfl hst rfl (by rfl) (ev_tmp rfl) (by (exact Dig.one _)) el_api_Digest (by (rfl)) 2 rfl (by (exact Dig.size _)) ?_; clear hst; intro WS7 hst; simp only [List.set_cons_zero, List.set_cons_succ] at hst)))
   refine idx_nil ?_
   go_wp2_with fail
   refine bp_cell2 rfl rfl rfl rfl (hst.get 3 rfl) (hst.get 2 rfl) Tryz.underlying32 rfl Tryz.underlying32 rfl el_api_Digest (Dig.size _) el_api_Digest (Dig.size _) ?_
   exact ⟨rfl, A56, c56, hst.keep3, hx''⟩
end Go.Proofs.YtaebeemnipafbaaGreatDoor

set_option maxRecDepth 20000
set_option linter.unusedSimpArgs false
set_option linter.unusedVariables false
namespace Go.Proofs.YtaebeemnipafbaaGreatDoor
end Go.Proofs.YtaebeemnipafbaaGreatDoor

set_option maxRecDepth 20000
set_option linter.unusedSimpArgs false
set_option linter.unusedVariables false
namespace Go.Proofs.YtaebeemnipafbaaGreatDoor
open Go.RowKit
end Go.Proofs.YtaebeemnipafbaaGreatDoor

set_option maxRecDepth 20000
set_option linter.unusedSimpArgs false
set_option linter.unusedVariables false
namespace Go.Proofs.YtaebeemnipafbaaGreatDoor
open Go.RowKit
section
variable {P : Program} {W : World}
theorem run_loadVar_one {g : Nat} {ty : TypeId} {v : Value} (hc : W.cell? ⟨g, 0, none⟩ = some v) {td : TypeDesc} (hu : P.underlying ty = some td) (hn : td.isRow = false) : (loadVar ty ⟨g, 0, none⟩).run P W = .ok v W := by
 have hagg : (isAgg ty).run P W = .ok false W := by
  unfold isAgg
  rw [Sem.run_bind, run_underlying hu W]
  cases td <;> simp_all [TypeDesc.isRow]
 simp [loadVar, hagg, load, Sem.run, hc]
theorem res_cell3 {fn : Func} {p q r : Tmp} {ty ty' tz : TypeId} (hr : fn.results = #[.cell p ty, .cell q ty', .cell r tz]) {tmps : Array Value} {g g' gz : Nat} (hp : tmps.toList[p]? = some (.pointer (some ⟨g, 0, none⟩))) (hq : tmps.toList[q]? = some (.pointer (some ⟨g', 0, none⟩))) (hz : tmps.toList[r]? = some (.pointer (some ⟨gz, 0, none⟩))) {t t' : TypeId} {cs cs' : Array Value} {fr fr' : Nat × Nat} (hg : W.heap[g]? = some (.cells cs t fr)) (hg' : W.heap[g']? = some (.cells cs' t' fr')) {v : Value} (hv : W.cell? ⟨gz, 0, none⟩ = some v)
  {td td' tdz : TypeDesc} (hu : P.underlying ty = some td) (hrow : td.isRow = true) (hu' : P.underlying ty' = some td') (hrow' : td'.isRow = true) (huz : P.underlying tz = some tdz) (hrz : tdz.isRow = false) {z z' : Value} {s s' b b' : Nat} (he : ElemIs P ty z s b) (hs : cs.size = s) (he' : ElemIs P ty' z' s' b') (hs' : cs'.size = s') : (results fn tmps).run P W = .ok (.tuple #[.agg cs, .agg cs', v]) W := by
 have hp' : tmps[p]?.getD undef = .pointer (some ⟨g, 0, none⟩) := by
  have : tmps[p]? = some (.pointer (some ⟨g, 0, none⟩)) := by simpa using hp
  simp [this]
 have hq' : tmps[q]?.getD undef = .pointer (some ⟨g', 0, none⟩) := by
  have : tmps[q]? = some (.pointer (some ⟨g', 0, none⟩)) := by simpa using hq
  simp [this]
 have hz' : tmps[r]?.getD undef = .pointer (some ⟨gz, 0, none⟩) := by
  have : tmps[r]? = some (.pointer (some ⟨gz, 0, none⟩)) := by simpa using hz
  simp [this]
 simp [results, hr, hp', hq', hz', asAddr, run_loadVar_row W g t ty cs fr td hg hu (by cases td <;> simp_all [TypeDesc.isRow]) (by rw [he.size, hs]), run_loadVar_row W g' t' ty' cs' fr' td' hg' hu' (by cases td' <;> simp_all [TypeDesc.isRow]) (by rw [he'.size, hs']), run_loadVar_one hv huz hrz]
end
theorem catch_idle (a b c : Value) (w : World) : CallsD Tryz.prog 180 #[a, b, c] .returning w fun e u' w' => e = .returned (.tuple #[]) ∧ u' = .returning ∧ w' = w := by
 refine callsD_of_wpS Tryz.func180 rfl fun c₀ cs hu => ?_
 apply wpS_seq
 apply wpS_region
 simp [wpOpsS, go_sem, recoverD, hu, Tryz.ntmps180, Exit.thenS]
 refine wpS_of_wp ?_
 go_wp2
 cases c₀
 simp_all [bodyPostS, results, Tryz.results180]
set_option maxHeartbeats 4000000 in
set_option maxRecDepth 100000 in
theorem gFold_any (n m : Nat) (old : Dig) (p : List Dig) (A : Option Addr) (k c : Nat) (w : World) (hT : Tb w) (hx : SlR w A k c 32 (digsL p)) (hk : k = plN n m true) (h1 : 1 ≤ m) (hmn : m ≤ n) (hn : n ≤ 256) :
  Calls Tryz.prog 167 #[.int .i64 (m : Int), .int .i64 (n : Int), old.v, .slice A k c] w fun e w' => e = .returned (.tuple #[(grN n m true old p).1.v, (grN n m true old p).2.v, .nilIface]) ∧ St w w' [] := by
 have hst := St.refl w
 have hlp : p.length = plN n m true := by have := hx.1; rw [length_digsL] at this; omega
 have HI := Lib.hid (fun g w' L hst => gfold_any old g w hT [] n m true p A k c w' L hst hx hlp h1 hmn hn)
 have t1 : ¬ (n : Int) < 1 := by omega
 have t2 : ¬ (256 : Int) < (n : Int) := by omega
 have t3 : ¬ (m : Int) < 1 := by omega
 have t4 : ¬ (n : Int) < (m : Int) := by omega
 have hmf : ∀ (fn : Fn) (first cap : Array Value) (w : World), (Instr.makeFunc fn first cap).run Tryz.prog w = .ok (.func fn first cap) w := fun _ _ _ _ => rfl
 have HF := Lib.hid (fun A' c' => fArr_at old A' 0 c')
 clear hlp hk hT hx
 generalize grN n m true old p = ab at *
 go_enter_defers Tryz.func167, Tryz.ntmps167
 go_upto_region 1 with (first | (refine L_boxA (d := some 6) rfl rfl rfl (ev_tmp rfl) ?_; (try clear hnew); intro g6 W6 hnew; replace hst := hst.trans hnew; simp only [List.cons_append, List.nil_append] at hst) | (refine L_allocA (d := some 8) rfl rfl rfl el_api_Digest ?_; (try clear hnew); intro g8 W8 hnew; replace hst := hst.trans hnew; simp only [List.cons_append, List.nil_append] at hst) | (refine L_allocA (d := some 9) rfl rfl rfl el_api_Digest ?_; (try clear hnew); intro g9 W9 hnew; replace hst := hst.trans hnew; simp only [List.cons_append, List.nil_append] at hst) | (refine L_alloc1 (d := some 10) rfl rfl rfl el_error rfl ?_; (try clear hnew); intro g10 W10 hnew; replace hst := hst.trans hnew; simp only [List.cons_append, List.nil_append] at hst))
 go_upto_region 3 with (fail)
 go_upto_region 4 with (fail)
 go_upto_region 5 with (first | (refine L_buildF (d := some 33) rfl rfl rfl (ev_tmp rfl) (ev_tmp rfl) ?_) | ((refine L_loadA (d := some 31) rfl rfl rfl (by rfl) Tryz.underlying32 rfl el_api_Digest (by (exact hst.get 3 rfl)) (by (exact Dig.size _)) ?_)) | (refine L_boxA (d := some 34) rfl rfl rfl (ev_tmp rfl) ?_; (try clear hnew); intro g34 W34 hnew; replace hst := hst.trans hnew; simp only [List.cons_append, List.nil_append] at hst))
 go_upto_region 6 with (first | (go_at_call 181; (try clear hnew); refine (HI.out _ _ _ hst).mono ?_; rintro e W39 ⟨rfl, A39, c39, hst', hx'⟩; clear hst; have hst := hst'; clear hst'; simp only [List.length_nil] at hst) | (refine wpl_at (.store 32 (.tmp 8) (.tmp 40)) rfl ?_; (refine L_storeA rfl rfl hst rfl (by rfl) (ev_tmp rfl) (by (exact Dig.one _)) el_api_Digest (by (exact Dig.size _)) 3 rfl (by (rfl)) ?_; clear hst; intro WS7 hst; simp only [List.set_cons_zero, List.set_cons_succ] at hst)) | (refine wpl_at (.store 32 (.tmp 9) (.tmp 41)) rfl ?_; (refine L_storeA rfl rfl hst rfl (by rfl) (ev_tmp rfl) (by (exact Dig.one _)) el_api_Digest (by (exact Dig.size _)) 2 rfl (by (rfl)) ?_; clear hst; intro WS8 hst; simp only [List.set_cons_zero, List.set_cons_succ] at hst)))
 (try clear hnew)
 go_upto_region 8 with ((refine L_load1 (d := some 45) rfl rfl rfl (by rfl) Tryz.underlying44 rfl (by (exact cell_of (hst.get 0 rfl) (HF.out _ _))) ?_))
 refine wp_region_pm (.one 0 0 (.two 1 2 (.one 2 1 (.one 3 1 (.one 4 1 .nil))) 2 1 (.one 1 2 (.one 3 1 (.one 4 1 .nil))))) (by kernel_rfl) (by kernel_rfl) ?_
 replace hst := hst.drew
 refine pm_q rfl rfl ?_; go_wp2_with (((refine L_loadA (d := some 49) rfl rfl rfl (by rfl) Tryz.underlying32 rfl el_api_Digest (by (exact hst.get 3 rfl)) (by (exact Dig.size _)) ?_)))
 refine pm_two (ki := 2) (kj := 1) rfl rfl ?_ ?_
 ·go_wp2_with (((refine L_loadA (d := some 50) rfl rfl rfl (by rfl) Tryz.underlying32 rfl el_api_Digest (by (exact hst.get 2 rfl)) (by (exact Dig.size _)) ?_))); refine ⟨fun _ => (by (exact Below.refl _ _)), ?_⟩
  refine pm_e rfl ?_; go_wp2_with ((refine wpl_at (.store 32 (.tmp 8) (.tmp 49)) rfl ?_; (refine L_storeA rfl rfl hst rfl (by rfl) (ev_tmp rfl) (by (exact Dig.one _)) el_api_Digest (by (exact Dig.size _)) 3 rfl (by (exact Dig.size _)) ?_; clear hst; intro WS2 hst; simp only [List.set_cons_zero, List.set_cons_succ] at hst)))
  refine pm_e rfl ?_; go_wp2_with ((refine wpl_at (.store 32 (.tmp 9) (.tmp 50)) rfl ?_; (refine L_storeA rfl rfl hst rfl (by rfl) (ev_tmp rfl) (by (exact Dig.one _)) el_api_Digest (by (exact Dig.size _)) 2 rfl (by (exact Dig.size _)) ?_; clear hst; intro WS3 hst; simp only [List.set_cons_zero, List.set_cons_succ] at hst)))
  refine pm_e rfl ?_; go_wp2_with ((refine wpl_at (.store 36 (.tmp 10) _) rfl ?_; (refine L_store1 rfl rfl hst rfl (by rfl) ev_const rfl el_error 1 rfl (by (exact of_decide_eq_true rfl)) ?_; clear hst; intro WS4 hst; simp only [List.set_cons_zero, List.set_cons_succ] at hst)))
  refine pm_nil ?_
  go_wp2_with fail
  refine leaves_cons (f := 180) (args := #[.pointer (some ⟨g8, 0, none⟩), .pointer (some ⟨g9, 0, none⟩), .pointer (some ⟨g10, 0, none⟩)]) (by simp) (by simp [go_sem]) ?_
  refine (catch_idle _ _ _ _).mono ?_
  rintro e u' w'' ⟨rfl, rfl, rfl⟩
  exact ⟨_, res_cell3 rfl rfl rfl rfl (hst.get 3 rfl) (hst.get 2 rfl) (cell_of (hst.get 1 rfl) rfl) Tryz.underlying32 rfl Tryz.underlying32 rfl Tryz.underlying36 rfl el_api_Digest (Dig.size _) el_api_Digest (Dig.size _), rfl, hst.forget⟩
 ·go_wp2_with ((refine wpl_at (.store 32 (.tmp 8) (.tmp 49)) rfl ?_; (refine L_storeA rfl rfl hst rfl (by rfl) (ev_tmp rfl) (by (exact Dig.one _)) el_api_Digest (by (exact Dig.size _)) 3 rfl (by (exact Dig.size _)) ?_; clear hst; intro WS2 hst; simp only [List.set_cons_zero, List.set_cons_succ] at hst))); refine ⟨fun h => absurd h (by decide), ?_⟩
  refine pm_g rfl ?_; go_wp2_with (((refine L_loadA (d := some 50) rfl rfl rfl (by rfl) Tryz.underlying32 rfl el_api_Digest (by (exact hst.get 2 rfl)) (by (exact Dig.size _)) ?_))); refine ⟨by (exact Below.refl _ _), ?_⟩
  refine pm_e rfl ?_; go_wp2_with ((refine wpl_at (.store 32 (.tmp 9) (.tmp 50)) rfl ?_; (refine L_storeA rfl rfl hst rfl (by rfl) (ev_tmp rfl) (by (exact Dig.one _)) el_api_Digest (by (exact Dig.size _)) 2 rfl (by (exact Dig.size _)) ?_; clear hst; intro WS3 hst; simp only [List.set_cons_zero, List.set_cons_succ] at hst)))
  refine pm_e rfl ?_; go_wp2_with ((refine wpl_at (.store 36 (.tmp 10) _) rfl ?_; (refine L_store1 rfl rfl hst rfl (by rfl) ev_const rfl el_error 1 rfl (by (exact of_decide_eq_true rfl)) ?_; clear hst; intro WS4 hst; simp only [List.set_cons_zero, List.set_cons_succ] at hst)))
  refine pm_nil ?_
  go_wp2_with fail
  refine leaves_cons (f := 180) (args := #[.pointer (some ⟨g8, 0, none⟩), .pointer (some ⟨g9, 0, none⟩), .pointer (some ⟨g10, 0, none⟩)]) (by simp) (by simp [go_sem]) ?_
  refine (catch_idle _ _ _ _).mono ?_
  rintro e u' w'' ⟨rfl, rfl, rfl⟩
  exact ⟨_, res_cell3 rfl rfl rfl rfl (hst.get 3 rfl) (hst.get 2 rfl) (cell_of (hst.get 1 rfl) rfl) Tryz.underlying32 rfl Tryz.underlying32 rfl Tryz.underlying36 rfl el_api_Digest (Dig.size _) el_api_Digest (Dig.size _), rfl, hst.forget⟩
set_option maxHeartbeats 4000000 in
set_option maxRecDepth 100000 in
theorem gCheck_any (n m : Nat) (old now : Dig) (p : List Dig) (A : Option Addr) (k c : Nat) (w : World) (hT : Tb w) (hx : SlR w A k c 32 (digsL p)) (hk : k = plN n m true) (h1 : 1 ≤ m) (hmn : m ≤ n) (hn : n ≤ 256) :
  Calls Tryz.prog 152 #[.int .i64 (m : Int), .int .i64 (n : Int), old.v, now.v, .slice A k c] w fun e w' => e = .returned (.bool (decide ((grN n m true old p).1 = old) && decide ((grN n m true old p).2 = now))) ∧ St w w' [] := by
 have hst := St.refl w
 have HF := Lib.hid (fun w hT hs => gFold_any n m old p A k c w hT hs hk h1 hmn hn)
 have HT := Lib.hid hT
 clear hT hk h1 hmn hn
 generalize (grN n m true old p).1 = x at *
 generalize (grN n m true old p).2 = y at *
 by_cases ha : x = old
 ·have H1 := Lib.hid (show decide (x = old) = true by simp [ha])
  by_cases hb : y = now
  ·have H2 := Lib.hid (show decide (y = now) = true by simp [hb])
   rw [H1.out, H2.out]
   clear ha hb
   go_enter Tryz.func152, Tryz.ntmps152
   go_upto_region 1 with (first | (refine L_boxA (d := some 7) rfl rfl rfl (ev_tmp rfl) ?_; (try clear hnew); intro g7 W7 hnew; replace hst := hst.trans hnew; simp only [List.cons_append, List.nil_append] at hst) | (refine L_boxA (d := some 8) rfl rfl rfl (ev_tmp rfl) ?_; (try clear hnew); intro g8 W8 hnew; replace hst := hst.trans hnew; simp only [List.cons_append, List.nil_append] at hst))
   go_upto_region 2 with (first | (go_at_call 167; (try clear hnew); refine (HF.out _ (HT.out.of hst) (hst.old (by decide) hx)).mono ?_; rintro e Wk1 ⟨rfl, hnew⟩; replace hst := hst.keep hnew) | ((refine L_loadA (d := some 17) rfl rfl rfl (by rfl) Tryz.underlying32 rfl el_api_Digest (by (exact hst.get 1 rfl)) (by (exact Dig.size _)) ?_)) | (refine L_allocA (d := some 11) rfl rfl rfl el_api_Digest ?_; (try clear hnew); intro g11 W11 hnew; replace hst := hst.trans hnew; simp only [List.cons_append, List.nil_append] at hst) | (refine L_allocA (d := some 12) rfl rfl rfl el_api_Digest ?_; (try clear hnew); intro g12 W12 hnew; replace hst := hst.trans hnew; simp only [List.cons_append, List.nil_append] at hst) | (refine wpl_at (.store 32 (.tmp 11) (.tmp 20)) rfl ?_; (refine L_storeA rfl rfl hst rfl (by rfl) (ev_tmp rfl) (by (exact Dig.one _)) el_api_Digest (by (exact Dig.size _)) 1 rfl (by (rfl)) ?_; clear hst; intro WS11 hst; simp only [List.set_cons_zero, List.set_cons_succ] at hst)) | (refine wpl_at (.store 32 (.tmp 12) (.tmp 21)) rfl ?_; (refine L_storeA rfl rfl hst rfl (by rfl) (ev_tmp rfl) (by (exact Dig.one _)) el_api_Digest (by (exact Dig.size _)) 0 rfl (by (rfl)) ?_; clear hst; intro WS12 hst; simp only [List.set_cons_zero, List.set_cons_succ] at hst)))
   go_wp2_with (first | ((refine L_loadA (d := some 26) rfl rfl rfl (by rfl) Tryz.underlying32 rfl el_api_Digest (by (exact hst.get 1 rfl)) (by (exact Dig.size _)) ?_)) | ((refine L_loadA (d := some 27) rfl rfl rfl (by rfl) Tryz.underlying32 rfl el_api_Digest (by (exact hst.get 3 rfl)) (by (exact Dig.size _)) ?_)) | (refine L_eqD (d := some 28) rfl rfl rfl Tryz.underlying32 Tryz.underlying5 el_uint8 eqG_D (ev_tmp rfl) (ev_tmp rfl) ?_; (try rw [H1.out])) | ((refine L_loadA (d := some 31) rfl rfl rfl (by rfl) Tryz.underlying32 rfl el_api_Digest (by (exact hst.get 0 rfl)) (by (exact Dig.size _)) ?_)) | ((refine L_loadA (d := some 32) rfl rfl rfl (by rfl) Tryz.underlying32 rfl el_api_Digest (by (exact hst.get 2 rfl)) (by (exact Dig.size _)) ?_)) | (refine L_eqD (d := some 33) rfl rfl rfl Tryz.underlying32 Tryz.underlying5 el_uint8 eqG_D (ev_tmp rfl) (ev_tmp rfl) ?_; (try rw [H2.out])))
   go_ret
   exact ⟨rfl, hst.forget⟩
  ·have H2 := Lib.hid (show decide (y = now) = false by simp [hb])
   rw [H1.out, H2.out]
   clear ha hb
   go_enter Tryz.func152, Tryz.ntmps152
   go_upto_region 1 with (first | (refine L_boxA (d := some 7) rfl rfl rfl (ev_tmp rfl) ?_; (try clear hnew); intro g7 W7 hnew; replace hst := hst.trans hnew; simp only [List.cons_append, List.nil_append] at hst) | (refine L_boxA (d := some 8) rfl rfl rfl (ev_tmp rfl) ?_; (try clear hnew); intro g8 W8 hnew; replace hst := hst.trans hnew; simp only [List.cons_append, List.nil_append] at hst))
   go_upto_region 2 with (first | (go_at_call 167; (try clear hnew); refine (HF.out _ (HT.out.of hst) (hst.old (by decide) hx)).mono ?_; rintro e Wk2 ⟨rfl, hnew⟩; replace hst := hst.keep hnew) | ((refine L_loadA (d := some 17) rfl rfl rfl (by rfl) Tryz.underlying32 rfl el_api_Digest (by (exact hst.get 1 rfl)) (by (exact Dig.size _)) ?_)) | (refine L_allocA (d := some 11) rfl rfl rfl el_api_Digest ?_; (try clear hnew); intro g11 W11 hnew; replace hst := hst.trans hnew; simp only [List.cons_append, List.nil_append] at hst) | (refine L_allocA (d := some 12) rfl rfl rfl el_api_Digest ?_; (try clear hnew); intro g12 W12 hnew; replace hst := hst.trans hnew; simp only [List.cons_append, List.nil_append] at hst) | (refine wpl_at (.store 32 (.tmp 11) (.tmp 20)) rfl ?_; (refine L_storeA rfl rfl hst rfl (by rfl) (ev_tmp rfl) (by (exact Dig.one _)) el_api_Digest (by (exact Dig.size _)) 1 rfl (by (rfl)) ?_; clear hst; intro WS11 hst; simp only [List.set_cons_zero, List.set_cons_succ] at hst)) | (refine wpl_at (.store 32 (.tmp 12) (.tmp 21)) rfl ?_; (refine L_storeA rfl rfl hst rfl (by rfl) (ev_tmp rfl) (by (exact Dig.one _)) el_api_Digest (by (exact Dig.size _)) 0 rfl (by (rfl)) ?_; clear hst; intro WS12 hst; simp only [List.set_cons_zero, List.set_cons_succ] at hst)))
   go_wp2_with (first | ((refine L_loadA (d := some 26) rfl rfl rfl (by rfl) Tryz.underlying32 rfl el_api_Digest (by (exact hst.get 1 rfl)) (by (exact Dig.size _)) ?_)) | ((refine L_loadA (d := some 27) rfl rfl rfl (by rfl) Tryz.underlying32 rfl el_api_Digest (by (exact hst.get 3 rfl)) (by (exact Dig.size _)) ?_)) | (refine L_eqD (d := some 28) rfl rfl rfl Tryz.underlying32 Tryz.underlying5 el_uint8 eqG_D (ev_tmp rfl) (ev_tmp rfl) ?_; (try rw [H1.out])) | ((refine L_loadA (d := some 31) rfl rfl rfl (by rfl) Tryz.underlying32 rfl el_api_Digest (by (exact hst.get 0 rfl)) (by (exact Dig.size _)) ?_)) | ((refine L_loadA (d := some 32) rfl rfl rfl (by rfl) Tryz.underlying32 rfl el_api_Digest (by (exact hst.get 2 rfl)) (by (exact Dig.size _)) ?_)) | (refine L_eqD (d := some 33) rfl rfl rfl Tryz.underlying32 Tryz.underlying5 el_uint8 eqG_D (ev_tmp rfl) (ev_tmp rfl) ?_; (try rw [H2.out])))
   go_ret
   exact ⟨rfl, hst.forget⟩
 ·have H1 := Lib.hid (show decide (x = old) = false by simp [ha])
  rw [H1.out, Bool.false_and]
  clear ha
  go_enter Tryz.func152, Tryz.ntmps152
  go_upto_region 1 with (first | (refine L_boxA (d := some 7) rfl rfl rfl (ev_tmp rfl) ?_; (try clear hnew); intro g7 W7 hnew; replace hst := hst.trans hnew; simp only [List.cons_append, List.nil_append] at hst) | (refine L_boxA (d := some 8) rfl rfl rfl (ev_tmp rfl) ?_; (try clear hnew); intro g8 W8 hnew; replace hst := hst.trans hnew; simp only [List.cons_append, List.nil_append] at hst))
  go_upto_region 2 with (first | (go_at_call 167; (try clear hnew); refine (HF.out _ (HT.out.of hst) (hst.old (by decide) hx)).mono ?_; rintro e Wk3 ⟨rfl, hnew⟩; replace hst := hst.keep hnew) | ((refine L_loadA (d := some 17) rfl rfl rfl (by rfl) Tryz.underlying32 rfl el_api_Digest (by (exact hst.get 1 rfl)) (by (exact Dig.size _)) ?_)) | (refine L_allocA (d := some 11) rfl rfl rfl el_api_Digest ?_; (try clear hnew); intro g11 W11 hnew; replace hst := hst.trans hnew; simp only [List.cons_append, List.nil_append] at hst) | (refine L_allocA (d := some 12) rfl rfl rfl el_api_Digest ?_; (try clear hnew); intro g12 W12 hnew; replace hst := hst.trans hnew; simp only [List.cons_append, List.nil_append] at hst) | (refine wpl_at (.store 32 (.tmp 11) (.tmp 20)) rfl ?_; (refine L_storeA rfl rfl hst rfl (by rfl) (ev_tmp rfl) (by (exact Dig.one _)) el_api_Digest (by (exact Dig.size _)) 1 rfl (by (rfl)) ?_; clear hst; intro WS11 hst; simp only [List.set_cons_zero, List.set_cons_succ] at hst)) | (refine wpl_at (.store 32 (.tmp 12) (.tmp 21)) rfl ?_; (refine L_storeA rfl rfl hst rfl (by rfl) (ev_tmp rfl) (by (exact Dig.one _)) el_api_Digest (by (exact Dig.size _)) 0 rfl (by (rfl)) ?_; clear hst; intro WS12 hst; simp only [List.set_cons_zero, List.set_cons_succ] at hst)))
  go_wp2_with (first | ((refine L_loadA (d := some 26) rfl rfl rfl (by rfl) Tryz.underlying32 rfl el_api_Digest (by (exact hst.get 1 rfl)) (by (exact Dig.size _)) ?_)) | ((refine L_loadA (d := some 27) rfl rfl rfl (by rfl) Tryz.underlying32 rfl el_api_Digest (by (exact hst.get 3 rfl)) (by (exact Dig.size _)) ?_)) | (refine L_eqD (d := some 28) rfl rfl rfl Tryz.underlying32 Tryz.underlying5 el_uint8 eqG_D (ev_tmp rfl) (ev_tmp rfl) ?_; (try rw [H1.out])))
  go_ret
  exact ⟨rfl, hst.forget⟩
end Go.Proofs.YtaebeemnipafbaaGreatDoor

set_option maxRecDepth 20000
set_option linter.unusedSimpArgs false
set_option linter.unusedVariables false
namespace Go.Proofs.YtaebeemnipafbaaGreatDoor
open Go.RowKit
abbrev lenP : PanicEntry := { v := errV 3, recovered := false }
set_option maxHeartbeats 1000000 in
theorem take_none (old : Dig) (A : Option Addr) (c g : Nat) (w0 w : World) (L : List Res) (hst : St w0 w (.blk g 261 (fArr old A 0 c) :: L)) :
  Calls Tryz.prog 187 #[.pointer (some ⟨g, 0, none⟩)] w fun e w' => e = .panicked [lenP] ∧ St w0 w' (.blk g 261 (fArr old A 0 c) :: L) := by
 have HF := Lib.hid (fArr_at old A 0 c)
 go_enter Tryz.func187, Tryz.ntmps187
 go_upto_region 1 with ((refine L_allocA (d := some 2) rfl rfl rfl el_api_Digest ?_; (try clear hnew); intro g2 W2 hnew; replace hst := hst.trans hnew; simp only [List.cons_append, List.nil_append] at hst))
 go_upto_region 2 with ((refine L_load1 (d := some 7) rfl rfl rfl (by rfl) Tryz.underlying44 rfl (by (exact cell_of (hst.get 1 rfl) HF.out)) ?_))
 go_wp2_with (fail)
 exact ⟨rfl, rfl, hst.tail⟩
set_option maxHeartbeats 4000000 in
set_option maxRecDepth 100000 in
theorem gfold_short (old : Dig) (g : Nat) (w0 : World) : ∀ (n m : Nat) (own : Bool) (p : List Dig) (A : Option Addr) (k c : Nat) (w : World) (L : List Res), St w0 w (.blk g 261 (fArr old A k c) :: L) → SlR w0 A k c 32 (digsL p) → k < plN n m own → 1 ≤ m → m ≤ n → n ≤ 256 →
  Calls Tryz.prog 181 #[.pointer (some ⟨g, 0, none⟩), .int .i64 (m : Int), .int .i64 (n : Int), .bool own] w fun e w' => e = .panicked [lenP] ∧ ∃ A' k' c', St w0 w' (.blk g 261 (fArr old A' k' c') :: L) := by
 intro n
 induction n using Nat.strongRecOn with
 | ind n ih =>
 intro m own p A k c w L hst hx hp hm1 hmn hn
 have hk : p.length = k := by have := hx.1; rw [length_digsL] at this; omega
 by_cases h : m = n
 ·subst h
  rw [plN_all] at hp
  cases own with
  | true => simp at hp
  | false =>
   obtain rfl : k = 0 := by simpa using hp
   have HK := Lib.hid (fun w L hst => take_none old A c g w0 w L hst)
   clear ih hp hk hx
   go_enter Tryz.func181, Tryz.ntmps181
   go_upto_region 1 with (first | (refine L_allocA (d := some 8) rfl rfl rfl el_api_Digest ?_; (try clear hnew); intro g8 W8 hnew; replace hst := hst.trans hnew; simp only [List.cons_append, List.nil_append] at hst) | (refine L_allocA (d := some 9) rfl rfl rfl el_api_Digest ?_; (try clear hnew); intro g9 W9 hnew; replace hst := hst.trans hnew; simp only [List.cons_append, List.nil_append] at hst))
   go_upto_region 2 with (fail)
   go_upto_region 4 with (fail)
   go_wp2_with ((go_at_call 187; (try clear hnew); refine (HK.out _ _ (hst.front 2 rfl)).mono ?_; rintro e W26 ⟨rfl, hst'⟩; clear hst; have hst := hst'; clear hst'; simp only [List.eraseIdx_cons_succ, List.eraseIdx_cons_zero] at hst))
   exact ⟨rfl, rfl, _, _, _, hst.keep2⟩
 ·have hlt := halfN_lt n (by omega)
  have hps := halfN_pos n
  have h' : ((m : Int) == (n : Int)) = false := by rw [beq_eq_false_iff_ne]; omega
  have HF := Lib.hid (fun w => half_any n (by omega) (by omega) w)
  by_cases hk0 : k = 0
  ·subst hk0
   have HK := Lib.hid (fun w L hst => take_none old A c g w0 w L hst)
   clear ih hp hk hx HF
   go_enter Tryz.func181, Tryz.ntmps181
   go_upto_region 1 with (first | (refine L_allocA (d := some 8) rfl rfl rfl el_api_Digest ?_; (try clear hnew); intro g8 W8 hnew; replace hst := hst.trans hnew; simp only [List.cons_append, List.nil_append] at hst) | (refine L_allocA (d := some 9) rfl rfl rfl el_api_Digest ?_; (try clear hnew); intro g9 W9 hnew; replace hst := hst.trans hnew; simp only [List.cons_append, List.nil_append] at hst))
   go_upto_region 6 with (fail)
   go_wp2_with ((go_at_call 187; (try clear hnew); refine (HK.out _ _ (hst.front 2 rfl)).mono ?_; rintro e W30 ⟨rfl, hst'⟩; clear hst; have hst := hst'; clear hst'; simp only [List.eraseIdx_cons_succ, List.eraseIdx_cons_zero] at hst))
   exact ⟨rfl, rfl, _, _, _, hst.keep2⟩
  ·obtain ⟨q, d, rfl, hq⟩ : ∃ q d, p = q ++ [d] ∧ q.length = k - 1 := by
    refine ⟨p.dropLast, p.getLast (fun e => by rw [e] at hk; exact hk0 hk.symm), (List.dropLast_concat_getLast _).symm, by rw [List.length_dropLast, hk]⟩
   have HK := Lib.hid (fun w L hst => take_any old d q A k c g w0 w L hst hx)
   by_cases hk2 : m ≤ halfN n
   ·rw [plN_left h (by omega) hk2] at hp
    have HI := Lib.hid (fun A' c' w L hst hx' => ih (halfN n) hlt m own q A' (k - 1) c' w L hst hx' (by omega) hm1 hk2 (by omega))
    have hk' : (m : Int) ≤ (halfN n : Int) := by omega
    clear ih hp hx hq hk hk0 h
    generalize digsL q = lq at *
    generalize halfN n = kk at *
    go_enter Tryz.func181, Tryz.ntmps181
    go_upto_region 1 with (first | (refine L_allocA (d := some 8) rfl rfl rfl el_api_Digest ?_; (try clear hnew); intro g8 W8 hnew; replace hst := hst.trans hnew; simp only [List.cons_append, List.nil_append] at hst) | (refine L_allocA (d := some 9) rfl rfl rfl el_api_Digest ?_; (try clear hnew); intro g9 W9 hnew; replace hst := hst.trans hnew; simp only [List.cons_append, List.nil_append] at hst))
    go_upto_region 6 with (fail)
    go_upto_region 7 with (first | (go_at_call 187; (try clear hnew); refine (HK.out _ _ (hst.front 2 rfl)).mono ?_; rintro e W30 ⟨rfl, A30, c30, hst', hx'⟩; clear hst; have hst := hst'; clear hst'; simp only [List.eraseIdx_cons_succ, List.eraseIdx_cons_zero] at hst) | (refine L_allocA (d := some 11) rfl rfl rfl el_api_Digest ?_; (try clear hnew); intro g11 W11 hnew; replace hst := hst.trans hnew; simp only [List.cons_append, List.nil_append] at hst) | (refine wpl_at (.store 32 (.tmp 11) (.tmp 30)) rfl ?_; (refine L_storeA rfl rfl hst rfl (by rfl) (ev_tmp rfl) (by (exact Dig.one _)) el_api_Digest (by (exact Dig.size _)) 0 rfl (by (rfl)) ?_; clear hst; intro WS3 hst; simp only [List.set_cons_zero, List.set_cons_succ] at hst)))
    go_upto_region 8 with ((go_at_call 91; (try clear hnew); refine (HF.out _).mono ?_; rintro e Wk1 ⟨rfl, hnew⟩; replace hst := hst.keep hnew))
    go_upto_region 9 with (fail)
    go_wp2_with ((go_at_call 181; (try clear hnew); refine (HI.out _ _ _ _ (hst.front 1 rfl) hx').mono ?_; rintro e W41 ⟨rfl, A41, k41, c41, hst'⟩; clear hst; have hst := hst'; clear hst'; simp only [List.eraseIdx_cons_succ, List.eraseIdx_cons_zero] at hst))
    exact ⟨rfl, rfl, A41, k41, c41, hst.keep3⟩
   ·rw [plN_right h (by omega) hk2] at hp
    have HI := Lib.hid (fun A' c' w L hst hx' => ih (n - halfN n) (by omega) (m - halfN n) false q A' (k - 1) c' w L hst hx' (by omega) (by omega) (by omega) (by omega))
    have e1 : ((m - halfN n : Nat) : Int) = (m : Int) - (halfN n : Int) := by omega
    have e2 : ((n - halfN n : Nat) : Int) = (n : Int) - (halfN n : Int) := by omega
    rw [e1, e2] at HI
    have hk' : ¬ (m : Int) ≤ (halfN n : Int) := by omega
    clear ih hp hx hq hk hk0 h e1 e2
    generalize digsL q = lq at *
    generalize halfN n = kk at *
    go_enter Tryz.func181, Tryz.ntmps181
    go_upto_region 1 with (first | (refine L_allocA (d := some 8) rfl rfl rfl el_api_Digest ?_; (try clear hnew); intro g8 W8 hnew; replace hst := hst.trans hnew; simp only [List.cons_append, List.nil_append] at hst) | (refine L_allocA (d := some 9) rfl rfl rfl el_api_Digest ?_; (try clear hnew); intro g9 W9 hnew; replace hst := hst.trans hnew; simp only [List.cons_append, List.nil_append] at hst))
    go_upto_region 6 with (fail)
    go_upto_region 7 with (first | (go_at_call 187; (try clear hnew); refine (HK.out _ _ (hst.front 2 rfl)).mono ?_; rintro e W30 ⟨rfl, A30, c30, hst', hx'⟩; clear hst; have hst := hst'; clear hst'; simp only [List.eraseIdx_cons_succ, List.eraseIdx_cons_zero] at hst) | (refine L_allocA (d := some 11) rfl rfl rfl el_api_Digest ?_; (try clear hnew); intro g11 W11 hnew; replace hst := hst.trans hnew; simp only [List.cons_append, List.nil_append] at hst) | (refine wpl_at (.store 32 (.tmp 11) (.tmp 30)) rfl ?_; (refine L_storeA rfl rfl hst rfl (by rfl) (ev_tmp rfl) (by (exact Dig.one _)) el_api_Digest (by (exact Dig.size _)) 0 rfl (by (rfl)) ?_; clear hst; intro WS3 hst; simp only [List.set_cons_zero, List.set_cons_succ] at hst)))
    go_upto_region 8 with ((go_at_call 91; (try clear hnew); refine (HF.out _).mono ?_; rintro e Wk2 ⟨rfl, hnew⟩; replace hst := hst.keep hnew))
    go_upto_region 11 with (fail)
    go_wp2_with ((go_at_call 181; (try clear hnew); refine (HI.out _ _ _ _ (hst.front 1 rfl) hx').mono ?_; rintro e W56 ⟨rfl, A56, k56, c56, hst'⟩; clear hst; have hst := hst'; clear hst'; simp only [List.eraseIdx_cons_succ, List.eraseIdx_cons_zero] at hst))
    exact ⟨rfl, rfl, A56, k56, c56, hst.keep3⟩
set_option maxHeartbeats 4000000 in
theorem catch_stops (w0 w : World) (ga gb ge : Nat) (xa xb : Array Value) (L : List Res) (ha : xa.size = 32) (hb : xb.size = 32) (hst : St w0 w (.blk ge 36 #[.nilIface] :: .blk gb 32 xb :: .blk ga 32 xa :: L)) :
  CallsD Tryz.prog 180 #[.pointer (some ⟨ga, 0, none⟩), .pointer (some ⟨gb, 0, none⟩), .pointer (some ⟨ge, 0, none⟩)] (.panicking [lenP]) w fun e u' w' => e = .returned (.tuple #[]) ∧ u' = .panicking [{ v := errV 3, recovered := true }] ∧
   St w0 w' (.blk ge 36 #[errV 3] :: .blk gb 32 zeroD.arr :: .blk ga 32 zeroD.arr :: L) := by
 have hta : ∀ w : World, (Instr.typeAssert (Value.iface 28 (Value.int IntKind.i64 3)) 20 28 true).run Tryz.prog w = .ok (.tuple #[.int .i64 3, .bool true]) w := fun w => by kernel_rfl
 refine callsD_of_wpS Tryz.func180 rfl fun c₀ cs hu => ?_
 apply wpS_seq
 apply wpS_region
 simp [wpOpsS, go_sem, recoverD, hu, Tryz.ntmps180, Exit.thenS]
 refine wpS_of_wp ?_
 simp only [errV, Array.replicate_succ, Array.replicate_zero, List.push_toArray, List.append_toArray, List.nil_append, List.cons_append, List.setIfInBounds_toArray, List.set_cons_succ, List.set_cons_zero]
 go_wp2_with (first | (refine L_build0 (d := some 12) rfl rfl rfl Tryz.underlying32 el_uint8 el_api_Digest ?_) | (refine L_build0 (d := some 13) rfl rfl rfl Tryz.underlying32 el_uint8 el_api_Digest ?_) | (refine wpl_at (.store 32 (.tmp 0) (.tmp 12)) rfl ?_; (refine L_storeA rfl rfl hst rfl (by rfl) (ev_tmp rfl) (by (exact Dig.one _)) el_api_Digest (by (rfl)) 2 rfl (by (exact ha)) ?_; clear hst; intro WS4 hst; simp only [List.set_cons_zero, List.set_cons_succ] at hst)) | (refine wpl_at (.store 32 (.tmp 1) (.tmp 13)) rfl ?_; (refine L_storeA rfl rfl hst rfl (by rfl) (ev_tmp rfl) (by (exact Dig.one _)) el_api_Digest (by (rfl)) 1 rfl (by (exact hb)) ?_; clear hst; intro WS5 hst; simp only [List.set_cons_zero, List.set_cons_succ] at hst)) | (refine wpl_at (.store 36 (.tmp 2) (.tmp 15)) rfl ?_; (refine L_store1 rfl rfl hst rfl (by rfl) (ev_tmp rfl) rfl el_error 0 rfl (by (exact of_decide_eq_true rfl)) ?_; clear hst; intro WS6 hst; simp only [List.set_cons_zero, List.set_cons_succ] at hst)))
 exact ⟨rfl, _, rfl, _, results_none rfl _ _ _, rfl, rfl, hst⟩
set_option maxHeartbeats 4000000 in
set_option maxRecDepth 100000 in
theorem gFold_short (n m : Nat) (old : Dig) (p : List Dig) (A : Option Addr) (k c : Nat) (w : World) (hx : SlR w A k c 32 (digsL p)) (hk : k < plN n m true) (h1 : 1 ≤ m) (hmn : m ≤ n) (hn : n ≤ 256) :
  Calls Tryz.prog 167 #[.int .i64 (m : Int), .int .i64 (n : Int), old.v, .slice A k c] w fun e w' => e = .returned (.tuple #[zeroD.v, zeroD.v, errV 3]) ∧ St w w' [] := by
 have hst := St.refl w
 have HI := Lib.hid (fun g w' L hst => gfold_short old g w n m true p A k c w' L hst hx hk h1 hmn hn)
 have t1 : ¬ (n : Int) < 1 := by omega
 have t2 : ¬ (256 : Int) < (n : Int) := by omega
 have t3 : ¬ (m : Int) < 1 := by omega
 have t4 : ¬ (n : Int) < (m : Int) := by omega
 have hmf : ∀ (fn : Fn) (first cap : Array Value) (w : World), (Instr.makeFunc fn first cap).run Tryz.prog w = .ok (.func fn first cap) w := fun _ _ _ _ => rfl
 clear hk hx
 go_enter_defers Tryz.func167, Tryz.ntmps167
 go_upto_region 1 with (first | (refine L_boxA (d := some 6) rfl rfl rfl (ev_tmp rfl) ?_; (try clear hnew); intro g6 W6 hnew; replace hst := hst.trans hnew; simp only [List.cons_append, List.nil_append] at hst) | (refine L_allocA (d := some 8) rfl rfl rfl el_api_Digest ?_; (try clear hnew); intro g8 W8 hnew; replace hst := hst.trans hnew; simp only [List.cons_append, List.nil_append] at hst) | (refine L_allocA (d := some 9) rfl rfl rfl el_api_Digest ?_; (try clear hnew); intro g9 W9 hnew; replace hst := hst.trans hnew; simp only [List.cons_append, List.nil_append] at hst) | (refine L_alloc1 (d := some 10) rfl rfl rfl el_error rfl ?_; (try clear hnew); intro g10 W10 hnew; replace hst := hst.trans hnew; simp only [List.cons_append, List.nil_append] at hst))
 go_upto_region 3 with (fail)
 go_upto_region 4 with (fail)
 go_upto_region 5 with (first | (refine L_buildF (d := some 33) rfl rfl rfl (ev_tmp rfl) (ev_tmp rfl) ?_) | ((refine L_loadA (d := some 31) rfl rfl rfl (by rfl) Tryz.underlying32 rfl el_api_Digest (by (exact hst.get 3 rfl)) (by (exact Dig.size _)) ?_)) | (refine L_boxA (d := some 34) rfl rfl rfl (ev_tmp rfl) ?_; (try clear hnew); intro g34 W34 hnew; replace hst := hst.trans hnew; simp only [List.cons_append, List.nil_append] at hst))
 go_wp2_with ((go_at_call 181; (try clear hnew); refine (HI.out _ _ _ hst).mono ?_; rintro e W39 ⟨rfl, A39, k39, c39, hst'⟩; clear hst; have hst := hst'; clear hst'))
 refine leaves_cons (f := 180) (args := #[.pointer (some ⟨g8, 0, none⟩), .pointer (some ⟨g9, 0, none⟩), .pointer (some ⟨g10, 0, none⟩)]) (by simp) (by simp [go_sem]) ?_
 refine (catch_stops w _ g8 g9 g10 _ _ _ (Dig.size _) (Dig.size _) hst.tail).mono ?_
 rintro e u' w'' ⟨rfl, rfl, hst2⟩
 exact ⟨_, res_cell3 rfl rfl rfl rfl (hst2.get 2 rfl) (hst2.get 1 rfl) (cell_of (hst2.get 0 rfl) rfl) Tryz.underlying32 rfl Tryz.underlying32 rfl Tryz.underlying36 rfl el_api_Digest (Dig.size _) el_api_Digest (Dig.size _), rfl, hst2.forget⟩
set_option maxHeartbeats 4000000 in
set_option maxRecDepth 100000 in
theorem gFold_long (n m : Nat) (old : Dig) (p : List Dig) (A : Option Addr) (k c : Nat) (w : World) (hT : Tb w) (hx : SlR w A k c 32 (digsL p)) (hk : plN n m true < k) (h1 : 1 ≤ m) (hmn : m ≤ n) (hn : n ≤ 256) :
  Calls Tryz.prog 167 #[.int .i64 (m : Int), .int .i64 (n : Int), old.v, .slice A k c] w fun e w' => e = .returned (.tuple #[zeroD.v, zeroD.v, errV 3]) ∧ St w w' [] := by
 have hst := St.refl w
 have hl : p.length = k := by have := hx.1; rw [length_digsL] at this; omega
 obtain ⟨r, q, rfl, hr, hq⟩ : ∃ r q, p = r ++ q ∧ r.length = k - plN n m true ∧ q.length = plN n m true := by
  refine ⟨p.take (k - plN n m true), p.drop (k - plN n m true), (List.take_append_drop _ _).symm, ?_, ?_⟩
  ·rw [List.length_take]; omega
  ·rw [List.length_drop]; omega
 have HI := Lib.hid (fun g w' L hst => gfold_any old g w hT r n m true q A k c w' L hst hx hq h1 hmn hn)
 rw [hr] at HI
 have t1 : ¬ (n : Int) < 1 := by omega
 have t2 : ¬ (256 : Int) < (n : Int) := by omega
 have t3 : ¬ (m : Int) < 1 := by omega
 have t4 : ¬ (n : Int) < (m : Int) := by omega
 have hmf : ∀ (fn : Fn) (first cap : Array Value) (w : World), (Instr.makeFunc fn first cap).run Tryz.prog w = .ok (.func fn first cap) w := fun _ _ _ _ => rfl
 have HF := Lib.hid (fun A' k' c' => fArr_at old A' k' c')
 obtain ⟨x, hx0⟩ : ∃ x, x = k - plN n m true := ⟨_, rfl⟩
 rw [← hx0] at HI
 have t5 : 0 < (x : Int) := by omega
 clear hk hx hl hr hq hT hx0
 generalize grN n m true old q = ab at *
 generalize digsL r = lr at *
 go_enter_defers Tryz.func167, Tryz.ntmps167
 go_upto_region 1 with (first | (refine L_boxA (d := some 6) rfl rfl rfl (ev_tmp rfl) ?_; (try clear hnew); intro g6 W6 hnew; replace hst := hst.trans hnew; simp only [List.cons_append, List.nil_append] at hst) | (refine L_allocA (d := some 8) rfl rfl rfl el_api_Digest ?_; (try clear hnew); intro g8 W8 hnew; replace hst := hst.trans hnew; simp only [List.cons_append, List.nil_append] at hst) | (refine L_allocA (d := some 9) rfl rfl rfl el_api_Digest ?_; (try clear hnew); intro g9 W9 hnew; replace hst := hst.trans hnew; simp only [List.cons_append, List.nil_append] at hst) | (refine L_alloc1 (d := some 10) rfl rfl rfl el_error rfl ?_; (try clear hnew); intro g10 W10 hnew; replace hst := hst.trans hnew; simp only [List.cons_append, List.nil_append] at hst))
 go_upto_region 3 with (fail)
 go_upto_region 4 with (fail)
 go_upto_region 5 with (first | (refine L_buildF (d := some 33) rfl rfl rfl (ev_tmp rfl) (ev_tmp rfl) ?_) | ((refine L_loadA (d := some 31) rfl rfl rfl (by rfl) Tryz.underlying32 rfl el_api_Digest (by (exact hst.get 3 rfl)) (by (exact Dig.size _)) ?_)) | (refine L_boxA (d := some 34) rfl rfl rfl (ev_tmp rfl) ?_; (try clear hnew); intro g34 W34 hnew; replace hst := hst.trans hnew; simp only [List.cons_append, List.nil_append] at hst))
 go_upto_region 6 with (first | (go_at_call 181; (try clear hnew); refine (HI.out _ _ _ hst).mono ?_; rintro e W39 ⟨rfl, A39, c39, hst', hx'⟩; clear hst; have hst := hst'; clear hst' hx') | (refine wpl_at (.store 32 (.tmp 8) (.tmp 40)) rfl ?_; (refine L_storeA rfl rfl hst rfl (by rfl) (ev_tmp rfl) (by (exact Dig.one _)) el_api_Digest (by (exact Dig.size _)) 3 rfl (by (rfl)) ?_; clear hst; intro WS7 hst; simp only [List.set_cons_zero, List.set_cons_succ] at hst)) | (refine wpl_at (.store 32 (.tmp 9) (.tmp 41)) rfl ?_; (refine L_storeA rfl rfl hst rfl (by rfl) (ev_tmp rfl) (by (exact Dig.one _)) el_api_Digest (by (exact Dig.size _)) 2 rfl (by (rfl)) ?_; clear hst; intro WS8 hst; simp only [List.set_cons_zero, List.set_cons_succ] at hst)))
 (try clear hnew)
 go_upto_region 7 with ((refine L_load1 (d := some 45) rfl rfl rfl (by rfl) Tryz.underlying44 rfl (by (exact cell_of (hst.get 0 rfl) (HF.out _ _ _))) ?_))
 go_wp2_with (fail)
 refine leaves_cons (f := 180) (args := #[.pointer (some ⟨g8, 0, none⟩), .pointer (some ⟨g9, 0, none⟩), .pointer (some ⟨g10, 0, none⟩)]) (by simp) (by simp [go_sem]) ?_
 refine (catch_stops w _ g8 g9 g10 _ _ _ (Dig.size _) (Dig.size _) hst.tail).mono ?_
 rintro e u' w'' ⟨rfl, rfl, hst2⟩
 exact ⟨_, res_cell3 rfl rfl rfl rfl (hst2.get 2 rfl) (hst2.get 1 rfl) (cell_of (hst2.get 0 rfl) rfl) Tryz.underlying32 rfl Tryz.underlying32 rfl Tryz.underlying36 rfl el_api_Digest (Dig.size _) el_api_Digest (Dig.size _), rfl, hst2.forget⟩
theorem gFold_length (n m : Nat) (old : Dig) (p : List Dig) (A : Option Addr) (k c : Nat) (w : World) (hT : Tb w) (hx : SlR w A k c 32 (digsL p)) (hk : k ≠ plN n m true) (h1 : 1 ≤ m) (hmn : m ≤ n) (hn : n ≤ 256) :
  Calls Tryz.prog 167 #[.int .i64 (m : Int), .int .i64 (n : Int), old.v, .slice A k c] w fun e w' => e = .returned (.tuple #[zeroD.v, zeroD.v, errV 3]) ∧ St w w' [] := by
 by_cases h : k < plN n m true
 ·exact gFold_short n m old p A k c w hx h h1 hmn hn
 ·exact gFold_long n m old p A k c w hT hx (by omega) h1 hmn hn
set_option maxHeartbeats 4000000 in
set_option maxRecDepth 100000 in
theorem gFold_range (n m : Int) (old : Dig) (A : Option Addr) (k c : Nat) (w : World) (h : n < 1 ∨ ¬ n < 1 ∧ 256 < n ∨ ¬ n < 1 ∧ ¬ 256 < n ∧ m < 1 ∨ ¬ n < 1 ∧ ¬ 256 < n ∧ ¬ m < 1 ∧ n < m) :
  Calls Tryz.prog 167 #[.int .i64 m, .int .i64 n, old.v, .slice A k c] w fun e w' => e = .returned (.tuple #[zeroD.v, zeroD.v, errV 2]) ∧ St w w' [] := by
 have hst := St.refl w
 rcases h with h1 | ⟨h1, h2⟩ | ⟨h1, h2, h3⟩ | ⟨h1, h2, h3, h4⟩
 all_goals
  go_enter_defers Tryz.func167, Tryz.ntmps167
  go_upto_region 1 with (first | (refine L_boxA (d := some 6) rfl rfl rfl (ev_tmp rfl) ?_; (try clear hnew); intro g6 W6 hnew; replace hst := hst.trans hnew; simp only [List.cons_append, List.nil_append] at hst) | (refine L_allocA (d := some 8) rfl rfl rfl el_api_Digest ?_; (try clear hnew); intro g8 W8 hnew; replace hst := hst.trans hnew; simp only [List.cons_append, List.nil_append] at hst) | (refine L_allocA (d := some 9) rfl rfl rfl el_api_Digest ?_; (try clear hnew); intro g9 W9 hnew; replace hst := hst.trans hnew; simp only [List.cons_append, List.nil_append] at hst) | (refine L_alloc1 (d := some 10) rfl rfl rfl el_error rfl ?_; (try clear hnew); intro g10 W10 hnew; replace hst := hst.trans hnew; simp only [List.cons_append, List.nil_append] at hst))
  go_upto_region 2 with (fail)
  go_wp2_with (first | (refine L_build0 (d := some 27) rfl rfl rfl Tryz.underlying32 el_uint8 el_api_Digest ?_) | (refine L_build0 (d := some 28) rfl rfl rfl Tryz.underlying32 el_uint8 el_api_Digest ?_) | (refine wpl_at (.store 32 (.tmp 8) (.tmp 27)) rfl ?_; (refine L_storeA rfl rfl hst rfl (by rfl) (ev_tmp rfl) (by (exact Dig.one _)) el_api_Digest (by (rfl)) 2 rfl (by (rfl)) ?_; clear hst; intro WS3 hst; simp only [List.set_cons_zero, List.set_cons_succ] at hst)) | (refine wpl_at (.store 32 (.tmp 9) (.tmp 28)) rfl ?_; (refine L_storeA rfl rfl hst rfl (by rfl) (ev_tmp rfl) (by (exact Dig.one _)) el_api_Digest (by (rfl)) 1 rfl (by (rfl)) ?_; clear hst; intro WS4 hst; simp only [List.set_cons_zero, List.set_cons_succ] at hst)) | (refine wpl_at (.store 36 (.tmp 10) (.tmp 29)) rfl ?_; (refine L_store1 rfl rfl hst rfl (by rfl) (ev_tmp rfl) rfl el_error 0 rfl (by (exact of_decide_eq_true rfl)) ?_; clear hst; intro WS5 hst; simp only [List.set_cons_zero, List.set_cons_succ] at hst)))
  exact ⟨_, res_cell3 rfl rfl rfl rfl (hst.get 2 rfl) (hst.get 1 rfl) (cell_of (hst.get 0 rfl) rfl) Tryz.underlying32 rfl Tryz.underlying32 rfl Tryz.underlying36 rfl el_api_Digest (Dig.size _) el_api_Digest (Dig.size _), rfl, hst.forget⟩
set_option maxHeartbeats 4000000 in
theorem gCheck_no (n m : Int) (old now : Dig) (A : Option Addr) (k c q : Nat) (w : World) (HF : ∀ w', St w w' [] → Calls Tryz.prog 167 #[.int .i64 m, .int .i64 n, old.v, .slice A k c] w' fun e w'' => e = .returned (.tuple #[zeroD.v, zeroD.v, errV q]) ∧ St w' w'' []) :
  Calls Tryz.prog 152 #[.int .i64 m, .int .i64 n, old.v, now.v, .slice A k c] w fun e w' => e = .returned (.bool false) ∧ St w w' [] := by
 have hst := St.refl w
 have HF := Lib.hid HF
 unfold errV at HF
 go_enter Tryz.func152, Tryz.ntmps152
 go_upto_region 1 with (first | (refine L_boxA (d := some 7) rfl rfl rfl (ev_tmp rfl) ?_; (try clear hnew); intro g7 W7 hnew; replace hst := hst.trans hnew; simp only [List.cons_append, List.nil_append] at hst) | (refine L_boxA (d := some 8) rfl rfl rfl (ev_tmp rfl) ?_; (try clear hnew); intro g8 W8 hnew; replace hst := hst.trans hnew; simp only [List.cons_append, List.nil_append] at hst))
 go_upto_region 2 with (first | (go_at_call 167; (try clear hnew); refine (HF.out _ hst.forget).mono ?_; rintro e Wk3 ⟨rfl, hnew⟩; replace hst := hst.keep hnew) | ((refine L_loadA (d := some 17) rfl rfl rfl (by rfl) Tryz.underlying32 rfl el_api_Digest (by (exact hst.get 1 rfl)) (by (exact Dig.size _)) ?_)) | (refine L_allocA (d := some 11) rfl rfl rfl el_api_Digest ?_; (try clear hnew); intro g11 W11 hnew; replace hst := hst.trans hnew; simp only [List.cons_append, List.nil_append] at hst) | (refine L_allocA (d := some 12) rfl rfl rfl el_api_Digest ?_; (try clear hnew); intro g12 W12 hnew; replace hst := hst.trans hnew; simp only [List.cons_append, List.nil_append] at hst) | (refine wpl_at (.store 32 (.tmp 11) (.tmp 20)) rfl ?_; (refine L_storeA rfl rfl hst rfl (by rfl) (ev_tmp rfl) (by (exact Dig.one _)) el_api_Digest (by (rfl)) 1 rfl (by (rfl)) ?_; clear hst; intro WS11 hst; simp only [List.set_cons_zero, List.set_cons_succ] at hst)) | (refine wpl_at (.store 32 (.tmp 12) (.tmp 21)) rfl ?_; (refine L_storeA rfl rfl hst rfl (by rfl) (ev_tmp rfl) (by (exact Dig.one _)) el_api_Digest (by (rfl)) 0 rfl (by (rfl)) ?_; clear hst; intro WS12 hst; simp only [List.set_cons_zero, List.set_cons_succ] at hst)))
 go_wp2_with (fail)
 go_ret
 exact ⟨rfl, hst.forget⟩
end Go.Proofs.YtaebeemnipafbaaGreatDoor

set_option maxRecDepth 20000
set_option linter.unusedSimpArgs false
set_option linter.unusedVariables false
namespace Go.Proofs.YtaebeemnipafbaaGreatDoor
open Go.RowKit
def growsB (m s : Int) (old now : Dig) (p : List Dig) : Bool :=
 decide (1 ≤ m ∧ m ≤ s ∧ s ≤ 256 ∧ p.length = plN s.toNat m.toNat true) && (decide ((grN s.toNat m.toNat true old p).1 = old) && decide ((grN s.toNat m.toNat true old p).2 = now))
theorem check_all (m s : Int) (old now : Dig) (p : List Dig) (P : Option Addr) (k pc : Nat) (w : World) (hT : Tb w) (hs : SlR w P k pc 32 (digsL p)) :
  Calls Tryz.prog 152 #[.int .i64 m, .int .i64 s, old.v, now.v, .slice P k pc] w fun e w' => e = .returned (.bool (growsB m s old now p)) ∧ St w w' [] := by
 have hl : p.length = k := by have := hs.1; rw [length_digsL] at this; omega
 by_cases hr : s < 1 ∨ 256 < s ∨ m < 1 ∨ s < m
 ·rw [show growsB m s old now p = false by
   unfold growsB
   rw [decide_eq_false (by omega), Bool.false_and]]
  exact gCheck_no s m old now P k pc 2 w (fun w' _ => gFold_range s m old P k pc w' (by omega))
 ·have em : ((m.toNat : Nat) : Int) = m := by omega
  have es : ((s.toNat : Nat) : Int) = s := by omega
  by_cases hk : k = plN s.toNat m.toNat true
  ·have := gCheck_any s.toNat m.toNat old now p P k pc w hT hs hk (by omega) (by omega) (by omega)
   rw [em, es] at this
   rw [show growsB m s old now p = (decide ((grN s.toNat m.toNat true old p).1 = old) && decide ((grN s.toNat m.toNat true old p).2 = now)) by
    unfold growsB
    rw [decide_eq_true ⟨by omega, by omega, by omega, by omega⟩, Bool.true_and]]
   exact this
  ·rw [show growsB m s old now p = false by
    unfold growsB
    rw [decide_eq_false (by omega), Bool.false_and]]
   refine gCheck_no s m old now P k pc 3 w (fun w' hst => ?_)
   have := gFold_length s.toNat m.toNat old p P k pc w' (Tb.of hT hst) (hst.old (by decide) hs) hk (by omega) (by omega) (by omega)
   rwa [em, es] at this
def takeN (key : List UInt8) (n0 : Int) (x0 y0 : Dig) (n : Int) (x y z : Dig) (p : List Dig) : Nat :=
 if z = tagN key n x y then
  if n < 0 ∨ 256 < n then 2
  else if n < n0 then 8
  else if n = n0 then (if x = x0 ∧ y = y0 then 0 else 9)
  else if n0 = 0 then (if p = [] then 0 else 9)
  else if growsB n0 n x0 x p then 0 else 9
 else 1
def errO (r : Nat) : Value := if r = 0 then .nilIface else errV r
end Go.Proofs.YtaebeemnipafbaaGreatDoor

set_option maxRecDepth 20000
set_option linter.unusedSimpArgs false
set_option linter.unusedVariables false
namespace Go.Proofs.YtaebeemnipafbaaGreatDoor
structure FoundN where
 note : NoteN
 at_ : Int
 path : List Dig
 mpath : List Dig
def zeroNt : NoteN := ⟨[], zeroD, 0⟩
def zeroFd : FoundN := ⟨zeroNt, 0, [], []⟩
def findN (ns : List NoteN) (s : List UInt8) : FoundN :=
 if isNm s = true then
  match lastI ns s with
  | some i => ⟨ns[i]?.getD zeroNt, (i : Int), pathN (lvN ns) i, mPath (lgF ns) (idxN s) 32⟩
  | none => ⟨zeroNt, 0, [], mPath (lgF ns) (idxN s) 32⟩
 else zeroFd
def findE (s : List UInt8) : Nat := if isNm s = true then 0 else 1
def mapTold (y : Dig) (s : List UInt8) (l : Dig) (p : List Dig) : Prop := p.length = 32 ∧ mFold (idxN s) l p = y
def treeTold (n : Int) (x : Dig) (l : Dig) (i : Int) (p : List Dig) : Prop := 1 ≤ n ∧ n ≤ 256 ∧ 0 ≤ i ∧ i < n ∧ p.length = longN i.toNat n.toNat ∧ foldedN l i.toNat n.toNat p = x
instance (y : Dig) (s : List UInt8) (l : Dig) (p : List Dig) : Decidable (mapTold y s l p) := by unfold mapTold; exact inferInstance
instance (n : Int) (x : Dig) (l : Dig) (i : Int) (p : List Dig) : Decidable (treeTold n x l i p) := by unfold treeTold; exact inferInstance
def lookN (n : Int) (x y : Dig) (s : List UInt8) (f : FoundN) : Nat × Option NoteN :=
 if isNm s = true then
  if f.note.name = [] then
   (if f.note.key = zeroD ∧ f.note.turn = 0 ∧ f.at_ = 0 ∧ f.path = [] ∧ mapTold y s zeroD f.mpath then (0, none) else (9, none))
  else if noteOk f.note = true ∧ f.note.name = s then
   (if mapTold y s (eLeaf (idxN s) (ntLeaf f.note)) f.mpath ∧ treeTold n x (ntLeaf f.note) f.at_ f.path then (0, some f.note) else (9, none))
  else (9, none)
 else (1, none)
theorem length_lvN (ns : List NoteN) : (lvN ns).length = ns.length := by simp [lvN]
theorem lvN_take (ns : List NoteN) (m : Nat) : lvN (ns.take m) = (lvN ns).take m := by simp [lvN, List.map_take]
theorem grows_honest {ns : List NoteN} {m : Nat} (h1 : 1 ≤ m) (hm : m ≤ ns.length) (hl : ns.length ≤ 256) :
  growsB (m : Int) (ns.length : Int) (rootN (lvN (ns.take m))) (rootN (lvN ns)) (gpN (lvN ns) m true) = true := by
 have hg := grow_proves ns.length (lvN ns) m true (rootN (lvN (ns.take m))) (length_lvN ns) h1 hm (fun _ => by rw [lvN_take])
 unfold growsB
 rw [Int.toNat_natCast, Int.toNat_natCast, hg, lvN_take]
 have := length_gpN ns.length (lvN ns) m true (length_lvN ns)
 rw [this]
 simp
 omega
def prfN (ns : List NoteN) (m : Nat) : List Dig := if m = 0 then [] else gpN (lvN ns) m true
theorem take_honest (key : List UInt8) {ns : List NoteN} {m : Nat} (hm : m ≤ ns.length) (hl : ns.length ≤ 256) :
  takeN key (m : Int) (rootN (lvN (ns.take m))) (mapN (ns.take m)) (ns.length : Int) (rootN (lvN ns)) (mapN ns) (tagN key (ns.length : Int) (rootN (lvN ns)) (mapN ns)) (prfN ns m) = 0 := by
 unfold takeN
 rw [if_pos rfl, if_neg (by omega), if_neg (by omega)]
 by_cases c1 : (ns.length : Int) = (m : Int)
 ·have : m = ns.length := by omega
  subst this
  rw [if_pos rfl, List.take_length, if_pos ⟨rfl, rfl⟩]
 rw [if_neg c1]
 by_cases c2 : m = 0
 ·subst c2
  rw [if_pos (show ((0 : Nat) : Int) = 0 from rfl)]
  simp [prfN]
 ·rw [if_neg (by omega), if_pos]
  unfold prfN
  rw [if_neg c2]
  exact grows_honest (by omega) hm hl
end Go.Proofs.YtaebeemnipafbaaGreatDoor

set_option maxRecDepth 20000
set_option linter.unusedSimpArgs false
set_option linter.unusedVariables false
namespace Go.Proofs.YtaebeemnipafbaaGreatDoor
theorem countP_some (n : Nat) (o : Option Nat) (h : ∀ j, o = some j → j < n) : (List.range n).countP (fun i => decide (o = some i)) = if o.isSome then 1 else 0 := by
 cases o with
 | none => simp
 | some j =>
  have hj := h j rfl
  have e : (fun i => decide (some j = some i)) = fun i => i == j := by
   funext i
   by_cases hi : j = i
   ·simp [hi]
   ·simp [hi, Ne.symm hi]
  rw [e]
  have := List.Nodup.count (a := j) (List.nodup_range (n := n))
  rw [if_pos (List.mem_range.2 hj)] at this
  exact this
theorem namesC_snoc (ns : List NoteN) (n : NoteN) : namesC (ns ++ [n]) = if (lastI ns n.name).isSome then namesC ns else namesC ns + 1 := by
 have hc : ∀ ms : List NoteN, namesC ms = (List.range ms.length).countP fun i => decide ((ms[i]?.bind fun n => lastI ms n.name) = some i) := fun ms => by rw [namesC, List.countP_eq_length_filter]
 rw [hc, hc, List.length_append, List.length_singleton, List.range_succ, List.countP_append, List.countP_singleton]
 have h1 : decide (((ns ++ [n])[ns.length]?.bind fun x => lastI (ns ++ [n]) x.name) = some ns.length) = true := by
  rw [List.getElem?_append_right (Nat.le_refl _), Nat.sub_self]
  simp [lastI_snoc]
 rw [h1]
 have h2 := countP_some ns.length (lastI ns n.name) (fun j hj => lastI_lt hj)
 have h3 : ∀ i ∈ List.range ns.length, decide ((((ns ++ [n])[i]?.bind fun x => lastI (ns ++ [n]) x.name)) = some i) = (decide ((ns[i]?.bind fun x => lastI ns x.name) = some i) && !decide (lastI ns n.name = some i)) := by
  intro i hi
  have hi := List.mem_range.1 hi
  rw [List.getElem?_append_left hi, List.getElem?_eq_getElem hi]
  simp only [Option.bind_some]
  rw [Bool.eq_iff_iff]
  simp only [decide_eq_true_eq, Bool.and_eq_true, Bool.not_eq_true', decide_eq_false_iff_not]
  rw [lastI_snoc]
  by_cases he : n.name = (ns[i]).name
  ·rw [if_pos he, he]
   constructor
   ·intro h; have := Option.some.inj h; omega
   ·rintro ⟨h1, h2⟩; exact absurd h1 h2
  ·rw [if_neg he]
   have : ¬ lastI ns n.name = some i := fun e => by
    obtain ⟨m, hm1, hm2⟩ := lastI_some e
    rw [List.getElem?_eq_getElem hi] at hm1
    obtain rfl := Option.some.inj hm1
    exact he hm2.symm
   exact ⟨fun h => ⟨h, this⟩, fun h => h.1⟩
 rw [List.countP_congr (fun i hi => by rw [h3 i hi])]
 have h4 : ∀ l : List Nat, (∀ i ∈ l, lastI ns n.name = some i → (ns[i]?.bind fun x => lastI ns x.name) = some i) → l.countP (fun i => decide ((ns[i]?.bind fun x => lastI ns x.name) = some i) && !decide (lastI ns n.name = some i)) + l.countP (fun i => decide (lastI ns n.name = some i)) = l.countP fun i => decide ((ns[i]?.bind fun x => lastI ns x.name) = some i) := by
  intro l
  induction l with
  | nil => intro _; rfl
  | cons i l ih =>
   intro h
   have ih' := ih (fun j hj => h j (List.mem_cons_of_mem _ hj))
   rw [List.countP_cons, List.countP_cons, List.countP_cons]
   have hi := h i (by simp)
   by_cases h5 : lastI ns n.name = some i
   ·rw [decide_eq_true h5, decide_eq_true (hi h5)]
    simp
    omega
   ·rw [decide_eq_false h5]
    simp
    omega
 have h5 := h4 (List.range ns.length) (fun i hi he => by
  obtain ⟨m, hm1, hm2⟩ := lastI_some he
  rw [hm1, Option.bind_some, hm2, he])
 rw [h2] at h5
 by_cases hs : (lastI ns n.name).isSome = true
 ·rw [if_pos hs] at h5 ⊢
  simp only [if_true]
  omega
 ·rw [if_neg hs] at h5 ⊢
  simp only [if_true]
  omega
def atName (ns : List NoteN) (s : List UInt8) : Option (NoteN × Nat × Dig) := (lastI ns s).bind fun i => (ns[i]?).map fun n => (n, i, ntLeaf n)
theorem atName_snoc (ns : List NoteN) (n : NoteN) (s : List UInt8) : atName (ns ++ [n]) s = if n.name = s then some (n, ns.length, ntLeaf n) else atName ns s := by
 unfold atName
 rw [lastI_snoc]
 by_cases h : n.name = s
 ·simp [h]
 ·rw [if_neg h, if_neg h]
  cases hl : lastI ns s with
  | none => rfl
  | some i => simp only [Option.bind_some]; rw [List.getElem?_append_left (lastI_lt hl)]
theorem atName_some {ns : List NoteN} {s : List UInt8} {x : NoteN × Nat × Dig} (h : atName ns s = some x) : lastI ns s = some x.2.1 ∧ ns[x.2.1]? = some x.1 ∧ x.2.2 = ntLeaf x.1 ∧ lastN? ns s = some x.1 := by
 unfold atName at h
 cases hl : lastI ns s with
 | none => rw [hl] at h; cases h
 | some i =>
  rw [hl] at h
  simp only [Option.bind_some] at h
  cases hn : ns[i]? with
  | none => rw [hn] at h; cases h
  | some n =>
   rw [hn] at h
   obtain rfl := Option.some.inj h
   exact ⟨rfl, hn, rfl, by unfold lastN?; rw [hl]; exact hn⟩
theorem atName_isSome (ns : List NoteN) (s : List UInt8) : (atName ns s).isSome = (lastI ns s).isSome := by
 unfold atName
 cases hl : lastI ns s with
 | none => rfl
 | some i =>
  obtain ⟨n, hn, _⟩ := lastI_some hl
  simp [hn]
structure MapsOf (ns : List NoteN) (nm : List (List UInt8 × (NoteN × Nat × Dig))) (am : List (Nat × List UInt8)) : Prop where
 nd : (nm.map (·.1)).Nodup
 look : ∀ s, lookA s nm = atName ns s
 len : nm.length = namesC ns
 ks : ∀ p ∈ nm, isNm p.1 = true
 ndA : (am.map (·.1)).Nodup
 lookA_ : ∀ k s, lookA k am = some s ↔ ∃ n ∈ ns, n.name = s ∧ idxN s = k
 ksA : ∀ p ∈ am, p.1 < 4294967296 ∧ isNm p.2 = true
 lenA : am.length = nm.length
theorem MapsOf.nil : MapsOf [] [] [] where
 nd := by simp
 look s := rfl
 len := rfl
 ks := by simp
 ndA := by simp
 lookA_ k s := by simp [lookA]
 ksA := by simp
 lenA := rfl
theorem upd_mem {α β : Type} [DecidableEq α] {x : α} {v : β} {l : List (α × β)} {p : α × β} (h : p ∈ updA x v l) : p = (x, v) ∨ p ∈ l := by
 unfold updA at h
 split at h
 ·obtain ⟨q, hq, rfl⟩ := List.mem_map.1 h
  by_cases hx : q.1 = x
  ·rw [if_pos hx]; exact .inl rfl
  ·rw [if_neg hx]; exact .inr hq
 ·rcases List.mem_append.1 h with h | h
  ·exact .inr h
  ·exact .inl (List.mem_singleton.1 h)
theorem MapsOf.add {ns : List NoteN} {nm : List (List UInt8 × (NoteN × Nat × Dig))} {am : List (Nat × List UInt8)} (h : MapsOf ns nm am) {s : List UInt8} (he : addE ns s = 0) (k : Dig) :
  MapsOf (ns ++ [newN ns s k]) (updA s (newN ns s k, ns.length, ntLeaf (newN ns s k)) nm) (updA (idxN s) s am) where
 nd := updA_nodup h.nd
 look t := by
  rw [lookA_upd, atName_snoc, h.look]
  rfl
 len := by
  rw [length_updA, namesC_snoc, h.look, atName_isSome, h.len]
  rfl
 ks p hp := by
  rcases upd_mem hp with rfl | hp
  ·exact (addE_zero he).1
  ·exact h.ks p hp
 ndA := updA_nodup h.ndA
 lookA_ i t := by
  rw [lookA_upd]
  have hs := (addE_zero he).2.2.2
  by_cases hi : idxN s = i
  ·rw [if_pos hi]
   constructor
   ·intro ht
    obtain rfl := Option.some.inj ht
    exact ⟨newN ns s k, by simp, rfl, hi⟩
   ·rintro ⟨n, hn, rfl, hni⟩
    rcases List.mem_append.1 hn with hn | hn
    ·rw [hs n hn (by rw [hni, hi])]
    ·rw [List.mem_singleton.1 hn]; rfl
  ·rw [if_neg hi, h.lookA_]
   constructor
   ·rintro ⟨n, hn, h1⟩
    exact ⟨n, List.mem_append_left _ hn, h1⟩
   ·rintro ⟨n, hn, h1, h2⟩
    rcases List.mem_append.1 hn with hn | hn
    ·exact ⟨n, hn, h1, h2⟩
    ·rw [List.mem_singleton.1 hn] at h1
     exact absurd (by rw [← h2, ← h1]; rfl) hi
 ksA p hp := by
  rcases upd_mem hp with rfl | hp
  ·exact ⟨idxN_lt s, (addE_zero he).1⟩
  ·exact h.ksA p hp
 lenA := by
  have hs := (addE_zero he).2.2.2
  rw [length_updA, length_updA, h.lenA, h.look, atName_isSome]
  have e : (lookA (idxN s) am).isSome = (lastI ns s).isSome := by
   cases hl : lastI ns s with
   | some j =>
    obtain ⟨n, h1, h2⟩ := lastI_some hl
    rw [(h.lookA_ (idxN s) s).2 ⟨n, List.mem_of_getElem? h1, h2, rfl⟩]
    rfl
   | none =>
    cases hk : lookA (idxN s) am with
    | none => rfl
    | some t =>
     obtain ⟨n, h1, h2, h3⟩ := (h.lookA_ (idxN s) t).1 hk
     exact absurd (hs n h1 (by rw [h2, h3])) (lastI_none.1 hl n h1)
  rw [e]
theorem MapsOf.taken {ns : List NoteN} {nm : List (List UInt8 × (NoteN × Nat × Dig))} {am : List (Nat × List UInt8)} (h : MapsOf ns nm am) (s : List UInt8) : takenN ns s = true ↔ ∃ t, lookA (idxN s) am = some t ∧ t ≠ s := by
 unfold takenN
 rw [List.any_eq_true]
 constructor
 ·rintro ⟨n, hn, hd⟩
  obtain ⟨h1, h2⟩ := of_decide_eq_true hd
  exact ⟨n.name, (h.lookA_ _ _).2 ⟨n, hn, rfl, h2⟩, h1⟩
 ·rintro ⟨t, h1, h2⟩
  obtain ⟨n, hn, h3, h4⟩ := (h.lookA_ _ _).1 h1
  exact ⟨n, hn, decide_eq_true ⟨by rw [h3]; exact h2, by rw [h3]; exact h4⟩⟩
theorem MapsOf.entries {ns : List NoteN} {nm : List (List UInt8 × (NoteN × Nat × Dig))} {am : List (Nat × List UInt8)} (h : MapsOf ns nm am) (hl : Logged ns) (f : List UInt8 → Dig) (hf : ∀ p ∈ am, ∀ x, lookA p.2 nm = some x → f p.2 = x.2.2) :
  (∀ k, leafAt (am.map fun p => (p.1, f p.2)) k = lgF ns k) := by
 intro k
 have hnd : ((am.map fun p => (p.1, f p.2)).map (·.1)).Nodup := by
  rw [List.map_map]
  exact h.ndA
 cases hk : lookA k am with
 | none =>
  have h1 := lookA_none.1 hk
  rw [leafAt_none (fun e he heq => by
   obtain ⟨p, hp, rfl⟩ := List.mem_map.1 he
   exact h1 (List.mem_map.2 ⟨p, hp, heq⟩))]
  rw [lgF_none (fun n hn hi => by
   have := (h.lookA_ k n.name).2 ⟨n, hn, rfl, hi⟩
   rw [hk] at this
   cases this)]
 | some s =>
  have hm := lookA_some hk
  obtain ⟨n, hn, hns, hi⟩ := (h.lookA_ k s).1 hk
  have h1 := leafAt_some hnd (e := (k, f s)) (List.mem_map.2 ⟨(k, s), hm, rfl⟩)
  rw [h1]
  cases ha : atName ns s with
  | none =>
   exfalso
   unfold atName at ha
   cases hli : lastI ns s with
   | none => exact (lastI_none.1 hli) n hn hns
   | some j =>
    obtain ⟨m, hm1, _⟩ := lastI_some hli
    rw [hli] at ha
    simp [hm1] at ha
  | some x =>
   obtain ⟨_, _, h3, h4⟩ := atName_some ha
   have h5 := hf (k, s) hm x (by rw [h.look]; exact ha)
   have h6 := hl.lgF_at h4
   rw [hi] at h6
   rw [h6, h5, h3]
theorem MapsOf.total {ns : List NoteN} {nm : List (List UInt8 × (NoteN × Nat × Dig))} {am : List (Nat × List UInt8)} (h : MapsOf ns nm am) {k : Nat} {s : List UInt8} (hm : (k, s) ∈ am) : ∃ x, lookA s nm = some x := by
 have hk := lookA_mem h.ndA hm
 obtain ⟨n, hn, hns, hi⟩ := (h.lookA_ k s).1 hk
 rw [h.look]
 cases ha : atName ns s with
 | some x => exact ⟨x, rfl⟩
 | none =>
  exfalso
  unfold atName at ha
  cases hli : lastI ns s with
  | none => exact (lastI_none.1 hli) n hn hns
  | some j =>
   obtain ⟨m, hm1, _⟩ := lastI_some hli
   rw [hli] at ha
   simp [hm1] at ha
theorem Logged.names {ns : List NoteN} (h : Logged ns) : namesC ns ≤ 64 := by
 induction h with
 | nil => decide
 | @add ns s k h0 he ih =>
  rw [namesC_snoc]
  show (if (lastI ns s).isSome = true then namesC ns else namesC ns + 1) ≤ 64
  cases hl : lastI ns s with
  | none => have := (addE_zero he).2.2.1 hl; simp; omega
  | some j => simpa using ih
theorem nodup_le : ∀ (n : Nat) (l : List Nat), l.Nodup → (∀ i ∈ l, i < n) → l.length ≤ n
 | 0, l, _, h => by
  cases l with
  | nil => simp
  | cons a l => exact absurd (h a (by simp)) (by omega)
 | n + 1, l, hd, h => by
  have h1 := nodup_le n (l.filter fun i => decide (i ≠ n)) (hd.sublist (List.filter_sublist ..)) (fun i hi => by
   obtain ⟨h2, h3⟩ := List.mem_filter.1 hi
   have := h i h2
   have := of_decide_eq_true h3
   omega)
  have h2 := List.length_eq_countP_add_countP (fun i => decide (i ≠ n)) (l := l)
  rw [List.countP_eq_length_filter] at h2
  have h3 : l.countP (fun a => decide ¬ decide (a ≠ n) = true) ≤ 1 := by
   have e : (fun a : Nat => decide ¬ decide (a ≠ n) = true) = fun a => a == n := by
    funext a
    by_cases ha : a = n <;> simp [ha]
   rw [e]
   exact List.nodup_iff_count.1 hd n
  omega
theorem range_perm {n : Nat} {l : List Nat} (hd : l.Nodup) (h : ∀ i ∈ l, i < n) (ha : ∀ i, i < n → i ∈ l) : l.Perm (List.range n) := by
 rw [List.perm_iff_count]
 intro a
 rw [hd.count, List.nodup_range.count]
 by_cases hm : a < n
 ·rw [if_pos (ha a hm), if_pos (List.mem_range.2 hm)]
 ·rw [if_neg (fun h1 => hm (h a h1)), if_neg (fun h1 => hm (List.mem_range.1 h1))]
end Go.Proofs.YtaebeemnipafbaaGreatDoor

set_option maxRecDepth 20000
set_option linter.unusedSimpArgs false
set_option linter.unusedVariables false
namespace Go.Proofs.YtaebeemnipafbaaGreatDoor
open Go.RowKit
def prArr (n : Int) (d : Dig) : Array Value := (.int .i64 n :: d.arr.toList).toArray
theorem prArr_size (n : Int) (d : Dig) : (prArr n d).size = 33 := by simp [prArr, Dig.size]
theorem prArr_list (n : Int) (d : Dig) : (prArr n d).toList = .int .i64 n :: d.arr.toList := rfl
theorem prArr_0 {n : Int} {d : Dig} : (prArr n d)[0]? = some (.int .i64 n) := rfl
theorem prArr_one (n : Int) (d : Dig) : ∀ u ∈ (prArr n d).toList, u.oneCell' = true := by
 intro u hu
 rw [prArr_list] at hu
 rcases List.mem_cons.1 hu with rfl | hu
 ·rfl
 ·rw [Dig.toList] at hu
  exact oneCell_bytes u hu
theorem prArr_all (n : Int) (d : Dig) : (prArr n d).all (·.oneCell') = true := Array.all_eq_true_iff_forall_mem.2 fun u hu => prArr_one n d u (Array.mem_toList_iff.2 hu)
theorem prArr_range {W : World} {g t : Nat} {n : Int} {d : Dig} {fr : Nat × Nat} (h : W.heap[g]? = some (.cells (prArr n d) t fr)) : W.rangeAt g 1 d.arr.toList :=
 rangeAt_of_cells h (fun j v hv => by
  have : (prArr n d)[1 + j]? = (prArr n d).toList[1 + j]? := (Array.getElem?_toList ..).symm
  rw [this, prArr_list, Nat.add_comm, List.getElem?_cons_succ]
  exact hv)
theorem pairsL_app (a b : List (Int × Dig)) : pairsL (a ++ b) = pairsL a ++ pairsL b := by simp [pairsL]
theorem pairsL_one (n : Int) (d : Dig) : pairsL [(n, d)] = (prArr n d).toList := by simp [pairsL, prArr_list]
theorem pairs_at (ss : List (Int × Dig)) (i : Nat) (h : i < ss.length) : ((pairsL ss).drop ((i : Int).toNat * 33)).take 33 = (prArr ss[i].1 ss[i].2).toList := by
 have e : ss = ss.take i ++ ([(ss[i].1, ss[i].2)] ++ ss.drop (i + 1)) := by
  rw [List.singleton_append, ← List.drop_eq_getElem_cons h, List.take_append_drop]
 conv => lhs; rw [e]
 have hl : (pairsL (ss.take i)).length = (i : Int).toNat * 33 := by rw [length_pairsL, List.length_take, Nat.min_eq_left (by omega)]; rfl
 rw [pairsL_app, List.drop_left' hl, pairsL_app, pairsL_one, List.take_left' (by rw [Array.length_toList, prArr_size])]
section
variable {P : Program} {ops : Array Oper} {rest : List Oper} {o : Oper} {a : Act} {W : World} {Q : Exit → Act → World → Prop} {d : Option Tmp}
end
end Go.Proofs.YtaebeemnipafbaaGreatDoor

set_option maxRecDepth 20000
set_option linter.unusedSimpArgs false
set_option linter.unusedVariables false
namespace Go.Proofs.YtaebeemnipafbaaGreatDoor
open Go.RowKit
theorem range_part {W : World} {g t : Nat} {cs : Array Value} {fr : Nat × Nat} (h : W.heap[g]? = some (.cells cs t fr)) (pre l post : List Value) (hl : cs.toList = pre ++ (l ++ post)) {off : Nat} (ho : pre.length = off) : W.rangeAt g off l :=
 range_of_list h (fun j v hv => by
  have hj := (List.getElem?_eq_some_iff.1 hv).1
  rw [hl, ← ho, List.getElem?_append_right (by omega), show pre.length + j - pre.length = j by omega, List.getElem?_append_left hj]
  exact hv)
theorem cell_part {cs : Array Value} (pre : List Value) (v : Value) (post : List Value) (hl : cs.toList = pre ++ (v :: post)) {off : Nat} (ho : pre.length = off) : cs[off]? = some v := by
 rw [← Array.getElem?_toList, hl, ← ho, List.getElem?_append_right (Nat.le_refl _), Nat.sub_self]
 rfl
theorem set_part {cs ds : Array Value} (pre : List Value) (v u : Value) (post : List Value) (hl : cs.toList = pre ++ (v :: post)) (hd : ds.toList = pre ++ (u :: post)) {off : Nat} (ho : pre.length = off) : cs.setIfInBounds off u = ds := by
 apply Array.ext'
 rw [Array.toList_setIfInBounds, hl, hd, ← ho, List.set_append_right _ _ (Nat.le_refl _), Nat.sub_self]
 rfl
theorem put_part {cs ds : Array Value} (pre l m post : List Value) (hl : cs.toList = pre ++ (l ++ post)) (hd : ds.toList = pre ++ (m ++ post)) (hm : m.length = l.length) {off : Nat} (ho : pre.length = off) : putAt cs off m = ds := by
 apply Array.ext'
 unfold putAt
 rw [List.toList_toArray, hl, hd, ← ho, List.take_left, hm, ← List.drop_drop, List.drop_left, List.drop_left, List.append_assoc]
theorem dig_len (d : Dig) : d.arr.toList.length = 32 := by simp [Dig.size]
theorem dig_cells (d : Dig) : ∀ u ∈ d.arr.toList, u.oneCell' = true := by
 rw [Dig.toList]
 exact oneCell_bytes
def ntArr (s : List UInt8) (k : Dig) (n : Int) : Array Value := (.string (bsOf s) :: (k.arr.toList ++ [.int .i64 n])).toArray
theorem ntArr_list (s : List UInt8) (k : Dig) (n : Int) : (ntArr s k n).toList = .string (bsOf s) :: (k.arr.toList ++ [.int .i64 n]) := rfl
theorem ntArr_size (s : List UInt8) (k : Dig) (n : Int) : (ntArr s k n).size = 34 := by simp [ntArr, Dig.size]
theorem ntArr_len (s : List UInt8) (k : Dig) (n : Int) : (ntArr s k n).toList.length = 34 := by rw [Array.length_toList, ntArr_size]
theorem ntArr_0 {s : List UInt8} {k : Dig} {n : Int} : (ntArr s k n)[0]? = some (.string (bsOf s)) := rfl
theorem ntArr_33 {s : List UInt8} {k : Dig} {n : Int} : (ntArr s k n)[33]? = some (.int .i64 n) :=
 cell_part (.string (bsOf s) :: k.arr.toList) _ [] (by rw [ntArr_list]; rfl) (by simp [Dig.size])
theorem ntArr_key {W : World} {g t : Nat} {s : List UInt8} {k : Dig} {n : Int} {fr : Nat × Nat} (h : W.heap[g]? = some (.cells (ntArr s k n) t fr)) : W.rangeAt g 1 k.arr.toList :=
 range_part h [.string (bsOf s)] _ [.int .i64 n] rfl rfl
theorem ntArr_one (s : List UInt8) (k : Dig) (n : Int) : ∀ u ∈ (ntArr s k n).toList, u.oneCell' = true := by
 intro u hu
 rw [ntArr_list] at hu
 simp only [List.mem_cons, List.mem_append, List.not_mem_nil, or_false] at hu
 rcases hu with rfl | hu | rfl
 ·rfl
 ·exact dig_cells k u hu
 ·rfl
theorem ntArr_all (s : List UInt8) (k : Dig) (n : Int) : (ntArr s k n).all (·.oneCell') = true := Array.all_eq_true_iff_forall_mem.2 fun u hu => ntArr_one s k n u (Array.mem_toList_iff.2 hu)
theorem ntArr_turn (s : List UInt8) (k : Dig) (n m : Int) : (ntArr s k n).setIfInBounds 33 (.int .i64 m) = ntArr s k m :=
 set_part (.string (bsOf s) :: k.arr.toList) (.int .i64 n) (.int .i64 m) [] (by rw [ntArr_list]; rfl) (by rw [ntArr_list]; rfl) (by simp [Dig.size])
theorem ntArr_putKey (s : List UInt8) (k d : Dig) (n : Int) : putAt (ntArr s k n) 1 d.arr.toList = ntArr s d n :=
 put_part [.string (bsOf s)] k.arr.toList d.arr.toList [.int .i64 n] rfl rfl (by rw [dig_len, dig_len]) rfl
theorem ntArr_name (s u : List UInt8) (k : Dig) (n : Int) : putAt (ntArr u k n) 0 [.string (bsOf s)] = ntArr s k n :=
 put_part (cs := ntArr u k n) (ds := ntArr s k n) [] [.string (bsOf u)] [.string (bsOf s)] (k.arr.toList ++ [Value.int .i64 n]) rfl rfl rfl rfl
def NoteN.arr (n : NoteN) : Array Value := ntArr n.name n.key n.turn
def NoteN.v (n : NoteN) : Value := .agg n.arr
def fdArr (s : List UInt8) (k : Dig) (n i : Int) (A : Option Addr) (m c : Nat) (B : Option Addr) (p q : Nat) : Array Value := ((ntArr s k n).toList ++ ([.int .i64 i, .slice A m c, .slice B p q] : List Value)).toArray
section
variable {s : List UInt8} {k : Dig} {n i : Int} {A : Option Addr} {m c : Nat} {B : Option Addr} {p q : Nat}
theorem fdArr_list : (fdArr s k n i A m c B p q).toList = (ntArr s k n).toList ++ [.int .i64 i, .slice A m c, .slice B p q] := rfl
theorem fdArr_size' : (fdArr s k n i A m c B p q).size = 37 := by simp [fdArr, ntArr_size]
theorem fdArr_0 : (fdArr s k n i A m c B p q)[0]? = some (.string (bsOf s)) := rfl
theorem fdArr_34 : (fdArr s k n i A m c B p q)[34]? = some (.int .i64 i) := cell_part (ntArr s k n).toList _ [.slice A m c, .slice B p q] fdArr_list (ntArr_len _ _ _)
theorem fdArr_35 : (fdArr s k n i A m c B p q)[35]? = some (.slice A m c) := cell_part ((ntArr s k n).toList ++ [.int .i64 i]) _ [.slice B p q] (by rw [fdArr_list]; simp) (by rw [List.length_append, ntArr_len]; rfl)
theorem fdArr_36 : (fdArr s k n i A m c B p q)[36]? = some (.slice B p q) := cell_part ((ntArr s k n).toList ++ [.int .i64 i, .slice A m c]) _ [] (by rw [fdArr_list]; simp) (by rw [List.length_append, ntArr_len]; rfl)
theorem fdArr_note {W : World} {g t : Nat} {fr : Nat × Nat} (h : W.heap[g]? = some (.cells (fdArr s k n i A m c B p q) t fr)) : W.rangeAt g 0 (ntArr s k n).toList := range_part h [] _ [.int .i64 i, .slice A m c, .slice B p q] rfl rfl
theorem fdArr_all' : (fdArr s k n i A m c B p q).all (·.oneCell') = true := Array.all_eq_true_iff_forall_mem.2 fun u hu => by
 rw [← Array.mem_toList_iff, fdArr_list] at hu
 simp only [List.mem_append, List.mem_cons, List.not_mem_nil, or_false] at hu
 rcases hu with hu | rfl | rfl | rfl
 ·exact ntArr_one _ _ _ u hu
 all_goals rfl
theorem fdArr_putNote (s' : List UInt8) (k' : Dig) (n' : Int) : putAt (fdArr s k n i A m c B p q) 0 (ntArr s' k' n').toList = fdArr s' k' n' i A m c B p q := put_part (cs := fdArr s k n i A m c B p q) (ds := fdArr s' k' n' i A m c B p q) [] (ntArr s k n).toList (ntArr s' k' n').toList [.int .i64 i, .slice A m c, .slice B p q] rfl rfl (by rw [ntArr_len, ntArr_len]) rfl
theorem fdArr_put34 (i' : Int) : (fdArr s k n i A m c B p q).setIfInBounds 34 (.int .i64 i') = fdArr s k n i' A m c B p q := set_part (ntArr s k n).toList _ _ [.slice A m c, .slice B p q] fdArr_list fdArr_list (ntArr_len _ _ _)
theorem fdArr_put35 (A' : Option Addr) (m' c' : Nat) : (fdArr s k n i A m c B p q).setIfInBounds 35 (.slice A' m' c') = fdArr s k n i A' m' c' B p q := set_part ((ntArr s k n).toList ++ [.int .i64 i]) (.slice A m c) (.slice A' m' c') [.slice B p q] (by rw [fdArr_list]; simp) (by rw [fdArr_list]; simp) (by rw [List.length_append, ntArr_len]; rfl)
theorem fdArr_put36 (A' : Option Addr) (m' c' : Nat) : (fdArr s k n i A m c B p q).setIfInBounds 36 (.slice A' m' c') = fdArr s k n i A m c A' m' c' := set_part ((ntArr s k n).toList ++ [.int .i64 i, .slice A m c]) (.slice B p q) (.slice A' m' c') [] (by rw [fdArr_list]; simp) (by rw [fdArr_list]; simp) (by rw [List.length_append, ntArr_len]; rfl)
end
theorem fdArr_size (s : List UInt8) (k : Dig) (n i : Int) (A : Option Addr) (m c : Nat) (B : Option Addr) (p q : Nat) : (fdArr s k n i A m c B p q).size = 37 := fdArr_size'
theorem fdArr_all (s : List UInt8) (k : Dig) (n i : Int) (A : Option Addr) (m c : Nat) (B : Option Addr) (p q : Nat) : (fdArr s k n i A m c B p q).all (·.oneCell') = true := fdArr_all'
def lsArr (s : List UInt8) (k : Dig) (n i : Int) (d : Dig) : Array Value := ((ntArr s k n).toList ++ (.int .i64 i :: d.arr.toList)).toArray
section
variable {s : List UInt8} {k : Dig} {n i : Int} {d : Dig}
theorem lsArr_list : (lsArr s k n i d).toList = (ntArr s k n).toList ++ (.int .i64 i :: d.arr.toList) := rfl
theorem lsArr_33 : (lsArr s k n i d)[33]? = some (.int .i64 n) := cell_part (.string (bsOf s) :: k.arr.toList) _ (.int .i64 i :: d.arr.toList) (by rw [lsArr_list, ntArr_list]; simp) (by simp [Dig.size])
theorem lsArr_34 : (lsArr s k n i d)[34]? = some (.int .i64 i) := cell_part (ntArr s k n).toList _ d.arr.toList lsArr_list (ntArr_len _ _ _)
theorem lsArr_note {W : World} {g t : Nat} {fr : Nat × Nat} (h : W.heap[g]? = some (.cells (lsArr s k n i d) t fr)) : W.rangeAt g 0 (ntArr s k n).toList := range_part h [] _ (.int .i64 i :: d.arr.toList) rfl rfl
theorem lsArr_leaf : ((lsArr s k n i d).toList.drop 35).take 32 = d.arr.toList := by
 have e : (lsArr s k n i d).toList = ((ntArr s k n).toList ++ [.int .i64 i]) ++ d.arr.toList := by rw [lsArr_list]; simp
 rw [e, List.drop_left' (by rw [List.length_append, ntArr_len]; rfl), List.take_of_length_le (by rw [dig_len]; exact Nat.le_refl _)]
end
theorem lsArr_size (s : List UInt8) (k : Dig) (n i : Int) (d : Dig) : (lsArr s k n i d).size = 67 := by simp [lsArr, ntArr_size, Dig.size]
theorem lsArr_all (s : List UInt8) (k : Dig) (n i : Int) (d : Dig) : (lsArr s k n i d).all (·.oneCell') = true := Array.all_eq_true_iff_forall_mem.2 fun u hu => by
 rw [← Array.mem_toList_iff, lsArr_list] at hu
 simp only [List.mem_append, List.mem_cons] at hu
 rcases hu with hu | rfl | hu
 ·exact ntArr_one _ _ _ u hu
 ·rfl
 ·exact dig_cells d u hu
def lgArr (A : Option Addr) (m c : Nat) (B : Option Addr) (p q : Nat) (x y : Nat) : Array Value := #[.slice A m c, .slice B p q, .map (some x), .map (some y)]
section
variable {A : Option Addr} {m c : Nat} {B : Option Addr} {p q x y : Nat}
theorem lgArr_0 : (lgArr A m c B p q x y)[0]? = some (.slice A m c) := rfl
theorem lgArr_1 : (lgArr A m c B p q x y)[1]? = some (.slice B p q) := rfl
theorem lgArr_2 : (lgArr A m c B p q x y)[2]? = some (.map (some x)) := rfl
theorem lgArr_3 : (lgArr A m c B p q x y)[3]? = some (.map (some y)) := rfl
theorem lgArr_s1 (B' : Option Addr) (p' q' : Nat) : (lgArr A m c B p q x y).setIfInBounds 1 (.slice B' p' q') = lgArr A m c B' p' q' x y := rfl
end
theorem el_api_Note : ElemIs Tryz.prog 34 (.agg (ntArr [] zeroD 0)) 34 56 := by unfold ElemIs; kernel_rfl
theorem el_api_Found : ElemIs Tryz.prog 46 (.agg (fdArr [] zeroD 0 0 none 0 0 none 0 0)) 37 112 := by unfold ElemIs; kernel_rfl
theorem el_log_last : ElemIs Tryz.prog 85 (.agg (lsArr [] zeroD 0 0 zeroD)) 67 96 := by unfold ElemIs; kernel_rfl
theorem el_log_Log : ElemIs Tryz.prog 80 (.agg #[.slice none 0 0, .slice none 0 0, .map none, .map none]) 4 64 := by unfold ElemIs; kernel_rfl
theorem el_api_Entry : ElemIs Tryz.prog 110 (.agg (prArr 0 zeroD)) 33 40 := by unfold ElemIs; kernel_rfl
section
variable {ops : Array Oper} {rest : List Oper} {o : Oper} {a : Act} {W : World} {Q : Exit → Act → World → Prop} {d : Option Tmp}
theorem L_buildE (hd : o.dst = d) (hw : Region.wanted o (yielded ops a.tmps) = true) {x y : Operand} (ho : o.op = .build 110 #[(0, x), (1, y)]) {n : Int} {q : Dig} (hx : a.eval x = .int .i64 n) (hy : a.eval y = .agg q.arr)
  (h : wpList Tryz.prog ops Q rest (a.put d (.agg (prArr n q))) W) : wpList Tryz.prog ops Q (o :: rest) a W :=
 L_buildT hd hw ho Tryz.underlying110 el_api_Entry [(0, 1), (1, 32)] (by kernel_rfl) (ps := [(0, .int .i64 n), (1, .agg q.arr)]) (by simp [hx, hy]) (qs := [(0, [.int .i64 n]), (1, q.arr.toList)])
  ⟨rfl, rfl, by simp [prArr_size], by rw [dig_len]; rfl, rfl, by rw [prArr_size, dig_len]; decide, trivial⟩
  (by
   unfold putAll putAll putAll
   rw [show putAt (prArr 0 zeroD) 0 [.int .i64 n] = prArr n zeroD from put_part [] [.int .i64 0] [.int .i64 n] zeroD.arr.toList rfl rfl rfl rfl]
   exact put_part [.int .i64 n] zeroD.arr.toList q.arr.toList [] (by rw [prArr_list]; simp) (by rw [prArr_list]; simp) (by rw [dig_len, dig_len]) rfl) h
theorem L_buildN (hd : o.dst = d) (hw : Region.wanted o (yielded ops a.tmps) = true) {x y : Operand} (ho : o.op = .build 34 #[(0, x), (1, y)]) {s : List UInt8} {q : Dig} (hx : a.eval x = .string (bsOf s)) (hy : a.eval y = .agg q.arr)
  (h : wpList Tryz.prog ops Q rest (a.put d (.agg (ntArr s q 0))) W) : wpList Tryz.prog ops Q (o :: rest) a W :=
 L_buildT hd hw ho Tryz.underlying34 el_api_Note [(0, 1), (1, 32), (33, 1)] (by kernel_rfl) (ps := [(0, .string (bsOf s)), (1, .agg q.arr)]) (by simp [hx, hy]) (qs := [(0, [.string (bsOf s)]), (1, q.arr.toList)])
  ⟨rfl, rfl, by simp [ntArr_size], by rw [dig_len]; rfl, rfl, by rw [ntArr_size, dig_len]; decide, trivial⟩
  (by unfold putAll putAll putAll; rw [ntArr_name, ntArr_putKey]) h
theorem L_buildNz (hd : o.dst = d) (hw : Region.wanted o (yielded ops a.tmps) = true) (ho : o.op = .build 34 #[])
  (h : wpList Tryz.prog ops Q rest (a.put d (.agg (ntArr [] zeroD 0))) W) : wpList Tryz.prog ops Q (o :: rest) a W :=
 L_buildT hd hw ho Tryz.underlying34 el_api_Note [(0, 1), (1, 32), (33, 1)] (by kernel_rfl) (ps := []) rfl (qs := []) trivial rfl h
theorem L_buildFz (hd : o.dst = d) (hw : Region.wanted o (yielded ops a.tmps) = true) (ho : o.op = .build 46 #[])
  (h : wpList Tryz.prog ops Q rest (a.put d (.agg (fdArr [] zeroD 0 0 none 0 0 none 0 0))) W) : wpList Tryz.prog ops Q (o :: rest) a W :=
 L_buildT hd hw ho Tryz.underlying46 el_api_Found [(0, 34), (34, 1), (35, 1), (36, 1)] (by kernel_rfl) (ps := []) rfl (qs := []) trivial rfl h
theorem L_buildL (hd : o.dst = d) (hw : Region.wanted o (yielded ops a.tmps) = true) {x y z : Operand} (ho : o.op = .build 85 #[(0, x), (1, y), (2, z)]) {s : List UInt8} {k : Dig} {n i : Int} {q : Dig} (hx : a.eval x = .agg (ntArr s k n)) (hy : a.eval y = .int .i64 i) (hz : a.eval z = .agg q.arr)
  (h : wpList Tryz.prog ops Q rest (a.put d (.agg (lsArr s k n i q))) W) : wpList Tryz.prog ops Q (o :: rest) a W :=
 L_buildT hd hw ho Tryz.underlying85 el_log_last [(0, 34), (34, 1), (35, 32)] (by kernel_rfl) (ps := [(0, .agg (ntArr s k n)), (1, .int .i64 i), (2, .agg q.arr)]) (by simp [hx, hy, hz]) (qs := [(0, (ntArr s k n).toList), (34, [.int .i64 i]), (35, q.arr.toList)])
  ⟨by rw [ntArr_len]; rfl, rfl, by rw [lsArr_size, ntArr_len]; decide, rfl, rfl, by simp [lsArr_size], by rw [dig_len]; rfl, rfl, by rw [lsArr_size, dig_len]; decide, trivial⟩
  (by
   unfold putAll putAll putAll putAll
   rw [show putAt (lsArr [] zeroD 0 0 zeroD) 0 (ntArr s k n).toList = lsArr s k n 0 zeroD from put_part (cs := lsArr [] zeroD 0 0 zeroD) (ds := lsArr s k n 0 zeroD) [] (ntArr [] zeroD 0).toList (ntArr s k n).toList (.int .i64 0 :: zeroD.arr.toList) rfl rfl (by rw [ntArr_len, ntArr_len]) rfl]
   rw [show putAt (lsArr s k n 0 zeroD) 34 [.int .i64 i] = lsArr s k n i zeroD from put_part (ntArr s k n).toList [.int .i64 0] [.int .i64 i] zeroD.arr.toList rfl rfl rfl (ntArr_len _ _ _)]
   exact put_part ((ntArr s k n).toList ++ [.int .i64 i]) zeroD.arr.toList q.arr.toList [] (by rw [lsArr_list]; simp) (by rw [lsArr_list]; simp) (by rw [dig_len, dig_len]) (by rw [List.length_append, ntArr_len]; rfl)) h
end
theorem ntArr_part (s : List UInt8) (k : Dig) (n : Int) : ((ntArr s k n).toList.drop 1).take 32 = k.arr.toList := by
 rw [ntArr_list, List.drop_succ_cons, List.drop_zero, List.take_left' (dig_len k)]
end Go.Proofs.YtaebeemnipafbaaGreatDoor

set_option maxRecDepth 20000
set_option linter.unusedSimpArgs false
set_option linter.unusedVariables false
namespace Go.Proofs.YtaebeemnipafbaaGreatDoor
open Go.RowKit
abbrev KD := Fin 4294967296 × Dig
instance : Inhabited KD := ⟨(⟨0, by decide⟩, zeroD)⟩
def kdN (x : KD) : Nat × Dig := (x.1.val, x.2)
def encE (x : KD) : List Value := (prArr ((x.1.val : Nat) : Int) x.2).toList
theorem length_encE (x : KD) : (encE x).length = 33 := by rw [encE, Array.length_toList, prArr_size]
def entI (es : List (Nat × Dig)) : List (Int × Dig) := es.map fun e => (((e.1 : Nat) : Int), e.2)
def entL (es : List (Nat × Dig)) : List Value := pairsL (entI es)
theorem length_entL (es : List (Nat × Dig)) : (entL es).length = es.length * 33 := by rw [entL, length_pairsL, entI, List.length_map]
theorem kd_of : ∀ {es : List (Nat × Dig)}, (∀ e ∈ es, e.1 < 4294967296) → ∃ ks : List KD, es = ks.map kdN
 | [], _ => ⟨[], rfl⟩
 | e :: es, h => by
  obtain ⟨ks, hk⟩ := kd_of (es := es) (fun x hx => h x (List.mem_cons_of_mem _ hx))
  have h1 := h e (by simp)
  subst hk
  exact ⟨(⟨e.1, h1⟩, e.2) :: ks, rfl⟩
theorem entL_app (a b : List (Nat × Dig)) : entL (a ++ b) = entL a ++ entL b := by simp [entL, entI, pairsL_app]
theorem entL_at (es : List (Nat × Dig)) (i : Nat) (h : i < es.length) : ((entL es).drop (i * 33)).take 33 = (prArr ((es[i].1 : Nat) : Int) es[i].2).toList := by
 have := pairs_at (entI es) i (by simpa [entI] using h)
 unfold entL
 simpa [entI] using this
theorem entL_drop (es : List (Nat × Dig)) (i : Nat) (h : i ≤ es.length) : (entL es).drop (i * 33) = entL (es.drop i) := by
 have e : entL es = entL (es.take i) ++ entL (es.drop i) := by rw [← entL_app, List.take_append_drop]
 rw [e, List.drop_left' (by rw [length_entL, List.length_take, Nat.min_eq_left h])]
theorem entL_take (es : List (Nat × Dig)) (i : Nat) (h : i ≤ es.length) : (entL es).take (i * 33) = entL (es.take i) := by
 have e : entL es = entL (es.take i) ++ entL (es.drop i) := by rw [← entL_app, List.take_append_drop]
 rw [e, List.take_left' (by rw [length_entL, List.length_take, Nat.min_eq_left h])]
theorem kd_at {ks : List KD} {j : Nat} (h : j < ks.length) : ((entL (ks.map kdN)).drop (j * 33)).take 33 = encE (ks[j]!) := by
 rw [entL_at _ j (by simpa using h)]
 simp [encE, kdN, getElem!_def, List.getElem?_eq_getElem h]
theorem ent_cells {W : World} {b off n c : Nat} {ks : List KD} (h : SlR W (some ⟨b, off, none⟩) n c 33 (entL (ks.map kdN))) {j : Nat} (hj : j < ks.length) {i : Nat} {v : Value} (hv : (encE (ks[j]!))[i]? = some v) : W.cell? ⟨b, off + j * 33 + i, none⟩ = some v := by
 have hn : n = ks.length := by have := h.1; rw [length_entL, List.length_map] at this; omega
 obtain ⟨b', off', hA, hr⟩ := h.at (i := j) (by omega)
 simp only [Option.some.injEq, Addr.mk.injEq, and_true] at hA
 obtain ⟨rfl, rfl⟩ := hA
 rw [kd_at hj] at hr
 exact hr i v hv
theorem idxBy_find (p : KD → Bool) : ∀ (ks : List KD) (i : Nat), Lib.idxByFrom (fun (_ : KD) y => p y) default ks i = if (ks.findIdx p) < ks.length then ((i + ks.findIdx p : Nat) : Int) else -1
 | [], i => rfl
 | k :: ks, i => by
  rw [Lib.idxByFrom, List.findIdx_cons]
  by_cases h : p k = true
  ·simp [h]
  ·simp only [h, Bool.false_eq_true, if_false, cond_false]
   rw [idxBy_find p ks (i + 1)]
   by_cases h2 : List.findIdx p ks < ks.length
   ·rw [if_pos h2, if_pos (by simpa using h2)]
    congr 1
    omega
   ·rw [if_neg h2, if_neg (by simpa using h2)]
def bitK (b k : Nat) : Bool := decide (k / 2 ^ b % 2 = 1)
theorem findIdx_kd (q : Nat → Bool) (ks : List KD) : (ks.map kdN).findIdx (fun e => q e.1) = ks.findIdx (fun x => q x.1.val) := by
 induction ks with
 | nil => rfl
 | cons k ks ih => rw [List.map_cons, List.findIdx_cons, List.findIdx_cons, ih]; rfl
theorem sorted_kd {ks ds : List KD} (hp : ds.Perm ks) (hs : ds.Pairwise fun a b => ¬ b.1.val < a.1.val) (hd : ((ks.map kdN).map (·.1)).Nodup) : (ds.map kdN).Pairwise (fun a b => a.1 < b.1) ∧ (ds.map kdN).Perm (ks.map kdN) := by
 refine ⟨?_, hp.map _⟩
 have hd' : ((ds.map kdN).map (·.1)).Nodup := (((hp.map kdN).map (·.1)).nodup_iff).2 hd
 rw [List.map_map] at hd'
 rw [List.pairwise_map]
 have hne : ds.Pairwise (fun a b => (kdN a).1 ≠ (kdN b).1) := List.pairwise_map.1 hd'
 exact (hs.and hne).imp (fun {a b} ⟨h1, h2⟩ => by simp only [kdN] at h2 ⊢; omega)
theorem list_sorted {lt : KD → KD → Bool} {d : Array KD} (h : Sort.SortedIn lt 0 d.size d) : d.toList.Pairwise (fun a b => lt b a = false) := by
 rw [List.pairwise_iff_getElem]
 intro i j hi hj hij
 have := h i j (Nat.zero_le _) hij (by simpa using hj)
 rw [getElem!_pos d j (by simpa using hj), getElem!_pos d i (by simpa using hi)] at this
 simpa using this
theorem list_perm {d d' : Array KD} (h : Sort.PermIn 0 d.size d d') : d'.size = d.size ∧ d'.toList.Perm d.toList := by
 obtain ⟨h1, _, h2⟩ := h
 refine ⟨h1, ?_⟩
 rw [← h1] at h2
 simp only [Array.extract_size] at h2
 rw [h1] at h2
 simpa using h2
theorem bit_mid {b q k : Nat} (h1 : q * 2 ^ (b + 1) ≤ k) (h2 : k < q * 2 ^ (b + 1) + 2 ^ (b + 1)) : bitK b k = decide (q * 2 ^ (b + 1) + 2 ^ b ≤ k) := by
 unfold bitK
 have hp := Nat.two_pow_pos b
 have e : 2 ^ (b + 1) = 2 ^ b * 2 := Nat.pow_succ _ _
 have e2 : q * 2 ^ (b + 1) = 2 * q * 2 ^ b := by rw [e]; rw [Nat.mul_comm (2 ^ b) 2, ← Nat.mul_assoc, Nat.mul_comm q 2]
 congr 1
 apply propext
 have hk := Nat.div_add_mod k (2 ^ b)
 have hm := Nat.mod_lt k hp
 have hlo : 2 * q ≤ k / 2 ^ b := (Nat.le_div_iff_mul_le hp).2 (by omega)
 have hhi : k / 2 ^ b < 2 * q + 2 := (Nat.div_lt_iff_lt_mul hp).2 (by rw [Nat.add_mul]; omega)
 constructor
 ·intro h
  have : k / 2 ^ b = 2 * q + 1 := by omega
  have := (Nat.le_div_iff_mul_le (x := 2 * q + 1) hp).1 (by omega : 2 * q + 1 ≤ k / 2 ^ b)
  rw [Nat.add_mul] at this
  omega
 ·intro h
  have : 2 * q + 1 ≤ k / 2 ^ b := (Nat.le_div_iff_mul_le hp).2 (by rw [Nat.add_mul]; omega)
  omega
end Go.Proofs.YtaebeemnipafbaaGreatDoor

set_option maxRecDepth 20000
set_option linter.unusedSimpArgs false
set_option linter.unusedVariables false
namespace Go.Proofs.YtaebeemnipafbaaGreatDoor
open Go.RowKit
end Go.Proofs.YtaebeemnipafbaaGreatDoor

set_option maxRecDepth 20000
set_option linter.unusedSimpArgs false
set_option linter.unusedVariables false
namespace Go.Proofs.YtaebeemnipafbaaGreatDoor
open Go.RowKit
end Go.Proofs.YtaebeemnipafbaaGreatDoor

set_option maxRecDepth 20000
set_option linter.unusedSimpArgs false
set_option linter.unusedVariables false
namespace Go.Proofs.YtaebeemnipafbaaGreatDoor
open Go.RowKit
theorem bS (n : Int) (i : Nat) (h : i < 8) (m : Int) (hm : m = 2 ^ (8 * i)) : Value.int .u8 (n / m % 256) = byteV (byteS n i) := by
 subst hm
 have := byteS_val n i h
 unfold byteV
 rw [← this]
 rfl
theorem bS0 (n : Int) : Value.int .u8 (n % 256) = byteV (byteS n 0) := by
 have := bS n 0 (by decide) 1 (by decide)
 rwa [Int.ediv_one] at this
theorem sz4_cells (n : Int) : [Value.int .u8 (n / 16777216 % 256), .int .u8 (n / 65536 % 256), .int .u8 (n / 256 % 256), .int .u8 (n % 256)] = bytesL (sz4 n) := by
 rw [bS n 3 (by decide) _ (by decide), bS n 2 (by decide) _ (by decide), bS n 1 (by decide) _ (by decide), bS0]
 rfl
end Go.Proofs.YtaebeemnipafbaaGreatDoor
