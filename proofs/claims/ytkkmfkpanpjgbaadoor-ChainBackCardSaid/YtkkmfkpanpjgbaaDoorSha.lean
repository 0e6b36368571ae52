/-
  Proved here: the contracts of sha.Sum and sha.Of: the digest of bytes; of a first byte and of digests.
-/
import Derived.Test.YtkkmfkpanpjgbaaDoorSum
set_option maxRecDepth 20000
set_option linter.unusedSimpArgs false
set_option linter.unusedVariables false
namespace Go.Proofs.YtkkmfkpanpjgbaaDoor
open Go.RowKit

theorem new_hs (w : World) : Calls Tryd.prog 20 #[] w fun e w' => ∃ g, e = .returned (.pointer (some ⟨g, 0, none⟩)) ∧ St w w' (Hs g [] none 0 0) :=
  (new_any w).mono fun e w' ⟨g, he, h⟩ => ⟨g, he, (h.nilRow 5 1).pick [1, 0] (by decide)⟩

set_option maxHeartbeats 1000000 in
theorem ssum_any (b : List UInt8) (A : Option Addr) (n c : Nat) (w : World) (hT : Tb w) (hx : SlR w A n c 1 (bytesL b)) (hm : n ≤ 140737488355000) :
    Calls Tryd.prog 15 #[.slice A n c] w fun e w' => e = .returned (sha b).v ∧ St w w' [] := by
  have hst := St.refl w
  have HT := Lib.hid hT
  have hn := hx.1
  rw [length_bytesL, Nat.mul_one] at hn
  have hbl : b.length ≤ 140737488355000 := by omega
  clear hT hn
  go_enter Tryd.func15, Tryd.ntmps15
  go_wp2_with (first | (go_at_call 20; with_reducible refine (new_hs _).mono ?_; rintro e W3 ⟨g3, rfl, hnew⟩; replace hst := hst.trans hnew; clear hnew) | (go_at_call 21; with_reducible refine (write_any [] b g3 0 0 none A n c w _ _ HT.out hst (Src.old (by decide) hx _) (by simp; omega) (by omega)).mono ?_; rintro e W4 ⟨rfl, A4, n4, c4, hst'⟩; clear hst; have hst := hst'; clear hst') | (go_at_call 22; with_reducible refine (hsum_any ([] ++ b) g3 _ _ _ w _ _ HT.out hst (by simp; omega)).mono ?_; rintro e W5 ⟨rfl, hst'⟩; clear hst; have hst := hst'; clear hst'; simp only [Hs, List.nil_append, List.cons_append] at hst) | (refine L_allocA (d := some 2) rfl rfl rfl el_api_Digest ?_; (try clear hnew); intro g2 W2 hnew; replace hst := hst.trans hnew; simp only [List.cons_append, List.nil_append] at hst) | (refine wpl_at (.store 23 (.tmp 2) (.tmp 9)) rfl ?_; (refine L_storeA rfl rfl hst rfl (by rfl) (ev_tmp rfl) (by (exact Dig.one _)) el_api_Digest (by (rfl)) 2 rfl (by (rfl)) ?_; clear hst; intro WS2 hst; simp only [List.set_cons_zero, List.set_cons_succ] at hst)))
  exact bodyPost_ret (results_cell_row rfl _ _ g2 23 _ (0, 0) _ (by rfl) (hst.get 2 rfl) Tryd.underlying23 rfl (by rw [el_api_Digest.size, Dig.size])) rfl ⟨rfl, hst.forget⟩

/-- the cells of digests -/
def digsL (ds : List Dig) : List Value := ds.flatMap fun d => bytesL d.l
def allB (ds : List Dig) : List UInt8 := ds.flatMap fun d => d.l
theorem digsL_all (ds : List Dig) : digsL ds = bytesL (allB ds) := by
  unfold digsL allB bytesL
  rw [List.map_flatMap]
theorem length_allB (ds : List Dig) : (allB ds).length = ds.length * 32 := by
  induction ds with
  | nil => rfl
  | cons d ds ih => simp only [allB, List.flatMap_cons, List.length_append, d.h, List.length_cons] at ih ⊢; omega
theorem length_digsL (ds : List Dig) : (digsL ds).length = ds.length * 32 := by rw [digsL_all, length_bytesL, length_allB]
theorem allB_at (ds : List Dig) (i : Nat) (hi : i < ds.length) : ((allB ds).drop (i * 32)).take 32 = (ds[i]).l := by
  induction ds generalizing i with
  | nil => simp at hi
  | cons d ds ih =>
    have h : allB (d :: ds) = d.l ++ allB ds := by simp [allB]
    rw [h]
    cases i with
    | zero =>
      rw [Nat.zero_mul, List.drop_zero, List.take_append_of_le_length (by rw [d.h]; exact Nat.le_refl _), List.take_of_length_le (by rw [d.h]; exact Nat.le_refl _)]
      rfl
    | succ i =>
      have e : (i + 1) * 32 = d.l.length + i * 32 := by rw [d.h]; omega
      rw [e, ← List.drop_drop, List.drop_left]
      exact ih i (by simpa using hi)
theorem digsL_at (ds : List Dig) (i : Nat) (hi : i < ds.length) : ((digsL ds).drop (i * 32)).take 32 = bytesL (ds[i]).l := by
  rw [digsL_all, ← allB_at ds i hi]
  simp [bytesL, List.map_take, List.map_drop]
theorem digsL_one : ∀ {ds : List Dig}, ∀ v ∈ digsL ds, v.oneCell' = true := by
  intro ds v hv
  rw [digsL_all] at hv
  exact oneCell_bytes v hv
theorem allB_take (ds : List Dig) (i : Nat) (hi : i < ds.length) : allB (ds.take (i + 1)) = allB (ds.take i) ++ (ds[i]).l := by
  unfold allB
  rw [List.take_succ_eq_append_getElem hi, List.flatMap_append]
  simp
theorem Dig.toList (d : Dig) : d.arr.toList = bytesL d.l := by simp [Dig.arr, bytesV]

/-- the digest of a first byte and of digests -/
def ofN (tag : UInt8) (ds : List Dig) : Dig := sha (tag :: allB ds)

set_option maxHeartbeats 1000000 in
theorem of_any (tag : UInt8) (ds : List Dig) (A : Option Addr) (n c : Nat) (w : World) (hT : Tb w) (hx : SlR w A n c 32 (digsL ds)) (hm : n ≤ 1099511627776) :
    Calls Tryd.prog 13 #[byteV tag, .slice A n c] w fun e w' => e = .returned (ofN tag ds).v ∧ St w w' [] := by
  have hst := St.refl w
  have HT := Lib.hid hT
  have hn : ds.length = n := by
    have := hx.1
    rw [length_digsL] at this
    omega
  have Hn := Lib.hid hn
  clear hT hn
  unfold byteV
  go_enter Tryd.func13, Tryd.ntmps13
  go_wp2_with (first | (refine L_allocA (d := some 4) rfl rfl rfl el_api_Digest ?_; (try clear hnew); intro g4 W4 hnew; replace hst := hst.trans hnew; simp only [List.cons_append, List.nil_append] at hst) | (refine L_buildS (d := some 9) rfl rfl rfl [_] (bs_1 (ev_tmp rfl)) rfl Tryd.underlying48 el_uint8 rfl (by (simp [Value.cells]; done)) (by decide) (by decide) ?_; (try clear hnew); intro g9 W9 hnew; replace hst := hst.trans hnew; simp only [List.cons_append, List.nil_append] at hst; simp only [List.flatMap_cons, List.flatMap_nil, List.append_nil, Value.cells, List.toList_toArray] at hst))
  have hst : St w W9 [.row g9 (1 + 0 * 32) 1 5 1 (bytesL (tag :: allB (ds.take 0))), .blk g4 23 zeroD.arr] := hst
  go_loopg [5, 12] n (fun gk s5 s12 wr => ∃ (i : Nat) (A' : Option Addr) (c' : Nat), Hid (i + gk = n) ∧ s5 = .slice A' (1 + i * 32) c' ∧ s12 = .int .i64 (i : Int) ∧ St w wr [.row A' (1 + i * 32) c' 5 1 (bytesL (tag :: allB (ds.take i))), .blk g4 23 zeroD.arr])
  case atStart => exact ⟨0, g9, 1, Lib.hid (by omega), rfl, rfl, hst⟩
  case round =>
    clear hst hnew
    obtain ⟨i, A', c', HI, rfl, rfl, hst⟩ := hrel
    have hi := HI.out
    by_cases hin : i < n
    · clear hi
      have hds := Lib.hid (digsL_at ds i (by rw [Hn.out]; exact hin))
      have hta := Lib.hid (allB_take ds i (by rw [Hn.out]; exact hin))
      have hgt : ∃ dd : Dig, Hid (dd = ds[i]'(by rw [Hn.out]; exact hin)) := ⟨_, Lib.hid rfl⟩
      obtain ⟨dd, hdd⟩ := hgt
      go_wp2_with (first | (refine L_loadM (d := some 15) rfl rfl rfl (by rfl) Tryd.underlying23 rfl el_api_Digest (cs := dd.arr) (by rw [Dig.toList, hdd.out, ← hds.out]; exact hr14) (Dig.size _) ?_) | (refine L_idxS (d := some 14) rfl rfl rfl (by rfl) (by rfl) Tryd.underlying47 el_api_Digest (by (exact hst.old (by decide) (by assumption))) (by omega) (by omega) ?_; intro o14 p14 ha14 hr14; ((subst ha14))) | (refine L_allocA (d := some 7) rfl rfl rfl el_api_Digest ?_; (try clear hnew); intro g7 W7 hnew; replace hst := hst.trans hnew; simp only [List.cons_append, List.nil_append] at hst) | (refine wpl_at (.store 23 (.tmp 7) (.tmp 15)) rfl ?_; (refine L_storeA rfl rfl hst rfl (by rfl) (ev_tmp rfl) (by (exact Dig.one _)) el_api_Digest (by (exact Dig.size _)) 0 rfl (by (rfl)) ?_; clear hst; intro WS3 hst; simp only [List.set_cons_zero, List.set_cons_succ] at hst)) | (refine L_sliceAll (d := some 17) rfl rfl rfl (by rfl) Tryd.underlying23 el_uint8 (by (exact hst.get 0 rfl)) (by (exact Dig.size _)) (by decide) ?_; intro hs17) | (refine L_appendO (d := some 18) rfl rfl hst rfl (by rfl) (by rfl) Tryd.underlying48 el_uint8 rfl (by decide) (by decide) 1 rfl (by (rfl)) (by (exact hs17)) (by (exact oneCell_bytes)) (by omega) ?_; clear hst; intro A18 c18 W18 hst; simp only [List.set_cons_zero, List.set_cons_succ, List.nil_append, Nat.zero_add] at hst))
      go_roundg (gk - 1)
      case measure => have hi := HI.out; omega
      case rel =>
        have hi := HI.out
        refine ⟨i + 1, A18, c18, Lib.hid (by omega), by congr 1; omega, by go_num, ?_⟩
        rw [hta.out, ← hdd.out, ← List.cons_append, bytesL_append, show 1 + (i + 1) * 32 = 1 + i * 32 + 32 by omega]
        exact (hst.pick [1, 2] (by decide))
    · obtain rfl : i = n := by omega
      have hall : allB (ds.take i) = allB ds := by rw [List.take_of_length_le (by rw [Hn.out]; exact Nat.le_refl _)]
      rw [hall] at hst
      clear hall hi HI
      go_wp2_with (first | (go_at_call 15; with_reducible refine (ssum_any _ _ _ _ _ (HT.out.of hst) (hst.sl 0 rfl) (by omega)).mono ?_; rintro e W21 ⟨rfl, hnew⟩; replace hst := hst.keep hnew) | (refine wpl_at (.store 23 (.tmp 4) (.tmp 21)) rfl ?_; (refine L_storeA rfl rfl hst rfl (by rfl) (ev_tmp rfl) (by (exact Dig.one _)) el_api_Digest (by (rfl)) 1 rfl (by (rfl)) ?_; clear hst; intro WS2 hst; simp only [List.set_cons_zero, List.set_cons_succ] at hst)))
      exact bodyPost_ret (results_cell_row rfl _ _ g4 23 _ (0, 0) _ (by rfl) (hst.get 1 rfl) Tryd.underlying23 rfl (by rw [el_api_Digest.size, Dig.size])) rfl ⟨rfl, hst.forget⟩
end Go.Proofs.YtkkmfkpanpjgbaaDoor
