/-
  Proved here: the contracts of sha.Sum and sha.Of: the digest of bytes; of a first byte and of digests.
-/
import Derived.Test.YtaebeemnipafbaaGreatDoorSum
import Derived.Test.YtaebeemnipafbaaGreatDoorSq
set_option linter.unusedSimpArgs false
set_option linter.unusedVariables false
set_option maxRecDepth 100000
set_option maxHeartbeats 200000000
namespace Go.Proofs.YtaebeemnipafbaaGreatDoor
open Go.RowKit
theorem new_hs (w : World) : Calls Tryz.prog 100 #[] w fun e w' => ∃ g, e = .returned (.pointer (some ⟨g, 0, none⟩)) ∧ St w w' (Hs g [] none 0 0) :=
 (new_any w).mono fun e w' ⟨g, he, h⟩ => ⟨g, he, (h.nilRow 5 1).pick [1, 0] (by decide)⟩
theorem NS (b : List UInt8) (A : Option Addr) (n c : Nat) (w : World) (hT : Tb w) (hx : SlR w A n c 1 (GK b)) (hm : n ≤ 140737488355000) :
  Calls Tryz.prog 80 #[.slice A n c] w fun e w' => e = .returned (sha b).v ∧ St w w' [] := by
 have Ga := St.refl w
 have HT := Gg hT
 have hn := hx.1
 rw [G7, Nat.mul_one] at hn
 have hbl : b.length ≤ 140737488355000 := by omega
 clear hT hn
 go_enter Tryz.func80, Tryz.ntmps80
 go_wp2_with (first | (go_at_call 100; with_reducible refine (new_hs _).mono ?_; rintro e W3 ⟨g3, rfl, Gb⟩; replace Ga := Ga.trans Gb; clear Gb) | (go_at_call 101; with_reducible refine (write_any [] b g3 0 0 none A n c w _ _ HT.out Ga (Src.old (by decide) hx _) (by simp; omega) (by omega)).mono ?_; rintro e W4 ⟨rfl, A4, n4, c4, hst'⟩; clear Ga; have Ga := hst'; clear hst') | (go_at_call 102; with_reducible refine (hsum_any ([] ++ b) g3 _ _ _ w _ _ HT.out Ga (by simp; omega)).mono ?_; rintro e W5 ⟨rfl, hst'⟩; clear Ga; have Ga := hst'; clear hst'; simp only [Hs, List.nil_append, List.cons_append] at Ga) | (refine Gk 2 rfl Gv ?_; (try clear Gb); intro g2 W2 Gb; replace Ga := Ga.tr1 Gb) | ((refine Gr 2 9 Ga rfl (by rfl) (Gw rfl) (Dig.one _) Gv (by rfl) 2 rfl (by rfl) ?_; clear Ga; intro WS2 Ga; simp only [Ge, Gf] at Ga)))
 exact bodyPost_ret (results_cell_row rfl _ _ g2 32 _ (0, 0) _ (by rfl) (Ga.get 2 rfl) uz32 rfl (by rw [Gv.size, Dig.size])) rfl ⟨rfl, Ga.forget⟩
def GP (ds : List Dig) : List Value := ds.flatMap fun d => GK d.l
def P4 (ds : List Dig) : List UInt8 := ds.flatMap fun d => d.l
theorem digsL_all (ds : List Dig) : GP ds = GK (P4 ds) := by
 unfold GP P4 GK
 rw [List.map_flatMap]
theorem length_allB (ds : List Dig) : (P4 ds).length = ds.length * 32 := by
 induction ds with
 | nil => rfl
 | cons d ds ih => simp only [P4, List.flatMap_cons, List.length_append, d.h, List.length_cons] at ih ⊢; omega
theorem G8 (ds : List Dig) : (GP ds).length = ds.length * 32 := by rw [digsL_all, G7, length_allB]
theorem allB_at (ds : List Dig) (i : Nat) (hi : i < ds.length) : ((P4 ds).drop (i * 32)).take 32 = (ds[i]).l := by
 induction ds generalizing i with
 | nil => simp at hi
 | cons d ds ih =>
  have h : P4 (d :: ds) = d.l ++ P4 ds := by simp [P4]
  rw [h]
  cases i with
  | zero =>
   rw [Nat.zero_mul, List.drop_zero, List.take_append_of_le_length (by rw [d.h]; exact Nat.le_refl _), List.take_of_length_le (by rw [d.h]; exact Nat.le_refl _)]
   rfl
  | succ i =>
   have e : (i + 1) * 32 = d.l.length + i * 32 := by rw [d.h]; omega
   rw [e, ← List.drop_drop, List.drop_left]
   exact ih i (by simpa using hi)
theorem MQ (ds : List Dig) (i : Nat) (hi : i < ds.length) : ((GP ds).drop (i * 32)).take 32 = GK (ds[i]).l := by
 rw [digsL_all, ← allB_at ds i hi]
 simp [GK, List.map_take, List.map_drop]
theorem allB_take (ds : List Dig) (i : Nat) (hi : i < ds.length) : P4 (ds.take (i + 1)) = P4 (ds.take i) ++ (ds[i]).l := by
 unfold P4
 rw [List.take_succ_eq_append_getElem hi, List.flatMap_append]
 simp
theorem Dig.toList (d : Dig) : d.arr.toList = GK d.l := by simp [Dig.arr, K5]
def ofN (tag : UInt8) (ds : List Dig) : Dig := sha (tag :: P4 ds)
theorem of_any (tag : UInt8) (ds : List Dig) (A : Option Addr) (n c : Nat) (w : World) (hT : Tb w) (hx : SlR w A n c 32 (GP ds)) (hm : n ≤ 1099511627776) :
  Calls Tryz.prog 126 #[JC tag, .slice A n c] w fun e w' => e = .returned (ofN tag ds).v ∧ St w w' [] := by
 have Ga := St.refl w
 have HT := Gg hT
 have hn : ds.length = n := by
  have := hx.1
  rw [G8] at this
  omega
 have Hn := Gg hn
 clear hT hn
 unfold JC
 go_enter Tryz.func126, Tryz.ntmps126
 go_wp2_with (first | (refine Gk 4 rfl Gv ?_; (try clear Gb); intro g4 W4 Gb; replace Ga := Ga.tr1 Gb) | (refine Gq 9 rfl [_] (Kj (Gw rfl)) rfl uz22 GF rfl (by (simp [Value.cells]; done)) (by decide) (by decide) ?_; (try clear Gb); intro g9 W9 Gb; replace Ga := Ga.tr1 Gb; simp only [List.flatMap_cons, List.flatMap_nil, List.append_nil, Value.cells, List.toList_toArray] at Ga))
 have Ga : St w W9 [.row g9 (1 + 0 * 32) 1 5 1 (GK (tag :: P4 (ds.take 0))), .blk g4 32 GM.arr] := Ga
 go_loopg [5, 12] n (fun gk s5 s12 wr => ∃ (i : Nat) (A' : Option Addr) (c' : Nat), Hid (i + gk = n) ∧ s5 = .slice A' (1 + i * 32) c' ∧ s12 = .int .i64 (i : Int) ∧ St w wr [.row A' (1 + i * 32) c' 5 1 (GK (tag :: P4 (ds.take i))), .blk g4 32 GM.arr])
 case atStart => exact ⟨0, g9, 1, Gg (by omega), rfl, rfl, Ga⟩
 case round =>
  clear Ga Gb
  obtain ⟨i, A', c', HI, rfl, rfl, Ga⟩ := hrel
  have hi := HI.out
  by_cases hin : i < n
  ·clear hi
   have hds := Gg (MQ ds i (by rw [Hn.out]; exact hin))
   have hta := Gg (allB_take ds i (by rw [Hn.out]; exact hin))
   have hgt : ∃ dd : Dig, Hid (dd = ds[i]'(by rw [Hn.out]; exact hin)) := ⟨_, Lib.hid rfl⟩
   obtain ⟨dd, hdd⟩ := hgt
   go_wp2_with (first | (refine Gn 15 rfl (by rfl) uz32 rfl Gv (cs := dd.arr) (by rw [Dig.toList, hdd.out, ← hds.out]; exact hr14) (Dig.size _) ?_) | (refine Gp 14 rfl (by rfl) (by rfl) uz44 Gv (Ga.old (by decide) (by assumption)) (by omega) (by omega) ?_; intro o14 p14 ha14 hr14; ((subst ha14))) | (refine Gk 7 rfl Gv ?_; (try clear Gb); intro g7 W7 Gb; replace Ga := Ga.tr1 Gb) | ((refine Gr 7 15 Ga rfl (by rfl) (Gw rfl) (Dig.one _) Gv (Dig.size _) 0 rfl (by rfl) ?_; clear Ga; intro WS3 Ga; simp only [Ge, Gf] at Ga)) | (refine Jx (d := some 17) rfl rfl rfl (by rfl) uz32 GF (Ga.get 0 rfl) (Dig.size _) (by decide) ?_; intro hs17) | (refine GY (d := some 18) rfl rfl Ga rfl (by rfl) (by rfl) uz22 GF rfl (by decide) (by decide) 1 rfl (by rfl) (hs17) (GX) (by omega) ?_; clear Ga; intro A18 c18 W18 Ga; simp only [Ge, Gf, List.nil_append, Nat.zero_add] at Ga))
   go_roundg (gk - 1)
   case measure => have hi := HI.out; omega
   case rel =>
    have hi := HI.out
    refine ⟨i + 1, A18, c18, Gg (by omega), by congr 1; omega, by go_num, ?_⟩
    rw [hta.out, ← hdd.out, ← List.cons_append, Hj, show 1 + (i + 1) * 32 = 1 + i * 32 + 32 by omega]
    exact (Ga.pick [1, 2] (by decide))
  ·obtain rfl : i = n := by omega
   have hall : P4 (ds.take i) = P4 ds := by rw [List.take_of_length_le (by rw [Hn.out]; exact Nat.le_refl _)]
   rw [hall] at Ga
   clear hall hi HI
   go_wp2_with (first | (go_at_call 80; with_reducible refine (NS _ _ _ _ _ (HT.out.of Ga) (Ga.sl 0 rfl) (by omega)).mono ?_; rintro e W21 ⟨rfl, Gb⟩; replace Ga := Ga.keep Gb) | ((refine Gr 4 21 Ga rfl (by rfl) (Gw rfl) (Dig.one _) Gv (by rfl) 1 rfl (by rfl) ?_; clear Ga; intro WS2 Ga; simp only [Ge, Gf] at Ga)))
   exact bodyPost_ret (results_cell_row rfl _ _ g4 32 _ (0, 0) _ (by rfl) (Ga.get 1 rfl) uz32 rfl (by rw [Gv.size, Dig.size])) rfl ⟨rfl, Ga.forget⟩
end Go.Proofs.YtaebeemnipafbaaGreatDoor
