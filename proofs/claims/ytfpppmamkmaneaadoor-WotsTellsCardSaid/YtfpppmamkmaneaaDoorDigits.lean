/-
  Proved here: the contract of the program's function that tells the 67 digits of a digest: it makes memory of its own only, and hands back the digits. No condition.
-/
import Derived.Test.YtfpppmamkmaneaaDoorRows
import Derived.Test.YtfpppmamkmaneaaDoorDig
import Derived.WalkSpells
import Derived.BigQuiet
import Derived.Deep.QuietTactic
import Derived.IntWalk
namespace Go.Proofs.YtfpppmamkmaneaaDoor
open Go.RowKit

theorem elD : ElemIs Tryd.prog 25 (.agg (Array.replicate 32 (.int .u8 0))) 32 32 := by unfold ElemIs; kernel_rfl
theorem el8 : ElemIs Tryd.prog 5 (.int .u8 0) 1 1 := by unfold ElemIs; kernel_rfl
theorem elI : ElemIs Tryd.prog 3 (.int .i64 0) 1 8 := by unfold ElemIs; kernel_rfl
def zerosI (n : Nat) : List Value := List.replicate n (.int .i64 0)
theorem el67 : ElemIs Tryd.prog 89 (.agg (zerosI 67).toArray) 67 536 := by unfold ElemIs; kernel_rfl

/-! ## the plain digits -/
def nibs (d : List UInt8) : List Nat := d.flatMap fun b => [b.toNat / 16, b.toNat % 16]
def lack (d : List UInt8) : Nat := (d.map fun b => 30 - b.toNat / 16 - b.toNat % 16).sum
def digitsN (d : List UInt8) : List Nat := nibs d ++ [lack d / 256, lack d / 16 % 16, lack d % 16]
def cellsAt (d : List UInt8) (k : Nat) : Array Value := (natsL (nibs (d.take k)) ++ zerosI (67 - 2 * k)).toArray

theorem length_nibs (d : List UInt8) : (nibs d).length = 2 * d.length := by
  induction d with
  | nil => rfl
  | cons b d ih => simp only [nibs, List.flatMap_cons, List.length_append, List.length_cons, List.length_nil] at ih ⊢; omega
theorem lack_take (d : List UInt8) (k : Nat) (hk : k < d.length) : lack (d.take (k + 1)) = lack (d.take k) + (30 - (d[k]'hk).toNat / 16 - (d[k]'hk).toNat % 16) := by
  rw [lack, lack, List.take_succ_eq_append_getElem hk, List.map_append, List.sum_append]
  rfl
theorem nibs_take (d : List UInt8) (k : Nat) (hk : k < d.length) : nibs (d.take (k + 1)) = nibs (d.take k) ++ [(d[k]'hk).toNat / 16, (d[k]'hk).toNat % 16] := by
  rw [nibs, nibs, List.take_succ_eq_append_getElem hk, List.flatMap_append]
  rfl
theorem lack_le (d : List UInt8) : lack d ≤ 30 * d.length := by
  induction d with
  | nil => simp [lack]
  | cons b d ih => simp only [lack, List.map_cons, List.sum_cons, List.length_cons] at ih ⊢; omega

theorem size_cellsAt (d : List UInt8) (k : Nat) (hk : k ≤ d.length) (h2 : 2 * k ≤ 67) : (cellsAt d k).size = 67 := by
  simp only [cellsAt, List.size_toArray, List.length_append, natsL, List.length_map, length_nibs, List.length_take, zerosI, List.length_replicate]
  omega

theorem cellsAt_succ (d : List UInt8) (k : Nat) (hk : k < d.length) (h2 : 2 * k + 2 ≤ 67) :
    ((cellsAt d k).setIfInBounds (2 * k) (natV ((d[k]'hk).toNat / 16))).setIfInBounds (2 * k + 1) (natV ((d[k]'hk).toNat % 16)) = cellsAt d (k + 1) := by
  have hl : (natsL (nibs (d.take k))).length = 2 * k := by simp only [natsL, List.length_map, length_nibs, List.length_take]; omega
  have hz : zerosI (67 - 2 * k) = .int .i64 0 :: .int .i64 0 :: zerosI (67 - 2 * (k + 1)) := by
    unfold zerosI
    rw [show 67 - 2 * k = (67 - 2 * (k + 1)) + 1 + 1 by omega, List.replicate_succ, List.replicate_succ]
  unfold cellsAt
  rw [hz, nibs_take d k hk]
  apply Array.ext'
  simp only [Array.toList_setIfInBounds]
  rw [List.set_append, if_neg (by omega), hl, Nat.sub_self, List.set_cons_zero, List.set_append, if_neg (by omega), hl, show 2 * k + 1 - 2 * k = 0 + 1 by omega, List.set_cons_succ, List.set_cons_zero]
  simp [natsL]

set_option maxHeartbeats 400000 in
theorem digits_any (d : Dig) (w : World) :
    Calls Tryd.prog 70 #[d.v] w fun e w' => e = .returned (.agg (natsL (digitsN d.l)).toArray) ∧ St w w' [] := by
  have hst := St.refl w
  have hd := d.h
  unfold Dig.v
  go_enter Tryd.func70, Tryd.ntmps70
  go_wp2_with (first
    | (refine wpl_at (.box 25 (.tmp 0)) rfl ?_; refine wpl_boxAgg rfl hst 25 (.tmp 0) rfl (cs := d.arr) (by rfl) ?_; clear hst; intro gd W1 hst)
    | (refine wpl_at (.alloc 89) rfl ?_; refine wpl_allocAgg rfl hst 89 rfl el67 ?_; clear hst; intro g W2 hst)
    | (refine wpl_at (.load 25 (.tmp 1)) rfl ?_; refine wpl_loadRow rfl 25 (.tmp 1) rfl (by rfl) Tryd.underlying25 rfl (by rw [elD.size, d.size]) (hst.get 1 rfl) ?_)
    | fail)
  have hst := hst.drop (L' := [.blk g 89 (cellsAt d.l 0)]) (by simp [cellsAt, nibs, natsL])
  go_loopw [3, 7] (fun t i wr => ∃ k : Nat, k ≤ 32 ∧ i = .int .i64 k ∧ t = .int .i64 (lack (d.l.take k) : Nat) ∧ St w wr [.blk g 89 (cellsAt d.l k)])
     (fun _ i _ => 32 - (intOf i).toNat)
  case atStart => exact ⟨0, by omega, rfl, rfl, hst⟩
  case round =>
    clear hst
    obtain ⟨k, hk, rfl, rfl, hst⟩ := hrel
    by_cases hlt : k < 32
    · have hsz := size_cellsAt d.l k (by omega) (by omega)
      have hx : (d.l[k]'(by omega)).toNat < 256 := UInt8.toNat_lt _
      have hsucc := Lib.hid (cellsAt_succ d.l k (by omega) (by omega))
      have hlk := Lib.hid (lack_take d.l k (by omega))
      have hle : lack (d.l.take k) ≤ 30 * 32 := Nat.le_trans (lack_le _) (by rw [List.length_take]; omega)
      have hand : bits .and .u8 (((d.l[k]'(by omega)).toNat : Nat) : Int) 15 = (((d.l[k]'(by omega)).toNat % 16 : Nat) : Int) := by
        have := u8_and_nat (d.l[k]'(by omega)).toNat 15 hx (by omega)
        rw [nat_mask4] at this
        exact this
      have hget := d.get k hlt
      generalize (d.l[k]'(by omega)).toNat = x at *
      have Hget := Lib.hid hget
      clear hget
      go_wp2_with (first
        | (refine wpl_at (.index 25 (.tmp 6) (.tmp 7)) rfl ?_; refine wpl_index1 rfl (.tmp 6) (.tmp 7) rfl Tryd.underlying25 Tryd.underlying5 rfl el8 (by rfl) (by rfl) hlt Hget.out ?_)
        | (refine wpl_at (.store 3 (.tmp 22) (.tmp 18)) rfl ?_; refine wpl_store1 rfl hst 3 (.tmp 22) (.tmp 18) rfl (by rfl) (v := natV (x / 16)) (by rfl) rfl elI.size 0 rfl (by rw [hsz]; omega) ?_; clear hst; intro W3 hst)
        | (refine wpl_at (.store 3 (.tmp 23) (.tmp 21)) rfl ?_; refine wpl_store1 rfl hst 3 (.tmp 23) (.tmp 21) rfl (by rfl) (v := natV (x % 16)) (by rfl) rfl elI.size 0 rfl (by rw [Array.size_setIfInBounds, hsz]; omega) ?_; clear hst; intro W4 hst)
        | fail)
      have hst' : St w W4 [.blk g 89 (cellsAt d.l (k + 1))] := by
        rw [← hsucc.out]
        exact hst
      clear hst
      have hb := hst'.get 0 rfl
      have c0 : W4.cell? ⟨g, 2 * k, none⟩ = some (.int .i64 ((x / 16 : Nat) : Int)) := by
        rw [cell_of_row _ _ _ _ _ _ hb, ← hsucc.out]
        simp [Array.getElem?_setIfInBounds, hsz, natV]
        omega
      have c1 : W4.cell? ⟨g, 2 * k + 1, none⟩ = some (.int .i64 ((x % 16 : Nat) : Int)) := by
        rw [cell_of_row _ _ _ _ _ _ hb, ← hsucc.out]
        simp [Array.getElem?_setIfInBounds, hsz, natV]
        omega
      clear hb hsz
      have hx16 : x / 16 < 16 := by omega
      have hm16 : x % 16 < 16 := by omega
      have w1 : IntKind.i64.wrap (2 * (k : Int)) = 2 * k := IntWalk.i64_in _ (by omega)
      have w2 : IntKind.i64.wrap (2 * (k : Int) + 1) = 2 * k + 1 := IntWalk.i64_in _ (by omega)
      have w3 : IntKind.i64.wrap (30 - ((x / 16 : Nat) : Int)) = 30 - ((x / 16 : Nat) : Int) := IntWalk.i64_in _ (by omega)
      have w4 : IntKind.i64.wrap (30 - ((x / 16 : Nat) : Int) - ((x % 16 : Nat) : Int)) = 30 - ((x / 16 : Nat) : Int) - ((x % 16 : Nat) : Int) := IntWalk.i64_in _ (by omega)
      have w5 : IntKind.i64.wrap ((lack (d.l.take k) : Int) + (30 - ((x / 16 : Nat) : Int) - ((x % 16 : Nat) : Int))) = (lack (d.l.take k) : Int) + (30 - ((x / 16 : Nat) : Int) - ((x % 16 : Nat) : Int)) := IntWalk.i64_in _ (by omega)
      have n1 : (2 * (k : Int)).toNat = 2 * k := by omega
      have n2 : (2 * (k : Int) + 1).toNat = 2 * k + 1 := by omega
      have b1 : (0 : Int) ≤ 2 * (k : Int) := by omega
      have b2 : 2 * (k : Int) < 67 := by omega
      have b3 : (0 : Int) ≤ 2 * (k : Int) + 1 := by omega
      have b4 : 2 * (k : Int) + 1 < 67 := by omega
      generalize x / 16 = xh at *
      generalize x % 16 = xl at *
      generalize hlk0 : lack (d.l.take k) = lk at *
      go_quiet (fail)
      have hst5 := hst'.drewN nq
      clear hst' c0 c1 w1 w2 w3 w4 w5 n1 n2 b1 b2 b3 b4 hand
      go_wp2
      go_roundw
      case rel => exact ⟨k + 1, by omega, by go_num, by rw [hlk.out]; congr 1; omega, hst5⟩
      case measure => simp [intOf]; omega
    · obtain rfl : k = 32 := by omega
      have htake : d.l.take 32 = d.l := List.take_of_length_le (by omega)
      have hle := lack_le d.l
      have hsz := size_cellsAt d.l 32 (by omega) (by omega)
      have hcells : cellsAt d.l 32 = (natsL (nibs d.l) ++ [natV 0, natV 0, natV 0]).toArray := by
        unfold cellsAt
        rw [htake]
        rfl
      rw [htake]
      rw [hcells] at hst
      have h960 : lack d.l ≤ 960 := by omega
      clear hcells hsz htake hle
      have hfin : ((((natsL (nibs d.l) ++ [natV 0, natV 0, natV 0]).toArray.setIfInBounds 64 (natV (lack d.l / 256))).setIfInBounds 65 (natV (lack d.l / 16 % 16))).setIfInBounds 66 (natV (lack d.l % 16))) = (natsL (digitsN d.l)).toArray := by
        have hl : (natsL (nibs d.l)).length = 64 := by simp only [natsL, List.length_map, length_nibs]; omega
        apply Array.ext'
        simp only [Array.toList_setIfInBounds]
        rw [List.set_append, if_neg (by omega), hl, List.set_append, if_neg (by omega), hl, List.set_append, if_neg (by omega), hl]
        simp [natsL, digitsN]
      have Hfin := Lib.hid hfin
      clear hfin
      generalize hlk0 : lack d.l = lk at *
      clear hlk0
      have a1 : bits .and .i64 ((lk : Int) / 16) 15 = (lk : Int) / 16 % 16 := i64_and15 (lk / 16) (by omega)
      have a2 : bits .and .i64 (lk : Int) 15 = (lk : Int) % 16 := i64_and15 lk (by omega)
      have hs0 : (natsL (nibs d.l) ++ [natV 0, natV 0, natV 0]).toArray.size = 67 := by
        simp only [List.size_toArray, List.length_append, natsL, List.length_map, length_nibs, List.length_cons, List.length_nil]
        omega
      have hs9 : (natsL (digitsN d.l)).toArray.size = 67 := by
        simp only [List.size_toArray, natsL, List.length_map, digitsN, List.length_append, length_nibs, List.length_cons, List.length_nil]
        omega
      have h19 := Lib.hid (oneCell_nats (l := digitsN d.l))
      have Hs0 := Lib.hid hs0
      have Hs9 := Lib.hid hs9
      clear hs0 hs9
      generalize (natsL (nibs d.l) ++ [natV 0, natV 0, natV 0]).toArray = c0 at *
      generalize hc9 : (natsL (digitsN d.l)).toArray = c9 at *
      have Hc9 := Lib.hid hc9
      clear hc9
      go_wp2_with (first
        | (refine wpl_at (.store 3 (.tmp 45) (.tmp 39)) rfl ?_; refine wpl_store1 rfl hst 3 (.tmp 45) (.tmp 39) rfl (by rfl) (v := natV (lk / 256)) (by rfl) rfl elI.size 0 rfl (by rw [Hs0.out]; omega) ?_; clear hst; intro W3 hst)
        | (refine wpl_at (.store 3 (.tmp 46) (.tmp 42)) rfl ?_; refine wpl_store1 rfl hst 3 (.tmp 46) (.tmp 42) rfl (by rfl) (v := natV (lk / 16 % 16)) (by rfl) rfl elI.size 0 rfl (by rw [Array.size_setIfInBounds, Hs0.out]; omega) ?_; clear hst; intro W4 hst)
        | (refine wpl_at (.store 3 (.tmp 47) (.tmp 44)) rfl ?_; refine wpl_store1 rfl hst 3 (.tmp 47) (.tmp 44) rfl (by rfl) (v := natV (lk % 16)) (by rfl) rfl elI.size 0 rfl (by rw [Array.size_setIfInBounds, Array.size_setIfInBounds, Hs0.out]; omega) ?_; clear hst; intro W5 hst)
        | (refine wpl_at (.load 89 (.tmp 2)) rfl ?_; refine wpl_loadRow rfl 89 (.tmp 2) rfl (by rfl) Tryd.underlying89 rfl (cs := c9) (by rw [el67.size, Hs9.out]) (by rw [← Hfin.out]; exact hst.get 0 rfl) ?_)
        | (refine wpl_at (.store 89 (.tmp 2) (.tmp 48)) rfl ?_; refine wpl_storeRow rfl hst 89 (.tmp 2) (.tmp 48) rfl (by rfl) (cells := c9) (by rfl) h19.out (by rw [el67.size, Hs9.out]) 0 rfl (by rw [Array.size_setIfInBounds, Array.size_setIfInBounds, Array.size_setIfInBounds, Hs0.out, Hs9.out]) ?_; clear hst; intro W6 hst)
        | fail)
      refine bodyPost_ret (results_cell_row rfl _ _ g 89 c9 (0, 0) _ (by rfl) (hst.get 0 rfl) Tryd.underlying89 rfl (by rw [el67.size, Hs9.out])) rfl ⟨by rw [Hc9.out], hst.forget⟩
end Go.Proofs.YtfpppmamkmaneaaDoor
