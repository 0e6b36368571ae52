/-
  Proved here: the contract of the bits' iterator: it hands out each place with its bit, one behind the other. No condition.
-/
import Derived.Test.YthlpobpkhlbfdaaDoorRound
import Derived.Test.YthlpobpkhlbfdaaDoorOncePlain
import Derived.RangeFuncBound
import Derived.RangeFuncLeaves
import Derived.Shelf.Abstract
import Derived.Shelf.RegionOpen
import Derived.OwnWalkIn
import Derived.TacticsInMore
import Derived.LoopNIn
import Derived.LoopIn
set_option maxRecDepth 20000
set_option linter.unusedSimpArgs false
set_option linter.unusedVariables false
namespace Go.Proofs.YthlpobpkhlbfdaaDoor
open Go.RowKit Go.Shelf
attribute [local go_sem] Oper.semAt_some

/-- a place of a digest -/
abbrev Pl := { i : Nat // i < 256 }
def plOf (i : Nat) : Pl := if h : i < 256 then ⟨i, h⟩ else ⟨0, by decide⟩
theorem plOf_val (i : Nat) (h : i < 256) : (plOf i).val = i := by rw [plOf, dif_pos h]
def plTo (k : Nat) : List Pl := (List.range k).map plOf
theorem plTo_succ (k : Nat) : plTo (k + 1) = plTo k ++ [plOf k] := by simp [plTo, List.range_succ]
theorem plTo_length (k : Nat) : (plTo k).length = k := by simp [plTo]

theorem and_one : ∀ a : Fin 256, wrap64 (bits BinOp.and IntKind.u8 (a.val : Int) 1) = ((a.val % 2 : Nat) : Int) := by decide +kernel
theorem bit_val (x d : Nat) (hx : x < 256) : wrap64 (bits BinOp.and IntKind.u8 ((x : Int) / 2 ^ d) 1) = (((x >>> d) % 2 : Nat) : Int) := by
  have h1 : (x : Int) / (2 : Int) ^ d = ((x >>> d : Nat) : Int) := by
    rw [Nat.shiftRight_eq_div_pow, Int.natCast_ediv]
    simp
  have h2 : x >>> d < 256 := Nat.lt_of_le_of_lt (by rw [Nat.shiftRight_eq_div_pow]; exact Nat.div_le_self _ _) hx
  rw [h1]
  exact and_one ⟨x >>> d, h2⟩
set_option maxRecDepth 100000 in
set_option maxHeartbeats 2000000 in
theorem bits1_in (m : Dig) (g : Nat) (n : Nat) (hn : 1 ≤ n) (l : Nat) (J Jx : List Pl → World → Prop)
    (hY : ∀ pre x W, J pre W → pre.length < 256 → YieldAt Fence.wide (n - 1) Tryd.prog l #[.int .i64 (x.val : Int), .int .i64 (bitN m x.val : Int)] W fun e W' =>
      (e = .returned (.bool true) ∧ J (pre ++ [x]) W' ∧ W'.heap[g]? = W.heap[g]?) ∨ (e = .returned (.bool false) ∧ Jx (pre ++ [x]) W'))
    (W : World) (hg : W.heap[g]? = some (.cells m.arr 23 (0, 0))) (h0 : J [] W) :
    CallsIn Fence.wide n Tryd.prog 21 #[.func (.yield l) #[] #[], .pointer (some ⟨g, 0, none⟩)] W fun e W' => (∃ v, e = .returned v) ∧
      ((∃ ys, ys = plTo 256 ∧ J ys W') ∨ (∃ pre, True ∧ Jx pre W')) := by
  have hro : Fence.wide.round = none := rfl
  refine callsIn_of_wp Tryd.func21 rfl trivial ?_ hro
  simp only [Tryd.ntmps21, List.size_toArray, List.length_cons, List.length_nil, Nat.reduceAdd, Nat.reduceSub, Array.replicate_succ, Array.replicate_zero, List.push_toArray, List.append_toArray, List.nil_append, List.cons_append]
  gi_wp2
  gi_loopw [4] (fun i wr => ∃ k : Nat, k ≤ 256 ∧ i = .int .i64 k ∧ J (plTo k) wr ∧ wr.heap[g]? = some (.cells m.arr 23 (0, 0)))
    (fun i _ => 256 - (intOf i).toNat)
  case atStart => exact ⟨0, Nat.zero_le _, rfl, h0, hg⟩
  case round =>
    obtain ⟨k, hk, rfl, hJs, hgr⟩ := hrel
    by_cases hlt : k < 256
    · obtain ⟨fn, tmps, assign, body, hy, hR⟩ := hY _ (plOf k) wr hJs (by rw [plTo_length]; exact hlt)
      rw [plOf_val k hlt] at hy
      have hx := UInt8.toNat_lt (m.l.getD (k / 8) 0)
      have hbit : bitN m k = ((m.l.getD (k / 8) 0).toNat >>> (7 - k % 8)) % 2 := rfl
      have hcell : wr.cell? ⟨g, k / 8, none⟩ = some (.int .u8 (((m.l.getD (k / 8) 0).toNat : Nat) : Int)) := by
        refine cell_of hgr ?_
        have := m.h
        simp [Dig.arr, bytesV, bytesL, byteV, show k / 8 < 32 by omega, this]
      generalize (m.l.getD (k / 8) 0).toNat = x at *
      generalize bitN m k = bt at *
      have b1 : (k : Int) / 8 < 32 := by omega
      have b2 : 0 ≤ (k : Int) / 8 := by omega
      have b3 : ¬ (7 - (k : Int) % 8) < 0 := by omega
      have hbv := bit_val x (7 - k % 8) hx
      rw [← hbit] at hbv
      rw [← hbv] at hy
      clear hbv hbit
      gi_wp2
      refine hR.mono ?_
      rintro e W3 (⟨rfl, hJ3, hk3⟩ | ⟨rfl, hJx3⟩)
      · gi_wp2
        go_roundw
        case rel => exact ⟨k + 1, by omega, by simp, by rw [plTo_succ]; exact hJ3, hk3.trans hgr⟩
        case measure => simp [intOf]; omega
      · gi_wp2
        refine bodyPost_ret (results_none rfl _ _ _) rfl ?_
        exact ⟨⟨_, rfl⟩, .inr ⟨_, trivial, hJx3⟩⟩
    · obtain rfl : k = 256 := by omega
      gi_wp2
      go_end0
      exact ⟨⟨_, rfl⟩, .inl ⟨_, rfl, hJs⟩⟩
/-- once.bits: a function value that holds the digest -/
theorem bits_any (m : Dig) (w : World) : Calls Tryd.prog 16 #[m.v] w fun e w' => ∃ g, e = .returned (.func (.func 21) #[] #[.pointer (some ⟨g, 0, none⟩)]) ∧ St w w' [.blk g 23 m.arr] := by
  have hst := St.refl w
  have hmf : ∀ (fn : Fn) (first cap : Array Value) (w : World), (Instr.makeFunc fn first cap).run Tryd.prog w = .ok (.func fn first cap) w := fun _ _ _ _ => rfl
  go_enter Tryd.func16, Tryd.ntmps16
  go_wp2_with (first
    | (refine L_boxA (d := some 1) rfl rfl rfl (ev_tmp rfl) ?_; (try clear hnew); intro g1 W1 hnew; replace hst := hst.trans hnew; simp only [List.cons_append, List.nil_append] at hst)
    | fail)
  go_ret
  exact ⟨_, rfl, hst⟩
/-- .. and that value's contract -/
theorem bits_stops (m : Dig) (g : Nat) (n : Nat) (hn : 1 ≤ n) (w : World) (hg : w.heap[g]? = some (.cells m.arr 23 (0, 0))) :
    SeqStopsK Fence.wide n Tryd.prog 21 #[.pointer (some ⟨g, 0, none⟩)] (fun x : Pl => #[.int .i64 (x.val : Int), .int .i64 (bitN m x.val : Int)]) (fun W W' => W'.heap[g]? = W.heap[g]?) (fun xs => xs = plTo 256) (fun _ => True) 256 w := fun l J Jx W hW _ _ hY h0 =>
  bits1_in m g n hn l J Jx hY W ((hW.block g (Array.getElem?_eq_some_iff.1 hg).1).trans hg) h0
end Go.Proofs.YthlpobpkhlbfdaaDoor
