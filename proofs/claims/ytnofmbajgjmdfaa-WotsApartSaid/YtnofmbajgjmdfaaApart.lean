/-
  Proved here: the walk of the law WotsApart: it returns true. No condition.
-/
import Derived.Test.YtnofmbajgjmdfaaApartPlain
namespace Go.Proofs.Ytnofmbajgjmdfaa
open Go.RowKit

theorem dig_cell {W : World} {g t : Nat} {l : List Nat} {fr : Nat × Nat} (hg : W.heap[g]? = some (.cells (natsL l).toArray t fr)) (k : Nat) (hk : k < l.length) : W.cell? ⟨g, k, none⟩ = some (.int .i64 ((l.getD k 0 : Nat) : Int)) := by
  rw [cell_of_row _ _ _ _ _ _ hg]
  simp [natsL, natV, hk]

theorem getD_le (d : Dig) (k : Nat) : (digitsN d.l).getD k 0 ≤ 15 := by
  by_cases hk : k < (digitsN d.l).length
  · have := digits_le d ((digitsN d.l)[k]) (List.getElem_mem hk)
    simpa [hk] using this
  · simp [List.getElem?_eq_none (show (digitsN d.l).length ≤ k by omega)]

theorem eqD (a b : Dig) (W : World) : (Op.equalIn 10000 23 (.agg a.arr) (.agg b.arr)).run Try.prog W = .ok (decide (a = b)) W :=
  run_equal_digs Try.underlying23 Try.underlying5 el8 a b W
theorem eqG : Try.prog.eqGuardType Try.prog.depth 23 = false := by kernel_rfl

set_option maxHeartbeats 1000000 in
theorem apart_any (m o : Dig) (w : World) :
    Calls Try.prog 3 #[m.v, o.v] w fun e w' => e = .returned (.bool true) ∧ St w w' [] := by
  have hst := St.refl w
  unfold Dig.v
  go_enter Try.func3, Try.ntmps3
  go_wp2_with (first
    | (refine wpl_boxAgg rfl hst 23 (.tmp 0) rfl (cs := m.arr) (by rfl) ?_; clear hst; intro gm W1 hst)
    | (refine wpl_boxAgg rfl hst 23 (.tmp 1) rfl (cs := o.arr) (by rfl) ?_; clear hst; intro go W2 hst)
    | (refine wpl_loadRow rfl 23 (.tmp 2) rfl (by rfl) Try.underlying23 rfl (by rw [elD.size, m.size]) (hst.get 1 rfl) ?_)
    | (refine wpl_loadRow rfl 23 (.tmp 3) rfl (by rfl) Try.underlying23 rfl (by rw [elD.size, o.size]) (hst.get 1 rfl) ?_)
    | (go_at_call 6; with_reducible refine (digitsSl_any m _).mono ?_; rintro e w' ⟨ga, rfl, hst'⟩; replace hst := hst.trans hst'; clear hst')
    | (go_at_call 6; with_reducible refine (digitsSl_any o _).mono ?_; rintro e w' ⟨gb, rfl, hst'⟩; replace hst := hst.trans hst'; clear hst')
    | fail)
  have hst0 : St w w' [.blk gb 41 (natsL (digitsN o.l)).toArray, .blk ga 41 (natsL (digitsN m.l)).toArray, .blk go 23 o.arr, .blk gm 23 m.arr] := hst
  clear hst
  go_loopw [7, 8, 9, 10] (fun t l q i wr => ∃ k : Nat, k ≤ 67 ∧ i = .int .i64 k ∧ t = .int .i64 (sumTo (digitsN m.l) k : Nat) ∧ l = .bool (lessTo (digitsN m.l) (digitsN o.l) k) ∧ q = .bool (lessTo (digitsN o.l) (digitsN m.l) k) ∧
      St w wr [.blk gb 41 (natsL (digitsN o.l)).toArray, .blk ga 41 (natsL (digitsN m.l)).toArray, .blk go 23 o.arr, .blk gm 23 m.arr])
     (fun _ _ _ i _ => 67 - (intOf i).toNat)
  case atStart => exact ⟨0, by omega, rfl, rfl, rfl, rfl, hst0⟩
  case round =>
    clear hst0
    obtain ⟨k, hk, rfl, rfl, rfl, rfl, hst⟩ := hrel
    have hla := length_digitsN m
    have hlb := length_digitsN o
    by_cases hlt : k < 67
    · have ca := dig_cell (hst.get 1 rfl) k (by omega)
      have cb := dig_cell (hst.get 0 rfl) k (by omega)
      have ha15 := getD_le m k
      have hb15 := getD_le o k
      have hs := sumTo_le (digitsN m.l) k
      have e1 := Lib.hid (lessTo_succ (digitsN m.l) (digitsN o.l) k)
      have e2 := Lib.hid (lessTo_succ (digitsN o.l) (digitsN m.l) k)
      have e3 : k < 64 → Hid (sumTo (digitsN m.l) (k + 1) = sumTo (digitsN m.l) k + (15 - (digitsN m.l).getD k 0)) := fun h => Lib.hid (by
        rw [sumTo_succ _ _ h (by omega)]
        simp [hla, hlt])
      have e4 : 64 ≤ k → Hid (sumTo (digitsN m.l) (k + 1) = sumTo (digitsN m.l) k) := fun h => Lib.hid (sumTo_past _ _ h)
      generalize hx : (digitsN m.l).getD k 0 = x at *
      generalize hy : (digitsN o.l).getD k 0 = y at *
      generalize hsk : sumTo (digitsN m.l) k = sk at *
      generalize hl1 : lessTo (digitsN m.l) (digitsN o.l) k = l1 at *
      generalize hl2 : lessTo (digitsN o.l) (digitsN m.l) k = l2 at *
      clear hx hy hsk hl1 hl2 hla hlb
      have n0 : decide ((x : Int) < 0) = false := by simp
      have n1 : decide ((15 : Int) < (x : Int)) = false := by simp; omega
      have k0 : (0 : Int) ≤ (k : Int) := by omega
      have k1 : (k : Int) < 67 := by omega
      by_cases h64 : k < 64
      all_goals
        rcases Nat.lt_trichotomy x y with h | rfl | h
        all_goals
          go_wp2_with fail
          go_quiet (fail)
          go_wp2_with fail
          go_quiet (fail)
          go_wp2_with fail
          go_roundw
          case rel =>
            refine ⟨k + 1, by omega, by go_num, ?_, ?_, ?_, hst.drewN _⟩
            · first
                | (rw [(e3 h64).out]; congr 1; omega)
                | (rw [(e4 (by omega)).out])
            · rw [e1.out]; simp; try omega
            · rw [e2.out]; simp; try omega
          case measure => simp [intOf]; omega
    · obtain rfl : k = 67 := by omega
      have c4 := dig_cell (hst.get 1 rfl) 64 (by omega)
      have c5 := dig_cell (hst.get 1 rfl) 65 (by omega)
      have c6 := dig_cell (hst.get 1 rfl) 66 (by omega)
      have h4 := getD_le m 64
      have h5 := getD_le m 65
      have h6 := getD_le m 66
      rw [digits_sum m]
      have eqd := eqD
      have eqg := eqG
      have hless : lessTo (digitsN m.l) (digitsN o.l) 67 = !decide (m = o) := by
        by_cases hmo : m = o
        · subst hmo; simp [lessTo_self]
        · cases h : lessTo (digitsN m.l) (digitsN o.l) 67 with
          | false => exact absurd (apart_law m o h) hmo
          | true => simp [hmo]
      have hmore : lessTo (digitsN o.l) (digitsN m.l) 67 = !decide (m = o) := by
        by_cases hmo : m = o
        · subst hmo; simp [lessTo_self]
        · cases h : lessTo (digitsN o.l) (digitsN m.l) 67 with
          | false => exact absurd (apart_law o m h).symm hmo
          | true => simp [hmo]
      rw [hless, hmore]
      clear hless hmore hla hlb
      generalize (digitsN m.l).getD 64 0 = x4 at *
      generalize (digitsN m.l).getD 65 0 = x5 at *
      generalize (digitsN m.l).getD 66 0 = x6 at *
      have w1 : IntKind.i64.wrap ((x4 : Int) * 256) = (x4 : Int) * 256 := IntWalk.i64_in _ (by omega)
      have w2 : IntKind.i64.wrap ((x5 : Int) * 16) = (x5 : Int) * 16 := IntWalk.i64_in _ (by omega)
      have w3 : IntKind.i64.wrap ((x4 : Int) * 256 + (x5 : Int) * 16) = (x4 : Int) * 256 + (x5 : Int) * 16 := IntWalk.i64_in _ (by omega)
      have w4 : IntKind.i64.wrap ((x4 : Int) * 256 + (x5 : Int) * 16 + (x6 : Int)) = (x4 : Int) * 256 + (x5 : Int) * 16 + (x6 : Int) := IntWalk.i64_in _ (by omega)
      by_cases hmo : m = o
      all_goals
        go_wp2_with fail
        refine wp_region_quiet_lit (by kernel_rfl) (by kernel_rfl) ?_
        repeat (quiet_step (fail))
        refine wpq_loadRow (by rfl) 23 (.tmp 2) rfl (by rfl) Try.underlying23 rfl (cs := m.arr) (by rw [elD.size, m.size]) (by rintro W ⟨n, rfl⟩; exact (hst.drewN n).get 3 rfl) ?_
        refine wpq_loadRow (by rfl) 23 (.tmp 3) rfl (by rfl) Try.underlying23 rfl (cs := o.arr) (by rw [elD.size, o.size]) (by rintro W ⟨n, rfl⟩; exact (hst.drewN n).get 2 rfl) ?_
        repeat (quiet_step (fail))
        refine wpq_loadRow (by rfl) 23 (.tmp 2) rfl (by rfl) Try.underlying23 rfl (cs := m.arr) (by rw [elD.size, m.size]) (by rintro W ⟨n, rfl⟩; exact (hst.drewN n).get 3 rfl) ?_
        refine wpq_loadRow (by rfl) 23 (.tmp 3) rfl (by rfl) Try.underlying23 rfl (cs := o.arr) (by rw [elD.size, o.size]) (by rintro W ⟨n, rfl⟩; exact (hst.drewN n).get 2 rfl) ?_
        repeat (quiet_step (fail))
        refine wpQuiet_nil ?_
        rintro _ ⟨nq, rfl⟩
        go_wp2
        go_ret
        exact ⟨rfl, (hst.drewN nq).forget⟩
end Go.Proofs.Ytnofmbajgjmdfaa
