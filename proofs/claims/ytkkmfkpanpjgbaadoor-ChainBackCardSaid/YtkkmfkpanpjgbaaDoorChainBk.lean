/-
  Proved here: the contracts of a chain that is gone back: New, Kept, Next. Condition: the table of round constants stands.
-/
import Derived.Test.YtkkmfkpanpjgbaaDoorChainReach
import Derived.Test.YtkkmfkpanpjgbaaDoorLawC
set_option maxRecDepth 20000
set_option linter.unusedSimpArgs false
set_option linter.unusedVariables false
namespace Go.Proofs.YtkkmfkpanpjgbaaDoor
open Go.RowKit
attribute [local simp] prArr_size

section
variable {P : Program} {ops : Array Oper} {rest : List Oper} {o : Oper} {a : Act} {W : World} {Q : Exit → Act → World → Prop} {d : Option Tmp}
/-- 1, shifted up -/
theorem L_shl1 (hd : o.dst = d) (hw : Region.wanted o (yielded ops a.tmps) = true) {t t' : TypeId} {x y : Operand} (ho : o.op = .binOp .shl t x y t') {k' : IntKind} {c : Nat} (hx : a.eval x = .int .i64 1) (hy : a.eval y = .int k' ((c : Nat) : Int)) (hc : c ≤ 60)
    (h : wpList P ops Q rest (a.put d (.int .i64 ((2 ^ c : Nat) : Int))) W) : wpList P ops Q (o :: rest) a W := by
  refine L_val hd hw ?_ h
  unfold execOp
  simp only [ho, hx, hy]
  have hp : (2 : Nat) ^ c ≤ 2 ^ 60 := Nat.pow_le_pow_right (by decide) hc
  have h1 : (eqGuard .shl t x y (.int .i64 1) (.int k' (c : Int))).run P W = .ok () W := by simp [eqGuard]
  have h2 : (Go.binOp .shl t (.int .i64 1) (.int k' (c : Int))).run P W = .ok (.int .i64 ((2 ^ c : Nat) : Int)) W := by
    show (Op.shift .shl .i64 1 k' (c : Int)).run P W = _
    have hneg : ¬ (c : Int) < 0 := by omega
    have hm : min c (IntKind.bits .i64) = c := by simp only [IntKind.bits]; omega
    simp only [Op.shift, hneg, if_false, Int.toNat_natCast, hm, Sem.run_pure]
    have e : (1 : Int) * 2 ^ c = ((2 ^ c : Nat) : Int) := by simp
    rw [e]
    generalize 2 ^ c = z at *
    have hz : z ≤ 1152921504606846976 := hp
    have e2 : IntKind.wrap .i64 (z : Int) = (z : Int) := by
      have e3 : (z : Int) % (2 ^ 64 : Int) = (z : Int) := Int.emod_eq_of_lt (by omega) (by omega)
      simp only [IntKind.wrap, IntKind.bits, e3]
      rw [if_neg]
      simp
      intro _
      omega
    rw [e2]
  simp [h1, h2]
/-- 'Chain{kept: .., next: ..}' -/
theorem L_buildCh {T : TypeId} (hd : o.dst = d) (hw : Region.wanted o (yielded ops a.tmps) = true) {x y : Operand} (ho : o.op = .build T #[(0, x), (1, y)]) {f0 f1 : Field} (hu : P.underlying T = some (.struct #[f0, f1])) {z0 z1 : Value} {b0 b1 : Nat} (h0 : ElemIs P f0.type z0 1 b0) (h1 : ElemIs P f1.type z1 1 b1) (o0 : f0.offset = 0) (o1 : f1.offset = 1)
    {A' : Option Addr} {n' c' : Nat} {m' : Int} {b s : Nat} (he : ElemIs P T (.agg (chArr A' n' c' m')) s b) {A : Option Addr} {n c : Nat} {m : Int} (hx : a.eval x = .slice A n c) (hy : a.eval y = .int .i64 m)
    (h : wpList P ops Q rest (a.put d (.agg (chArr A n c m))) W) : wpList P ops Q (o :: rest) a W := by
  refine L_val hd hw ?_ h
  unfold execOp
  simp only [ho]
  simp [Instr.build, he.run_zero, run_underlying hu, Value.cells, hx, hy, h0.run_size, h1.run_size, o0, o1, Instr.fill, chArr]
end

theorem St.swapC {w0 W : World} {X Y L : List Res} (h : St w0 W (X ++ (Y ++ L))) : St w0 W (Y ++ (X ++ L)) :=
  h.perm (by
    rw [← List.append_assoc, ← List.append_assoc]
    exact (List.perm_append_comm).append_right L)
theorem keptP_zero (seed : Dig) : pairsL (keptP seed 0) = (prArr 0 seed).toList := by
  unfold keptP
  rw [posL_zero]
  exact pairsL_one 0 seed
theorem wrap_small {x : Int} (h1 : -1 ≤ x) (h2 : x ≤ 1025) : wrap64 x = x := by unfold wrap64; omega

set_option maxHeartbeats 4000000 in
set_option maxRecDepth 100000 in
theorem cnew_any (seed : Dig) (k : Nat) (w : World) (hT : Tb w) (hk : k ≤ 10) :
    Calls Tryd.prog 4 #[seed.v, .int .i64 (k : Int)] w fun e w' => ∃ g A c, e = .returned (.tuple #[.pointer (some ⟨g, 0, none⟩), .nilIface]) ∧ St w w' (Ch g seed (2 ^ k - 1) (2 ^ k - 1) A c) := by
  have hst := St.refl w
  have HT := Lib.hid hT
  have hp : 2 ^ k ≤ 1024 := Nat.pow_le_pow_right (n := 2) (by decide) hk
  have hp0 := Nat.two_pow_pos k
  have HR := Lib.hid (fun (g c : Nat) (A : Option Addr) (w0 w' : World) (ht : Tb w0) (L : List Res) (h : St w0 w' (.blk g 41 (chArr A 1 c ((2 ^ k - 1 : Nat) : Int)) :: .row A 1 c 38 33 (prArr 0 seed).toList :: L)) => by
    have := reach_any seed g c (2 ^ k - 1) k 0 A w0 w' L ht (by omega) (by omega)
    rw [Nat.mul_zero] at this
    exact this (by unfold Ch; rw [onesN_zero, keptP_zero]; exact h))
  obtain ⟨z, hz⟩ : ∃ z, z = 2 ^ k := ⟨_, rfl⟩
  have HZ := Lib.hid hz
  have HM := Lib.hid (show (z : Int) - 1 = ((z - 1 : Nat) : Int) by omega)
  rw [← hz] at HR hp hp0
  rw [← hz]
  have p1 : ¬ (k : Int) < 0 := by omega
  have e1 : decide ((k : Int) < 0) = false := decide_eq_false p1
  have p2 : ¬ (10 : Int) < (k : Int) := by omega
  clear hT hz
  go_enter Tryd.func4, Tryd.ntmps4
  go_upto_region 1 with (go_big_may; (refine L_boxA (d := some 2) rfl rfl rfl (ev_tmp rfl) ?_; (try clear hnew); intro g2 W2 hnew; replace hst := hst.trans hnew; simp only [List.cons_append, List.nil_append] at hst))
  go_upto_region 3 with (go_big_may; fail)
  refine wp_region_idx [(0, 0), (1, 0), (3, 0), (4, 0), (5, 0), (2, 2), (6, 2), (7, 2), (8, 2)] (by kernel_rfl) (by kernel_rfl) ?_
  replace hst := hst.drew
  refine idx_q rfl rfl ?_; go_wp2_with (((refine L_loadA (d := some 14) rfl rfl rfl (by rfl) Tryd.underlying23 rfl el_api_Digest (by (exact hst.get 0 rfl)) (by (exact Dig.size _)) ?_)))
  refine idx_q rfl rfl ?_; go_wp2_with ((refine L_buildP (d := some 15) rfl rfl rfl Tryd.underlying38 el_int el_api_Digest rfl rfl el_chain_pebble (prArr_size _ _) ev_const (ev_tmp rfl) ?_))
  refine idx_q rfl rfl ?_; go_wp2_with fail
  refine idx_q rfl rfl ?_; go_wp2_with ((refine L_shl1 (d := some 18) rfl rfl rfl ev_const (ev_tmp rfl) (by omega) ?_; rewrite [← HZ.out]))
  refine idx_q rfl rfl ?_; go_wp2_with fail
  refine idx_g rfl ?_; go_wp2_with ((refine L_buildS (d := some 16) rfl rfl rfl [_] (bs_1 (ev_tmp rfl)) rfl Tryd.underlying39 el_chain_pebble rfl (by (simp [Value.cells]; done)) (by decide) (by decide) ?_; (try clear hnew); intro g16 W16 hnew; replace hst := hst.trans hnew; simp only [List.cons_append, List.nil_append] at hst; simp only [List.flatMap_cons, List.flatMap_nil, List.append_nil, Value.cells, List.toList_toArray] at hst)); refine ⟨by (exact hnew.below), ?_⟩
  refine idx_g rfl ?_; go_wp2_with ((refine L_buildCh (d := some 20) rfl rfl rfl Tryd.underlying41 el_S_chain_pebble el_int rfl rfl el_chain_Chain (ev_tmp rfl) (ev_tmp rfl) ?_)); refine ⟨by (exact Below.refl _ _), ?_⟩
  refine idx_g rfl ?_; go_wp2_with ((refine L_boxA (d := some 21) rfl rfl rfl (ev_tmp rfl) ?_; (try clear hnew); intro g21 W21 hnew; replace hst := hst.trans hnew; simp only [List.cons_append, List.nil_append] at hst)); refine ⟨by (exact hnew.below), ?_⟩
  refine idx_g rfl ?_; go_wp2_with fail; refine ⟨by (exact Below.refl _ _), ?_⟩
  refine idx_nil ?_
  rewrite [HM.out] at hst
  (try clear hnew)
  go_upto_region 5 with (go_big_may; (go_at_call 10; refine (HR.out _ _ _ w _ HT.out _ hst).mono ?_; rintro e Wr ⟨rfl, A1, c1, hst'⟩; clear hst; have hst := hst'; clear hst'))
  go_wp2_with (fail)
  go_ret2
  refine ⟨g21, A1, c1, rfl, ?_⟩
  simp only [Ch, List.cons_append, List.nil_append] at hst ⊢
  exact hst.pick [0, 1] (by decide)

set_option maxHeartbeats 4000000 in
theorem cnew_no (seed : Dig) (k : Int) (w : World) (hk : k < 0 ∨ 10 < k) :
    Calls Tryd.prog 4 #[seed.v, .int .i64 k] w fun e w' => e = .returned (.tuple #[.pointer none, errV 2]) ∧ St w w' [] := by
  have hst := St.refl w
  by_cases c1 : k < 0
  · have e1 : decide (k < 0) = true := decide_eq_true c1
    go_enter Tryd.func4, Tryd.ntmps4
    go_upto_region 1 with (go_big_may; (refine L_boxA (d := some 2) rfl rfl rfl (ev_tmp rfl) ?_; (try clear hnew); intro g2 W2 hnew; replace hst := hst.trans hnew; simp only [List.cons_append, List.nil_append] at hst))
    go_upto_region 2 with (first | (with_reducible refine L_pass (t := 10) rfl (by kernel_rfl) ?_) | (with_reducible refine L_pass (t := 11) rfl (by kernel_rfl) ?_))
    go_wp2_with (fail)
    go_ret2
    exact ⟨rfl, hst.forget⟩
  · have e1 : decide (k < 0) = false := decide_eq_false c1
    have c2 : 10 < k := by omega
    go_enter Tryd.func4, Tryd.ntmps4
    go_upto_region 1 with (go_big_may; (refine L_boxA (d := some 2) rfl rfl rfl (ev_tmp rfl) ?_; (try clear hnew); intro g2 W2 hnew; replace hst := hst.trans hnew; simp only [List.cons_append, List.nil_append] at hst))
    go_upto_region 2 with (go_big_may; fail)
    go_wp2_with (fail)
    go_ret2
    exact ⟨rfl, hst.forget⟩

theorem ckept_any (g n c : Nat) (A : Option Addr) (M : Int) (w0 w : World) (L : List Res) (hst : St w0 w (.blk g 41 (chArr A n c M) :: L)) :
    Calls Tryd.prog 6 #[.pointer (some ⟨g, 0, none⟩)] w fun e w' => e = .returned (.int .i64 (n : Int)) ∧ St w0 w' (.blk g 41 (chArr A n c M) :: L) := by
  go_enter Tryd.func6, Tryd.ntmps6
  go_upto_region 1 with (go_big_may; fail)
  go_wp2_with ((refine L_load1 (d := some 6) rfl rfl rfl (by rfl) Tryd.underlying39 rfl (by (exact cell_of (hst.get 0 rfl) chArr_0)) ?_))
  go_ret
  exact ⟨rfl, hst⟩

set_option maxHeartbeats 4000000 in
set_option maxRecDepth 100000 in
theorem cnext_none (g c : Nat) (A : Option Addr) (M : Int) (w0 w : World) (L : List Res) (hst : St w0 w (.blk g 41 (chArr A 0 c M) :: L)) :
    Calls Tryd.prog 7 #[.pointer (some ⟨g, 0, none⟩)] w fun e w' => e = .returned (.tuple #[zeroD.v, errV 6]) ∧ St w0 w' (.blk g 41 (chArr A 0 c M) :: L) := by
  go_enter Tryd.func7, Tryd.ntmps7
  go_upto_region 1 with (go_big_may; (refine L_allocA (d := some 2) rfl rfl rfl el_api_Digest ?_; (try clear hnew); intro g2 W2 hnew; replace hst := hst.trans hnew; simp only [List.cons_append, List.nil_append] at hst))
  go_upto_region 2 with (go_big_may; (refine L_load1 (d := some 8) rfl rfl rfl (by rfl) Tryd.underlying39 rfl (by (exact cell_of (hst.get 1 rfl) chArr_0)) ?_))
  go_wp2_with (first | (refine L_build0 (d := some 11) rfl rfl rfl Tryd.underlying23 el_uint8 el_api_Digest ?_) | (refine wpl_at (.store 23 (.tmp 2) (.tmp 11)) rfl ?_; (refine L_storeA rfl rfl hst rfl (by rfl) (ev_tmp rfl) (by (exact Dig.one _)) el_api_Digest (by (rfl)) 0 rfl (by (rfl)) ?_; clear hst; intro WS2 hst; simp only [List.set_cons_zero, List.set_cons_succ] at hst)))
  refine bp_cell_tmp rfl rfl rfl rfl (hst.get 0 rfl) Tryd.underlying23 rfl el_api_Digest (by (rfl)) ?_
  exact ⟨rfl, hst.tail⟩

set_option maxHeartbeats 4000000 in
set_option maxRecDepth 100000 in
theorem cnext_last (seed : Dig) (g c : Nat) (A : Option Addr) (w0 w : World) (L : List Res) (hst : St w0 w (Ch g seed 0 0 A c ++ L)) :
    Calls Tryd.prog 7 #[.pointer (some ⟨g, 0, none⟩)] w fun e w' => e = .returned (.tuple #[seed.v, .nilIface]) ∧ ∃ A' c', St w0 w' (.blk g 41 (chArr A' 0 c' (-1)) :: L) := by
  simp only [Ch, List.cons_append, List.nil_append, onesN_zero, Nat.zero_add, keptP_zero] at hst
  go_enter Tryd.func7, Tryd.ntmps7
  have hc' : 1 ≤ c := (hst.sl 1 rfl).2.1
  have HP := Lib.hid (show (((prArr 0 seed).toList).drop ((0 : Int).toNat * 33)).take 33 = (prArr 0 seed).toList by rw [show (0 : Int).toNat * 33 = 0 from rfl, List.drop_zero, List.take_of_length_le (by rw [Array.length_toList, prArr_size]; exact Nat.le_refl _)])
  go_upto_region 1 with (go_big_may; (refine L_allocA (d := some 2) rfl rfl rfl el_api_Digest ?_; (try clear hnew); intro g2 W2 hnew; replace hst := hst.trans hnew; simp only [List.cons_append, List.nil_append] at hst))
  go_upto_region 3 with (go_big_may; (refine L_load1 (d := some 8) rfl rfl rfl (by rfl) Tryd.underlying39 rfl (by (exact cell_of (hst.get 1 rfl) chArr_0)) ?_))
  refine wp_region_idx [(0, 0), (1, 0), (2, 0), (3, 0), (4, 0), (5, 0), (6, 0), (7, 0), (8, 0), (9, 0), (10, 0), (11, 0), (12, 2), (13, 1)] (by kernel_rfl) (by kernel_rfl) ?_
  replace hst := hst.drew
  refine idx_q rfl rfl ?_; go_wp2_with fail
  refine idx_q rfl rfl ?_; go_wp2_with fail
  refine idx_qf rfl rfl (by kernel_rfl) ?_; go_wp2_with fail
  refine idx_q rfl rfl ?_; go_wp2_with ((refine L_load1 (d := some 16) rfl rfl rfl (by rfl) Tryd.underlying39 rfl (by (exact cell_of (hst.get 1 rfl) chArr_0)) ?_))
  refine idx_q rfl rfl ?_; go_wp2_with fail
  refine idx_q rfl rfl ?_; go_wp2_with fail
  refine idx_qf rfl rfl (by kernel_rfl) ?_; go_wp2_with fail
  refine idx_q rfl rfl ?_; go_wp2_with ((refine L_load1 (d := some 20) rfl rfl rfl (by rfl) Tryd.underlying39 rfl (by (exact cell_of (hst.get 1 rfl) chArr_0)) ?_))
  refine idx_q rfl rfl ?_; go_wp2_with (fail)
  refine idx_q rfl rfl ?_; go_wp2_with fail
  refine idx_q rfl rfl ?_; go_wp2_with ((refine L_idxS (d := some 23) rfl rfl rfl (by rfl) (by rfl) Tryd.underlying39 el_chain_pebble (by (exact hst.sl 2 rfl)) (by omega) (by omega) ?_; intro o23 p23 ha23 hr23; ((subst ha23))))
  refine idx_q rfl rfl ?_; go_wp2_with ((refine L_loadM (d := some 24) rfl rfl rfl (by rfl) Tryd.underlying38 rfl el_chain_pebble (cs := prArr 0 seed) (by rw [← HP.out]; exact hr23) (prArr_size _ _) ?_))
  refine idx_g rfl ?_; go_wp2_with ((refine L_allocA (d := some 4) rfl rfl rfl el_chain_pebble ?_; (try clear hnew); intro g4 W4 hnew; replace hst := hst.trans hnew; simp only [List.cons_append, List.nil_append] at hst)); refine ⟨by (exact hnew.below), ?_⟩
  refine idx_e rfl ?_; go_wp2_with ((refine wpl_at (.store 38 (.tmp 4) (.tmp 24)) rfl ?_; (refine L_storeA rfl rfl hst rfl (by rfl) (ev_tmp rfl) (by (exact prArr_all _ _)) el_chain_pebble (by (exact prArr_size _ _)) 0 rfl (by (rfl)) ?_; clear hst; intro WS13 hst; simp only [List.set_cons_zero, List.set_cons_succ] at hst)))
  refine idx_nil ?_
  (try clear hnew)
  go_upto_region 4 with fail
  refine wp_region_idx [(0, 0), (1, 0), (2, 0), (3, 0), (4, 0), (5, 2), (6, 2), (7, 2), (8, 2), (9, 2), (10, 2), (11, 2), (12, 2), (13, 2), (14, 1)] (by kernel_rfl) (by kernel_rfl) ?_
  replace hst := hst.drew
  refine idx_q rfl rfl ?_; go_wp2_with fail
  refine idx_q rfl rfl ?_; go_wp2_with fail
  refine idx_q rfl rfl ?_; go_wp2_with fail
  refine idx_qf rfl rfl (by kernel_rfl) ?_; go_wp2_with fail
  refine idx_q rfl rfl ?_; go_wp2_with ((refine L_load1 (d := some 29) rfl rfl rfl (by rfl) Tryd.underlying39 rfl (by (exact cell_of (hst.get 2 rfl) chArr_0)) ?_))
  refine idx_g rfl ?_; go_wp2_with fail; refine ⟨by (exact Below.refl _ _), ?_⟩
  refine idx_g rfl ?_; go_wp2_with fail; refine ⟨by (exact Below.refl _ _), ?_⟩
  refine idx_g rfl ?_; go_wp2_with fail; refine ⟨by (exact Below.refl _ _), ?_⟩
  refine idx_g rfl ?_; go_wp2_with ((refine L_load1 (d := some 33) rfl rfl rfl (by rfl) Tryd.underlying39 rfl (by (exact cell_of (hst.get 2 rfl) chArr_0)) ?_)); refine ⟨by (exact Below.refl _ _), ?_⟩
  refine idx_g rfl ?_; go_wp2_with fail; refine ⟨by (exact Below.refl _ _), ?_⟩
  refine idx_g rfl ?_; go_wp2_with fail; refine ⟨by (exact Below.refl _ _), ?_⟩
  refine idx_g rfl ?_; go_wp2_with (fail); refine ⟨by (exact Below.refl _ _), ?_⟩
  refine idx_g rfl ?_; go_wp2_with fail; refine ⟨by (exact Below.refl _ _), ?_⟩
  refine idx_g rfl ?_; go_wp2_with fail; refine ⟨by (exact Below.refl _ _), ?_⟩
  refine idx_e rfl ?_; go_wp2_with ((refine wpl_at (.store 39 (.tmp 38) (.tmp 36)) rfl ?_; (refine L_store1 rfl rfl hst rfl (by rfl) (ev_tmp rfl) rfl el_S_chain_pebble 2 rfl (by (exact of_decide_eq_true rfl)) ?_; clear hst; intro WS14 hst; simp only [List.set_cons_zero, List.set_cons_succ, chArr_s0] at hst)))
  refine idx_nil ?_
  go_upto_region 6 with (go_big_may; first | (refine L_load1 (d := some 42) rfl rfl rfl (by rfl) Tryd.underlying3 rfl (by (exact cell_of (hst.get 2 rfl) chArr_1)) ?_) | (refine wpl_at (.store 3 (.tmp 45) (.tmp 43)) rfl ?_; (refine L_store1 rfl rfl hst rfl (by rfl) (ev_tmp rfl) rfl el_int 2 rfl (by (exact of_decide_eq_true rfl)) ?_; clear hst; intro WS7 hst; simp only [List.set_cons_zero, List.set_cons_succ, chArr_s1] at hst)))
  go_upto_region 8 with (go_big_may; (refine L_load1 (d := some 49) rfl rfl rfl (by rfl) Tryd.underlying39 rfl (by (exact cell_of (hst.get 2 rfl) chArr_0)) ?_))
  go_wp2_with (first | ((refine L_loadM (d := some 55) rfl rfl rfl (by rfl) Tryd.underlying23 rfl el_api_Digest (by (exact prArr_range (hst.get 0 rfl))) (by (exact Dig.size _)) ?_)) | (refine wpl_at (.store 23 (.tmp 2) (.tmp 55)) rfl ?_; (refine L_storeA rfl rfl hst rfl (by rfl) (ev_tmp rfl) (by (exact Dig.one _)) el_api_Digest (by (exact Dig.size _)) 1 rfl (by (rfl)) ?_; clear hst; intro WS2 hst; simp only [List.set_cons_zero, List.set_cons_succ] at hst)))
  refine bp_cell_tmp rfl rfl rfl rfl (hst.get 1 rfl) Tryd.underlying23 rfl el_api_Digest (by (exact Dig.size _)) ?_
  exact ⟨rfl, _, _, hst.drop (.cons _ (.cons _ (.cons_cons _ (.cons _ (List.Sublist.refl L)))))⟩

theorem keptP_cut {seed : Dig} {N m : Nat} (h0 : N ≠ 0) (hm : N - lowN N = m) : ∃ l, pairsL (keptP seed N) = l ++ (prArr (N : Int) (walkN seed N)).toList ∧ l = pairsL (keptP seed m) ∧ l.length = (onesN m + 1) * 33 ∧ onesN N = onesN m + 1 := by
  refine ⟨pairsL (keptP seed m), ?_, rfl, by rw [length_pairsL, length_keptP], by rw [onesN_low N h0, hm]⟩
  unfold keptP
  rw [posL_pos h0, hm, List.map_append, pairsL_app]
  congr 1
  exact pairsL_one (N : Int) (walkN seed N)

set_option maxHeartbeats 8000000 in
set_option maxRecDepth 100000 in
theorem cnext_mid (seed : Dig) (g N c : Nat) (A : Option Addr) (w0 w : World) (L : List Res) (hT : Tb w0) (h0 : N ≠ 0) (hN : N ≤ 1023) (hst : St w0 w (Ch g seed N N A c ++ L)) :
    Calls Tryd.prog 7 #[.pointer (some ⟨g, 0, none⟩)] w fun e w' => e = .returned (.tuple #[(walkN seed N).v, .nilIface]) ∧ ∃ A' c', St w0 w' (Ch g seed (N - 1) (N - 1) A' c' ++ L) := by
  obtain ⟨z, q, z1, z2, z3, z4, p, z5⟩ := low_split N h0
  have HT := Lib.hid hT
  have HR := Lib.hid (fun (c : Nat) (A : Option Addr) (w' : World) (L : List Res) (h : St w0 w' (Ch g seed (2 ^ z * q) (N - 1) A c ++ L)) => reach_any seed g c (N - 1) z q A w0 w' L hT z4.symm (by omega) h)
  obtain ⟨l, k1, k2, k3, k4⟩ := keptP_cut (seed := seed) h0 z2
  obtain ⟨r, hr⟩ : ∃ r, r = onesN (2 ^ z * q) + 1 := ⟨_, rfl⟩
  unfold Ch at HR
  rw [← hr, ← k2] at HR
  simp only [Ch, List.cons_append, List.nil_append] at hst HR ⊢
  rw [k4, k1, ← hr] at hst
  rw [← hr] at k3
  have hr10 : 1 ≤ r ∧ r ≤ 11 := by
    have := onesN_bits 10 N (by omega)
    omega
  have HNm := Lib.hid (show (N : Int) - 1 = ((N - 1 : Nat) : Int) by omega)
  obtain ⟨d, hd⟩ : ∃ d, d = walkN seed N := ⟨_, rfl⟩
  rw [← hd] at hst ⊢
  have HP := Lib.hid (show ((l ++ (prArr (N : Int) d).toList).drop ((r : Int).toNat * 33)).take 33 = (prArr (N : Int) d).toList by
    rw [show (r : Int).toNat * 33 = l.length by rw [k3]; simp, List.drop_left' rfl, List.take_of_length_le (by rw [Array.length_toList, prArr_size]; exact Nat.le_refl _)])
  have HTk := Lib.hid (show (l ++ (prArr (N : Int) d).toList).take (r * 33) = l from List.take_left' k3)
  have hc' : r + 1 ≤ c := (hst.sl 1 rfl).2.1
  have hl0 : ((r : Int) + 1 == 0) = false := by rw [beq_eq_false_iff_ne]; omega
  have hl1 : (0 : Int) < (r : Int) := by omega
  have hN0 : 1 ≤ (N : Int) := by omega
  clear hT z1 z2 z3 z4 z5 k1 k2 k3 k4 hr hd h0
  go_enter Tryd.func7, Tryd.ntmps7
  go_upto_region 1 with (go_big_may; (refine L_allocA (d := some 2) rfl rfl rfl el_api_Digest ?_; (try clear hnew); intro g2 W2 hnew; replace hst := hst.trans hnew; simp only [List.cons_append, List.nil_append] at hst))
  go_upto_region 3 with (go_big_may; (refine L_load1 (d := some 8) rfl rfl rfl (by rfl) Tryd.underlying39 rfl (by (exact cell_of (hst.get 1 rfl) chArr_0)) ?_))
  refine wp_region_idx [(0, 0), (1, 0), (2, 0), (3, 0), (4, 0), (5, 0), (6, 0), (7, 0), (8, 0), (9, 0), (10, 0), (11, 0), (12, 2), (13, 1)] (by kernel_rfl) (by kernel_rfl) ?_
  replace hst := hst.drew
  refine idx_q rfl rfl ?_; go_wp2_with fail
  refine idx_q rfl rfl ?_; go_wp2_with fail
  refine idx_qf rfl rfl (by kernel_rfl) ?_; go_wp2_with fail
  refine idx_q rfl rfl ?_; go_wp2_with ((refine L_load1 (d := some 16) rfl rfl rfl (by rfl) Tryd.underlying39 rfl (by (exact cell_of (hst.get 1 rfl) chArr_0)) ?_))
  refine idx_q rfl rfl ?_; go_wp2_with fail
  refine idx_q rfl rfl ?_; go_wp2_with fail
  refine idx_qf rfl rfl (by kernel_rfl) ?_; go_wp2_with fail
  refine idx_q rfl rfl ?_; go_wp2_with ((refine L_load1 (d := some 20) rfl rfl rfl (by rfl) Tryd.underlying39 rfl (by (exact cell_of (hst.get 1 rfl) chArr_0)) ?_))
  refine idx_q rfl rfl ?_; go_wp2_with (fail)
  refine idx_q rfl rfl ?_; go_wp2_with fail
  refine idx_q rfl rfl ?_; go_wp2_with ((refine L_idxS (d := some 23) rfl rfl rfl (by rfl) (by rfl) Tryd.underlying39 el_chain_pebble (by (exact hst.sl 2 rfl)) (by omega) (by omega) ?_; intro o23 p23 ha23 hr23; ((subst ha23))))
  refine idx_q rfl rfl ?_; go_wp2_with ((refine L_loadM (d := some 24) rfl rfl rfl (by rfl) Tryd.underlying38 rfl el_chain_pebble (cs := prArr (N : Int) d) (by rw [← HP.out]; exact hr23) (prArr_size _ _) ?_))
  refine idx_g rfl ?_; go_wp2_with ((refine L_allocA (d := some 4) rfl rfl rfl el_chain_pebble ?_; (try clear hnew); intro g4 W4 hnew; replace hst := hst.trans hnew; simp only [List.cons_append, List.nil_append] at hst)); refine ⟨by (exact hnew.below), ?_⟩
  refine idx_e rfl ?_; go_wp2_with ((refine wpl_at (.store 38 (.tmp 4) (.tmp 24)) rfl ?_; (refine L_storeA rfl rfl hst rfl (by rfl) (ev_tmp rfl) (by (exact prArr_all _ _)) el_chain_pebble (by (exact prArr_size _ _)) 0 rfl (by (rfl)) ?_; clear hst; intro WS13 hst; simp only [List.set_cons_zero, List.set_cons_succ] at hst)))
  refine idx_nil ?_
  (try clear hnew)
  go_upto_region 4 with fail
  refine wp_region_idx [(0, 0), (1, 0), (2, 0), (3, 0), (4, 0), (5, 2), (6, 2), (7, 2), (8, 2), (9, 2), (10, 2), (11, 2), (12, 2), (13, 2), (14, 1)] (by kernel_rfl) (by kernel_rfl) ?_
  replace hst := hst.drew
  refine idx_q rfl rfl ?_; go_wp2_with fail
  refine idx_q rfl rfl ?_; go_wp2_with fail
  refine idx_q rfl rfl ?_; go_wp2_with fail
  refine idx_qf rfl rfl (by kernel_rfl) ?_; go_wp2_with fail
  refine idx_q rfl rfl ?_; go_wp2_with ((refine L_load1 (d := some 29) rfl rfl rfl (by rfl) Tryd.underlying39 rfl (by (exact cell_of (hst.get 2 rfl) chArr_0)) ?_))
  refine idx_g rfl ?_; go_wp2_with fail; refine ⟨by (exact Below.refl _ _), ?_⟩
  refine idx_g rfl ?_; go_wp2_with fail; refine ⟨by (exact Below.refl _ _), ?_⟩
  refine idx_g rfl ?_; go_wp2_with fail; refine ⟨by (exact Below.refl _ _), ?_⟩
  refine idx_g rfl ?_; go_wp2_with ((refine L_load1 (d := some 33) rfl rfl rfl (by rfl) Tryd.underlying39 rfl (by (exact cell_of (hst.get 2 rfl) chArr_0)) ?_)); refine ⟨by (exact Below.refl _ _), ?_⟩
  refine idx_g rfl ?_; go_wp2_with fail; refine ⟨by (exact Below.refl _ _), ?_⟩
  refine idx_g rfl ?_; go_wp2_with fail; refine ⟨by (exact Below.refl _ _), ?_⟩
  refine idx_g rfl ?_; go_wp2_with (((refine L_cutO (d := some 36) rfl rfl hst rfl (by rfl) Tryd.underlying39 el_chain_pebble 3 rfl (by (rfl)) 0 r _ (Or.inl ⟨rfl, rfl⟩) (Or.inr ⟨_, _, rfl, by (exact ev_tmp rfl)⟩) (Or.inl ⟨rfl, rfl⟩) (by omega) (by omega) (by omega) (by omega) ?_; clear hst; intro A36 c36 hst; simp only [List.set_cons_zero, List.set_cons_succ, chArr_s0, HTk.out] at hst))); refine ⟨by (exact Below.refl _ _), ?_⟩
  refine idx_g rfl ?_; go_wp2_with fail; refine ⟨by (exact Below.refl _ _), ?_⟩
  refine idx_g rfl ?_; go_wp2_with fail; refine ⟨by (exact Below.refl _ _), ?_⟩
  refine idx_e rfl ?_; go_wp2_with ((refine wpl_at (.store 39 (.tmp 38) (.tmp 36)) rfl ?_; (refine L_store1 rfl rfl hst rfl (by rfl) (ev_tmp rfl) rfl el_S_chain_pebble 2 rfl (by (exact of_decide_eq_true rfl)) ?_; clear hst; intro WS14 hst; simp only [List.set_cons_zero, List.set_cons_succ, chArr_s0, HTk.out] at hst)))
  refine idx_nil ?_
  go_upto_region 6 with (go_big_may; first | (refine L_load1 (d := some 42) rfl rfl rfl (by rfl) Tryd.underlying3 rfl (by (exact cell_of (hst.get 2 rfl) chArr_1)) ?_) | (refine wpl_at (.store 3 (.tmp 45) (.tmp 43)) rfl ?_; (refine L_store1 rfl rfl hst rfl (by rfl) (ev_tmp rfl) rfl el_int 2 rfl (by (exact of_decide_eq_true rfl)) ?_; clear hst; intro WS7 hst; simp only [List.set_cons_zero, List.set_cons_succ, chArr_s1] at hst)))
  go_upto_region 7 with (go_big_may; (refine L_load1 (d := some 49) rfl rfl rfl (by rfl) Tryd.underlying39 rfl (by (exact cell_of (hst.get 2 rfl) chArr_0)) ?_))
  rewrite [Nat.sub_zero, Nat.zero_mul, List.drop_zero, HTk.out, HNm.out] at hst
  replace hst := St.swapC (X := [_, _]) (Y := [_, _]) (L := L) hst
  go_upto_region 8 with (go_big_may; (go_at_call 10; refine (HR.out _ _ _ _ hst).mono ?_; rintro e Wr ⟨rfl, A1, c1, hst'⟩; clear hst; have hst := hst'; clear hst'))
  simp only [List.cons_append, List.nil_append] at hst
  go_wp2_with (first | ((refine L_loadM (d := some 55) rfl rfl rfl (by rfl) Tryd.underlying23 rfl el_api_Digest (by (exact prArr_range (hst.get 2 rfl))) (by (exact Dig.size _)) ?_)) | (refine wpl_at (.store 23 (.tmp 2) (.tmp 55)) rfl ?_; (refine L_storeA rfl rfl hst rfl (by rfl) (ev_tmp rfl) (by (exact Dig.one _)) el_api_Digest (by (exact Dig.size _)) 3 rfl (by (rfl)) ?_; clear hst; intro WS2 hst; simp only [List.set_cons_zero, List.set_cons_succ] at hst)))
  refine bp_cell_tmp rfl rfl rfl rfl (hst.get 3 rfl) Tryd.underlying23 rfl el_api_Digest (by (exact Dig.size _)) ?_
  exact ⟨rfl, A1, c1, hst.drop (.cons_cons _ (.cons_cons _ (.cons _ (.cons _ (List.Sublist.refl L)))))⟩
end Go.Proofs.YtkkmfkpanpjgbaaDoor
