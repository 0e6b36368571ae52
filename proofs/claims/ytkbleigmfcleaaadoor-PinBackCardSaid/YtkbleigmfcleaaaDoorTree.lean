/-
  Proved here: the contracts of a tree's functions: Half, Node, Root. Condition: at most 256 leaves, where it matters.
-/
import Derived.Test.YtkbleigmfcleaaaDoorChain
import Derived.Test.YtkbleigmfcleaaaDoorShelf
set_option maxRecDepth 20000
set_option linter.unusedSimpArgs false
set_option linter.unusedVariables false
namespace Go.Proofs.YtkbleigmfcleaaaDoor
open Go.RowKit

/-! ## the plain tree -/
def nodeN (l r : Dig) : Dig := ofN 1 [l, r]
/-- the greatest power of 2 below a number above 1 -/
def halfN (n : Nat) : Nat := 2 ^ Nat.log2 (n - 1)
theorem halfN_pos (n : Nat) : 0 < halfN n := Nat.two_pow_pos _
theorem halfN_lt (n : Nat) (h : 2 ≤ n) : halfN n < n := by
  have := Nat.log2_self_le (n := n - 1) (by omega)
  unfold halfN
  omega
theorem halfN_of {k n : Nat} (j : Nat) (hj : k = 2 ^ j) (h1 : k < n) (h2 : n ≤ 2 * k) : halfN n = k := by
  subst hj
  unfold halfN
  have : Nat.log2 (n - 1) = j := by
    have h3 : n - 1 ≠ 0 := by have := Nat.two_pow_pos j; omega
    rw [Nat.log2_eq_iff h3, Nat.pow_succ]
    omega
  rw [this]
/-- the root of leaves -/
def rootN (ls : List Dig) : Dig :=
  if _h : ls.length < 2 then
    match ls with
    | [] => sha []
    | d :: _ => d
  else nodeN (rootN (ls.take (halfN ls.length))) (rootN (ls.drop (halfN ls.length)))
termination_by ls.length
decreasing_by
  · have := halfN_lt ls.length (by omega)
    rw [List.length_take]
    omega
  · have := halfN_pos ls.length
    rw [List.length_drop]
    omega
theorem rootN_nil : rootN [] = sha [] := by rw [rootN]; rfl
theorem rootN_one (d : Dig) : rootN [d] = d := by rw [rootN]; rfl
theorem rootN_more (ls : List Dig) (h : 2 ≤ ls.length) : rootN ls = nodeN (rootN (ls.take (halfN ls.length))) (rootN (ls.drop (halfN ls.length))) := by
  rw [rootN, dif_neg (by omega)]
theorem digsL_cut (ls : List Dig) (lo n : Nat) : ((digsL ls).drop (lo * 32)).take (n * 32) = digsL ((ls.drop lo).take n) := by
  have hd : ∀ (l : List Dig) (k : Nat), (digsL l).drop (k * 32) = digsL (l.drop k) := fun l k => by
    induction k generalizing l with
    | zero => simp
    | succ k ih =>
      cases l with
      | nil => simp [digsL]
      | cons d l =>
        have h : digsL (d :: l) = bytesL d.l ++ digsL l := by simp [digsL]
        have e : (k + 1) * 32 = (bytesL d.l).length + k * 32 := by rw [length_bytesL, d.h]; omega
        rw [h, e, ← List.drop_drop, List.drop_left, ih]
        rfl
  have ht : ∀ (l : List Dig) (k : Nat), (digsL l).take (k * 32) = digsL (l.take k) := fun l k => by
    induction k generalizing l with
    | zero => simp [digsL]
    | succ k ih =>
      cases l with
      | nil => simp [digsL]
      | cons d l =>
        have h : ∀ l, digsL (d :: l) = bytesL d.l ++ digsL l := fun l => by simp [digsL]
        have e : (k + 1) * 32 = (bytesL d.l).length + k * 32 := by rw [length_bytesL, d.h]; omega
        rw [h, e, List.take_length_add_append, ih, List.take_succ_cons, h]
  rw [hd, ht]

/-! ## numbers: the bits of a number below 256 -/

set_option maxHeartbeats 1000000 in
theorem node_any (l r : Dig) (w : World) (hT : Tb w) : Calls Tryd.prog 100 #[l.v, r.v] w fun e w' => e = .returned (nodeN l r).v ∧ St w w' [] := by
  have hst := St.refl w
  have HT := Lib.hid hT
  have hd : digsL [l, r] = l.arr.toList ++ r.arr.toList := by simp [digsL, Dig.toList]
  have HD := Lib.hid hd
  clear hT hd
  go_enter Tryd.func100, Tryd.ntmps100
  go_wp2_with (first
    | (go_at_call 47; (try clear hnew); refine (of_any 1 [l, r] _ _ _ _ (HT.out.of hst) (by rw [HD.out]; exact hst.sl 0 rfl) (by decide)).mono ?_; rintro e W8 ⟨rfl, hnew⟩; replace hst := hst.keep hnew)
    | (refine L_boxA (d := some 2) rfl rfl rfl (ev_tmp rfl) ?_; (try clear hnew); intro g2 W2 hnew; replace hst := hst.trans hnew; simp only [List.cons_append, List.nil_append] at hst)
    | (refine L_boxA (d := some 3) rfl rfl rfl (ev_tmp rfl) ?_; (try clear hnew); intro g3 W3 hnew; replace hst := hst.trans hnew; simp only [List.cons_append, List.nil_append] at hst)
    | (refine L_allocA (d := some 4) rfl rfl rfl el_api_Digest ?_; (try clear hnew); intro g4 W4 hnew; replace hst := hst.trans hnew; simp only [List.cons_append, List.nil_append] at hst)
    | (first | (refine L_loadA (d := some 5) rfl rfl rfl (by rfl) Tryd.underlying23 rfl el_api_Digest (by first | exact hst.get 0 rfl | exact hst.get 1 rfl | exact hst.get 2 rfl | exact hst.get 3 rfl | exact hst.get 4 rfl | exact hst.get 5 rfl) (by first | rfl | exact Dig.size _ | (simp; done)) ?_) | (refine L_loadM (d := some 5) rfl rfl rfl (by rfl) Tryd.underlying23 rfl el_api_Digest (by first | assumption) (by first | rfl | exact Dig.size _ | (simp; done)) ?_))
    | (first | (refine L_loadA (d := some 6) rfl rfl rfl (by rfl) Tryd.underlying23 rfl el_api_Digest (by first | exact hst.get 0 rfl | exact hst.get 1 rfl | exact hst.get 2 rfl | exact hst.get 3 rfl | exact hst.get 4 rfl | exact hst.get 5 rfl) (by first | rfl | exact Dig.size _ | (simp; done)) ?_) | (refine L_loadM (d := some 6) rfl rfl rfl (by rfl) Tryd.underlying23 rfl el_api_Digest (by first | assumption) (by first | rfl | exact Dig.size _ | (simp; done)) ?_))
    | (refine L_buildS (d := some 7) rfl rfl rfl [_, _] (bs_2 (ev_tmp rfl) (ev_tmp rfl)) rfl Tryd.underlying74 el_api_Digest rfl (by first | (simp [Value.cells]; done) | (simp [Value.cells, Dig.size]; done)) (by decide) (by decide) ?_; (try clear hnew); intro g7 W7 hnew; replace hst := hst.trans hnew; simp only [List.cons_append, List.nil_append] at hst; simp only [List.flatMap_cons, List.flatMap_nil, List.append_nil, Value.cells, List.toList_toArray] at hst)
    | (refine wpl_at (.store 23 (.tmp 4) (.tmp 8)) rfl ?_; first | (refine L_storeA rfl rfl hst rfl (by rfl) (ev_tmp rfl) (by first | rfl | exact Dig.one _ | (simp; done)) el_api_Digest (by first | rfl | exact Dig.size _ | (simp; done)) 0 rfl (by first | rfl | exact Dig.size _ | (simp; done)) ?_; clear hst; intro WS4 hst; simp only [List.set_cons_zero, List.set_cons_succ] at hst) | (refine L_storeA rfl rfl hst rfl (by rfl) (ev_tmp rfl) (by first | rfl | exact Dig.one _ | (simp; done)) el_api_Digest (by first | rfl | exact Dig.size _ | (simp; done)) 1 rfl (by first | rfl | exact Dig.size _ | (simp; done)) ?_; clear hst; intro WS4 hst; simp only [List.set_cons_zero, List.set_cons_succ] at hst) | (refine L_storeA rfl rfl hst rfl (by rfl) (ev_tmp rfl) (by first | rfl | exact Dig.one _ | (simp; done)) el_api_Digest (by first | rfl | exact Dig.size _ | (simp; done)) 2 rfl (by first | rfl | exact Dig.size _ | (simp; done)) ?_; clear hst; intro WS4 hst; simp only [List.set_cons_zero, List.set_cons_succ] at hst) | (refine L_storeA rfl rfl hst rfl (by rfl) (ev_tmp rfl) (by first | rfl | exact Dig.one _ | (simp; done)) el_api_Digest (by first | rfl | exact Dig.size _ | (simp; done)) 3 rfl (by first | rfl | exact Dig.size _ | (simp; done)) ?_; clear hst; intro WS4 hst; simp only [List.set_cons_zero, List.set_cons_succ] at hst) | (refine L_storeA rfl rfl hst rfl (by rfl) (ev_tmp rfl) (by first | rfl | exact Dig.one _ | (simp; done)) el_api_Digest (by first | rfl | exact Dig.size _ | (simp; done)) 4 rfl (by first | rfl | exact Dig.size _ | (simp; done)) ?_; clear hst; intro WS4 hst; simp only [List.set_cons_zero, List.set_cons_succ] at hst) | (refine L_storeA rfl rfl hst rfl (by rfl) (ev_tmp rfl) (by first | rfl | exact Dig.one _ | (simp; done)) el_api_Digest (by first | rfl | exact Dig.size _ | (simp; done)) 5 rfl (by first | rfl | exact Dig.size _ | (simp; done)) ?_; clear hst; intro WS4 hst; simp only [List.set_cons_zero, List.set_cons_succ] at hst) | (refine L_storeM rfl rfl hst rfl (by rfl) (ev_tmp rfl) (by first | rfl | exact Dig.one _ | (simp; done)) el_api_Digest (by first | rfl | exact Dig.size _ | (simp; done)) 0 rfl (by first | exact of_decide_eq_true rfl | (simp; done)) ?_; clear hst; intro WS4 hst; simp only [List.set_cons_zero, List.set_cons_succ] at hst)  | (refine L_storeM rfl rfl hst rfl (by rfl) (ev_tmp rfl) (by first | rfl | exact Dig.one _ | (simp; done)) el_api_Digest (by first | rfl | exact Dig.size _ | (simp; done)) 1 rfl (by first | exact of_decide_eq_true rfl | (simp; done)) ?_; clear hst; intro WS4 hst; simp only [List.set_cons_zero, List.set_cons_succ] at hst)  | (refine L_storeM rfl rfl hst rfl (by rfl) (ev_tmp rfl) (by first | rfl | exact Dig.one _ | (simp; done)) el_api_Digest (by first | rfl | exact Dig.size _ | (simp; done)) 2 rfl (by first | exact of_decide_eq_true rfl | (simp; done)) ?_; clear hst; intro WS4 hst; simp only [List.set_cons_zero, List.set_cons_succ] at hst)  | (refine L_storeM rfl rfl hst rfl (by rfl) (ev_tmp rfl) (by first | rfl | exact Dig.one _ | (simp; done)) el_api_Digest (by first | rfl | exact Dig.size _ | (simp; done)) 3 rfl (by first | exact of_decide_eq_true rfl | (simp; done)) ?_; clear hst; intro WS4 hst; simp only [List.set_cons_zero, List.set_cons_succ] at hst)  | (refine L_storeM rfl rfl hst rfl (by rfl) (ev_tmp rfl) (by first | rfl | exact Dig.one _ | (simp; done)) el_api_Digest (by first | rfl | exact Dig.size _ | (simp; done)) 4 rfl (by first | exact of_decide_eq_true rfl | (simp; done)) ?_; clear hst; intro WS4 hst; simp only [List.set_cons_zero, List.set_cons_succ] at hst)  | (refine L_storeM rfl rfl hst rfl (by rfl) (ev_tmp rfl) (by first | rfl | exact Dig.one _ | (simp; done)) el_api_Digest (by first | rfl | exact Dig.size _ | (simp; done)) 5 rfl (by first | exact of_decide_eq_true rfl | (simp; done)) ?_; clear hst; intro WS4 hst; simp only [List.set_cons_zero, List.set_cons_succ] at hst))
    | fail)
  refine bp_cell rfl rfl rfl (hst.get 1 rfl) Tryd.underlying23 rfl el_api_Digest (by first | rfl | exact Dig.size _ | (simp; done)) ?_
  exact ⟨rfl, hst.forget⟩

theorem bitLen_log : ∀ n : Fin 256, n.val ≠ 0 → Lib.bitLen n.val = Nat.log2 n.val + 1 := by decide +kernel
theorem half_shl : ∀ n : Fin 257, 2 ≤ n.val → 1 ≤ Lib.bitLen (n.val - 1) ∧ Lib.bitLen (n.val - 1) ≤ 8 ∧ wrap64 ((2 : Int) ^ (Lib.bitLen (n.val - 1) - 1)) = (halfN n.val : Int) := by decide +kernel

set_option maxHeartbeats 1000000 in
theorem half_any (n : Nat) (h2 : 2 ≤ n) (hn : n ≤ 256) (w : World) : Calls Tryd.prog 99 #[.int .i64 (n : Int)] w fun e w' => e = .returned (.int .i64 (halfN n : Int)) ∧ St w w' [] := by
  have hst := St.refl w
  obtain ⟨hb1, hb8, hh⟩ := half_shl ⟨n, by omega⟩ h2
  have Hh := Lib.hid hh
  have hx : ((n : Int) - 1).toNat = n - 1 := by omega
  simp only at hb1 hb8 hx
  clear hh
  go_enter Tryd.func99, Tryd.ntmps99
  go_wp2_with (first
    | (go_at_call 102; refine (Tryd.bits_Len _ _ (by omega) (by omega)).mono ?_; rintro e W6 ⟨rfl, rfl⟩; rw [hx])
    | fail)
  rw [Hh.out]
  go_ret
  exact ⟨rfl, hst⟩




end Go.Proofs.YtkbleigmfcleaaaDoor
