/-
  Proved here: the walk of the law TreePaths: it returns true. No condition.
-/
import Derived.Test.YtfpppmamkmaneaaDoorLawC
import Derived.Test.YtfpppmamkmaneaaDoorRefRoot
import Derived.Test.YtfpppmamkmaneaaDoorDigsL
import Derived.Test.YtfpppmamkmaneaaDoorPath
import Derived.Test.YtfpppmamkmaneaaDoorErrs
import Derived.Test.YtfpppmamkmaneaaDoorSameD
set_option linter.unusedSimpArgs false
set_option linter.unusedVariables false
set_option maxRecDepth 20000
namespace Go.Proofs.YtfpppmamkmaneaaDoor
open Go.RowKit

section
variable {P : Program} {ops : Array Oper} {rest : List Oper} {o : Oper} {a : Act} {W : World} {Q : Exit → Act → World → Prop} {d : Option Tmp}
theorem L_pickF (hd : o.dst = d) (hw : Region.wanted o (yielded ops a.tmps) = true) {c x y : Operand} (ho : o.op = .pick c x y) (hc : a.eval c = .bool false) {v : Value} (hy : a.eval y = v) (h : wpList P ops Q rest (a.put d v) W) : wpList P ops Q (o :: rest) a W := by
  refine L_val hd hw ?_ h
  unfold execOp
  simp [ho, hc, hy, asBool]
theorem L_pickT (hd : o.dst = d) (hw : Region.wanted o (yielded ops a.tmps) = true) {c x y : Operand} (ho : o.op = .pick c x y) (hc : a.eval c = .bool true) {v : Value} (hx : a.eval x = v) (h : wpList P ops Q rest (a.put d v) W) : wpList P ops Q (o :: rest) a W := by
  refine L_val hd hw ?_ h
  unfold execOp
  simp [ho, hc, hx, asBool]
end
theorem dEq (x : Dig) : decide (x = x) = true := by simp
theorem dNe (x : Dig) : (!decide (x = x)) = false := by simp
theorem dEqL (x : List Dig) : decide (x = x) = true := by simp

theorem dig_oneR (d : Dig) : ∀ u ∈ d.arr.toList, u.oneCell' = true := by
  rw [Dig.toList]
  exact oneCell_bytes

set_option maxHeartbeats 4000000 in
theorem rpath_any : ∀ (n : Nat) (ls : List Dig) (A : Option Addr) (c i : Nat) (w : World), SlR w A n c 32 (digsL ls) → i < n → n ≤ 256 →
    Calls Tryd.prog 32 #[.slice A n c, .int .i64 (i : Int)] w fun e w' => ∃ O oc, e = .returned (.slice O (longN i n) oc) ∧ St w w' [.row O (longN i n) oc 25 32 (digsL (pathN ls i))] := by
  intro n
  induction n using Nat.strongRecOn with
  | ind n ih =>
  intro ls A c i w hx hin hn
  have hst := St.refl w
  have hl : ls.length = n := by have := hx.1; rw [length_digsL] at this; omega
  have hcap := hx.2.1
  by_cases h1 : n = 1
  · subst h1
    rw [longN_one i (by omega), pathN_one i (by omega)]
    go_enter Tryd.func32, Tryd.ntmps32
    go_wp2_with (first
      | fail)
    go_ret
    exact ⟨_, _, rfl, hst.nilRow 25 32⟩
  · have hlt := halfN_lt n (by omega)
    have hps := halfN_pos n
    have h1' : ¬ (n : Int) = 1 := by omega
    have HF := Lib.hid (fun w => rhalf_any n (by omega) (by omega) w)
    have H1 := Lib.hid (show ((digsL ls).drop (0 * 32)).take ((halfN n - 0) * 32) = digsL (ls.take (halfN n)) by rw [digsL_cut]; rfl)
    have H2 := Lib.hid (show ((digsL ls).drop (halfN n * 32)).take ((n - halfN n) * 32) = digsL (ls.drop (halfN n)) by rw [digsL_cut, List.take_of_length_le (by rw [List.length_drop]; omega)])
    by_cases hk : i < halfN n
    · have hle := longN_le (halfN n) i
      rw [longN_left (by omega) hk]
      have HI := Lib.hid (fun A c w hs => ih (halfN n) hlt (ls.take (halfN n)) A c i w hs hk (by omega))
      have HB := Lib.hid (show digsL (pathN (ls.take (halfN n)) i) ++ (rootN (ls.drop (halfN n))).arr.toList = digsL (pathN ls i) by
        rw [pathN_left (ls := ls) (by omega) (by rw [hl]; exact hk), hl, digsL_append, digsL_single, Dig.toList])
      clear ih hl
      generalize longN i (halfN n) = r at *
      generalize halfN n = k at *
      go_enter Tryd.func32, Tryd.ntmps32
      go_wp2_with (first
        | (go_at_call 55; (try clear hnew); refine (HF.out _).mono ?_; rintro e Wk1 ⟨rfl, hnew⟩; replace hst := hst.keep hnew)
        | fail)
      (try clear hnew)
      refine wp_region_idxT [(0, 0), (1, 0), (2, 0), (3, 0), (5, 0), (6, 0), (7, 0), (4, 2), (8, 2), (9, 2), (10, 1), (11, 2)] (by kernel_rfl) (by kernel_rfl) ?_
      replace hst := hst.drew
      refine idx_q rfl rfl ?_; go_wp2_with fail
      refine idx_q rfl rfl ?_; go_wp2_with fail
      refine idx_q rfl rfl ?_; go_wp2_with (first | (first | (refine L_cutV (d := some 17) rfl rfl rfl (by rfl) Tryd.underlying22 el_api_Digest (by decide) hx 0 k _ (Or.inl ⟨rfl, rfl⟩) (Or.inr ⟨_, _, rfl, by first | exact ev_tmp rfl | (rw [ev_tmp rfl]; congr 1; omega)⟩) (Or.inl ⟨rfl, rfl⟩) (by omega) (by omega) (by omega) (by omega) ?_; intro A17 c17 hs17) | (refine L_cutO (d := some 17) rfl rfl hst rfl (by rfl) Tryd.underlying22 el_api_Digest 0 rfl (by first | rfl | omega) 0 k _ (Or.inl ⟨rfl, rfl⟩) (Or.inr ⟨_, _, rfl, by first | exact ev_tmp rfl | (rw [ev_tmp rfl]; congr 1; omega)⟩) (Or.inl ⟨rfl, rfl⟩) (by omega) (by omega) (by omega) (by omega) ?_; clear hst; intro A17 c17 hst; simp only [List.set_cons_zero, List.set_cons_succ] at hst) | (refine L_cutO (d := some 17) rfl rfl hst rfl (by rfl) Tryd.underlying22 el_api_Digest 1 rfl (by first | rfl | omega) 0 k _ (Or.inl ⟨rfl, rfl⟩) (Or.inr ⟨_, _, rfl, by first | exact ev_tmp rfl | (rw [ev_tmp rfl]; congr 1; omega)⟩) (Or.inl ⟨rfl, rfl⟩) (by omega) (by omega) (by omega) (by omega) ?_; clear hst; intro A17 c17 hst; simp only [List.set_cons_zero, List.set_cons_succ] at hst) | (refine L_cutO (d := some 17) rfl rfl hst rfl (by rfl) Tryd.underlying22 el_api_Digest 2 rfl (by first | rfl | omega) 0 k _ (Or.inl ⟨rfl, rfl⟩) (Or.inr ⟨_, _, rfl, by first | exact ev_tmp rfl | (rw [ev_tmp rfl]; congr 1; omega)⟩) (Or.inl ⟨rfl, rfl⟩) (by omega) (by omega) (by omega) (by omega) ?_; clear hst; intro A17 c17 hst; simp only [List.set_cons_zero, List.set_cons_succ] at hst) | (refine L_cutS (d := some 17) rfl rfl rfl (by rfl) Tryd.underlying22 el_api_Digest (by decide) (by first | assumption | exact hst.old (by decide) (by assumption) | exact hst.sl 0 rfl | exact hst.sl 1 rfl | exact hst.sl 2 rfl) 0 k _ (Or.inl ⟨rfl, rfl⟩) (Or.inr ⟨_, _, rfl, by first | exact ev_tmp rfl | (rw [ev_tmp rfl]; congr 1; omega)⟩) (Or.inl ⟨rfl, rfl⟩) (by omega) (by omega) (by omega) (by omega) ?_; intro A17 c17 hs17)) | fail)
      refine idx_q rfl rfl ?_; go_wp2_with fail
      refine idx_q rfl rfl ?_; go_wp2_with fail
      refine idx_q rfl rfl ?_; go_wp2_with fail
      refine idx_q rfl rfl ?_; go_wp2_with (first | (first | (refine L_cutV (d := some 22) rfl rfl rfl (by rfl) Tryd.underlying22 el_api_Digest (by decide) hx k n _ (Or.inr ⟨_, _, rfl, by first | exact ev_tmp rfl | (rw [ev_tmp rfl]; congr 1; omega)⟩) (Or.inl ⟨rfl, rfl, rfl⟩) (Or.inl ⟨rfl, rfl⟩) (by omega) (by omega) (by omega) (by omega) ?_; intro A22 c22 hs22) | (refine L_cutO (d := some 22) rfl rfl hst rfl (by rfl) Tryd.underlying22 el_api_Digest 0 rfl (by first | rfl | omega) k n _ (Or.inr ⟨_, _, rfl, by first | exact ev_tmp rfl | (rw [ev_tmp rfl]; congr 1; omega)⟩) (Or.inl ⟨rfl, rfl, rfl⟩) (Or.inl ⟨rfl, rfl⟩) (by omega) (by omega) (by omega) (by omega) ?_; clear hst; intro A22 c22 hst; simp only [List.set_cons_zero, List.set_cons_succ] at hst) | (refine L_cutO (d := some 22) rfl rfl hst rfl (by rfl) Tryd.underlying22 el_api_Digest 1 rfl (by first | rfl | omega) k n _ (Or.inr ⟨_, _, rfl, by first | exact ev_tmp rfl | (rw [ev_tmp rfl]; congr 1; omega)⟩) (Or.inl ⟨rfl, rfl, rfl⟩) (Or.inl ⟨rfl, rfl⟩) (by omega) (by omega) (by omega) (by omega) ?_; clear hst; intro A22 c22 hst; simp only [List.set_cons_zero, List.set_cons_succ] at hst) | (refine L_cutO (d := some 22) rfl rfl hst rfl (by rfl) Tryd.underlying22 el_api_Digest 2 rfl (by first | rfl | omega) k n _ (Or.inr ⟨_, _, rfl, by first | exact ev_tmp rfl | (rw [ev_tmp rfl]; congr 1; omega)⟩) (Or.inl ⟨rfl, rfl, rfl⟩) (Or.inl ⟨rfl, rfl⟩) (by omega) (by omega) (by omega) (by omega) ?_; clear hst; intro A22 c22 hst; simp only [List.set_cons_zero, List.set_cons_succ] at hst) | (refine L_cutS (d := some 22) rfl rfl rfl (by rfl) Tryd.underlying22 el_api_Digest (by decide) (by first | assumption | exact hst.old (by decide) (by assumption) | exact hst.sl 0 rfl | exact hst.sl 1 rfl | exact hst.sl 2 rfl) k n _ (Or.inr ⟨_, _, rfl, by first | exact ev_tmp rfl | (rw [ev_tmp rfl]; congr 1; omega)⟩) (Or.inl ⟨rfl, rfl, rfl⟩) (Or.inl ⟨rfl, rfl⟩) (by omega) (by omega) (by omega) (by omega) ?_; intro A22 c22 hs22)) | fail)
      refine idx_g rfl ?_; go_wp2_with (first | (go_at_call 32; (try clear hnew); refine (HI.out A17 c17 _ (by rw [← H1.out]; exact hst.old (by decide) hs17)).mono ?_; rintro e Wk2 ⟨O19, c19, rfl, hnew⟩; replace hst := hst.trans hnew; simp only [List.cons_append, List.nil_append] at hst) | (go_at_call 28; (try clear hnew); refine (rroot_any (n - k) (ls.drop k) A22 c22 _ (by rw [← H2.out]; exact hst.old (by decide) hs22) (by omega)).mono ?_; rintro e Wk3 ⟨rfl, hnew⟩; replace hst := hst.keep hnew) | fail); refine ⟨by first | exact Below.refl _ _ | exact hnew.below, ?_⟩
      refine idx_g rfl ?_; go_wp2_with (first | (go_at_call 32; (try clear hnew); refine (HI.out A17 c17 _ (by rw [← H1.out]; exact hst.old (by decide) hs17)).mono ?_; rintro e Wk2 ⟨O19, c19, rfl, hnew⟩; replace hst := hst.trans hnew; simp only [List.cons_append, List.nil_append] at hst) | (go_at_call 28; (try clear hnew); refine (rroot_any (n - k) (ls.drop k) A22 c22 _ (by rw [← H2.out]; exact hst.old (by decide) hs22) (by omega)).mono ?_; rintro e Wk3 ⟨rfl, hnew⟩; replace hst := hst.keep hnew) | fail); refine ⟨by first | exact Below.refl _ _ | exact hnew.below, ?_⟩
      refine idx_g rfl ?_; go_wp2_with (first | (refine L_buildS (d := some 24) rfl rfl rfl [_] (bs_1 (ev_tmp rfl)) rfl Tryd.underlying22 el_api_Digest rfl (by first | (simp [Value.cells]; done) | (simp [Value.cells, Dig.size]; done)) (by decide) (by decide) ?_; (try clear hnew); intro g24 W24 hnew; replace hst := hst.trans hnew; simp only [List.cons_append, List.nil_append] at hst; simp only [List.flatMap_cons, List.flatMap_nil, List.append_nil, Value.cells, List.toList_toArray] at hst) | fail); refine ⟨by first | exact Below.refl _ _ | exact hnew.below, ?_⟩
      refine idx_e rfl ?_; go_wp2_with (first | (go_at_call 32; (try clear hnew); refine (HI.out A17 c17 _ (by rw [← H1.out]; exact hst.old (by decide) hs17)).mono ?_; rintro e Wk2 ⟨O19, c19, rfl, hnew⟩; replace hst := hst.trans hnew; simp only [List.cons_append, List.nil_append] at hst) | (go_at_call 28; (try clear hnew); refine (rroot_any (n - k) (ls.drop k) A22 c22 _ (by rw [← H2.out]; exact hst.old (by decide) hs22) (by omega)).mono ?_; rintro e Wk3 ⟨rfl, hnew⟩; replace hst := hst.keep hnew) | (refine L_appendO (d := some 25) rfl rfl hst rfl (by rfl) (by rfl) Tryd.underlying22 el_api_Digest rfl (by decide) (by decide) 0 rfl (by first | rfl | omega) (by first | exact hst.sl 0 rfl | exact hst.sl 1 rfl | exact hst.sl 2 rfl | assumption | exact hst.old (by decide) (by assumption)) (by first | exact oneCell_bytes | (simp [Value.oneCell']; done) | exact dig_oneR _) (by omega) ?_; clear hst; intro A25 c25 W25 hst; simp only [List.set_cons_zero, List.set_cons_succ, List.nil_append, Nat.zero_add] at hst) | (refine L_appendO (d := some 25) rfl rfl hst rfl (by rfl) (by rfl) Tryd.underlying22 el_api_Digest rfl (by decide) (by decide) 1 rfl (by first | rfl | omega) (by first | exact hst.sl 0 rfl | exact hst.sl 1 rfl | exact hst.sl 2 rfl | assumption | exact hst.old (by decide) (by assumption)) (by first | exact oneCell_bytes | (simp [Value.oneCell']; done) | exact dig_oneR _) (by omega) ?_; clear hst; intro A25 c25 W25 hst; simp only [List.set_cons_zero, List.set_cons_succ, List.nil_append, Nat.zero_add] at hst) | (refine L_appendO (d := some 25) rfl rfl hst rfl (by rfl) (by rfl) Tryd.underlying22 el_api_Digest rfl (by decide) (by decide) 2 rfl (by first | rfl | omega) (by first | exact hst.sl 0 rfl | exact hst.sl 1 rfl | exact hst.sl 2 rfl | assumption | exact hst.old (by decide) (by assumption)) (by first | exact oneCell_bytes | (simp [Value.oneCell']; done) | exact dig_oneR _) (by omega) ?_; clear hst; intro A25 c25 W25 hst; simp only [List.set_cons_zero, List.set_cons_succ, List.nil_append, Nat.zero_add] at hst) | (refine L_appendF (d := some 25) rfl rfl rfl (by rfl) (by rfl) Tryd.underlying22 el_api_Digest rfl (by decide) (by assumption) (by first | assumption | exact hst.sl 0 rfl | exact hst.sl 1 rfl | exact hst.sl 2 rfl | assumption | exact hst.old (by decide) (by assumption)) (by omega) (by omega) (by omega) ?_; (try clear hnew); intro A25 c25 W25 hnew; replace hst := hst.trans hnew; simp only [List.cons_append, List.nil_append] at hst) | fail)
      refine idx_g rfl ?_; go_wp2_with fail; refine ⟨by first | exact Below.refl _ _ | exact hnew.below, ?_⟩
      refine idx_nil ?_
      go_wp2_with fail
      go_ret
      refine ⟨_, _, rfl, ?_⟩
      rw [HB.out] at hst
      first | exact hst.pick [0] (by decide) | exact hst.pick [1] (by decide)
    · have hle := longN_le (n - halfN n) (i - halfN n)
      rw [longN_right (by omega) hk]
      have HI := Lib.hid (fun A c w hs => ih (n - halfN n) (by omega) (ls.drop (halfN n)) A c (i - halfN n) w hs (by omega) (by omega))
      have HB := Lib.hid (show digsL (pathN (ls.drop (halfN n)) (i - halfN n)) ++ (rootN (ls.take (halfN n))).arr.toList = digsL (pathN ls i) by
        rw [pathN_right (ls := ls) (by omega) (by rw [hl]; exact hk), hl, digsL_append, digsL_single, Dig.toList])
      have e1 : (((i - halfN n : Nat)) : Int) = (i : Int) - (halfN n : Int) := by omega
      rw [e1] at HI
      clear ih hl e1
      generalize longN (i - halfN n) (n - halfN n) = r at *
      generalize halfN n = k at *
      go_enter Tryd.func32, Tryd.ntmps32
      go_wp2_with (first
        | (go_at_call 55; (try clear hnew); refine (HF.out _).mono ?_; rintro e Wk4 ⟨rfl, hnew⟩; replace hst := hst.keep hnew)
        | fail)
      (try clear hnew)
      refine wp_region_idxT [(0, 0), (1, 0), (2, 0), (3, 0), (4, 0), (5, 0), (7, 0), (8, 0), (9, 0), (6, 2), (10, 2), (11, 2), (12, 1), (13, 2)] (by kernel_rfl) (by kernel_rfl) ?_
      replace hst := hst.drew
      refine idx_q rfl rfl ?_; go_wp2_with fail
      refine idx_q rfl rfl ?_; go_wp2_with fail
      refine idx_q rfl rfl ?_; go_wp2_with (first | (first | (refine L_cutV (d := some 28) rfl rfl rfl (by rfl) Tryd.underlying22 el_api_Digest (by decide) hx k n _ (Or.inr ⟨_, _, rfl, by first | exact ev_tmp rfl | (rw [ev_tmp rfl]; congr 1; omega)⟩) (Or.inl ⟨rfl, rfl, rfl⟩) (Or.inl ⟨rfl, rfl⟩) (by omega) (by omega) (by omega) (by omega) ?_; intro A28 c28 hs28) | (refine L_cutO (d := some 28) rfl rfl hst rfl (by rfl) Tryd.underlying22 el_api_Digest 0 rfl (by first | rfl | omega) k n _ (Or.inr ⟨_, _, rfl, by first | exact ev_tmp rfl | (rw [ev_tmp rfl]; congr 1; omega)⟩) (Or.inl ⟨rfl, rfl, rfl⟩) (Or.inl ⟨rfl, rfl⟩) (by omega) (by omega) (by omega) (by omega) ?_; clear hst; intro A28 c28 hst; simp only [List.set_cons_zero, List.set_cons_succ] at hst) | (refine L_cutO (d := some 28) rfl rfl hst rfl (by rfl) Tryd.underlying22 el_api_Digest 1 rfl (by first | rfl | omega) k n _ (Or.inr ⟨_, _, rfl, by first | exact ev_tmp rfl | (rw [ev_tmp rfl]; congr 1; omega)⟩) (Or.inl ⟨rfl, rfl, rfl⟩) (Or.inl ⟨rfl, rfl⟩) (by omega) (by omega) (by omega) (by omega) ?_; clear hst; intro A28 c28 hst; simp only [List.set_cons_zero, List.set_cons_succ] at hst) | (refine L_cutO (d := some 28) rfl rfl hst rfl (by rfl) Tryd.underlying22 el_api_Digest 2 rfl (by first | rfl | omega) k n _ (Or.inr ⟨_, _, rfl, by first | exact ev_tmp rfl | (rw [ev_tmp rfl]; congr 1; omega)⟩) (Or.inl ⟨rfl, rfl, rfl⟩) (Or.inl ⟨rfl, rfl⟩) (by omega) (by omega) (by omega) (by omega) ?_; clear hst; intro A28 c28 hst; simp only [List.set_cons_zero, List.set_cons_succ] at hst) | (refine L_cutS (d := some 28) rfl rfl rfl (by rfl) Tryd.underlying22 el_api_Digest (by decide) (by first | assumption | exact hst.old (by decide) (by assumption) | exact hst.sl 0 rfl | exact hst.sl 1 rfl | exact hst.sl 2 rfl) k n _ (Or.inr ⟨_, _, rfl, by first | exact ev_tmp rfl | (rw [ev_tmp rfl]; congr 1; omega)⟩) (Or.inl ⟨rfl, rfl, rfl⟩) (Or.inl ⟨rfl, rfl⟩) (by omega) (by omega) (by omega) (by omega) ?_; intro A28 c28 hs28)) | fail)
      refine idx_q rfl rfl ?_; go_wp2_with fail
      refine idx_q rfl rfl ?_; go_wp2_with fail
      refine idx_q rfl rfl ?_; go_wp2_with fail
      refine idx_q rfl rfl ?_; go_wp2_with fail
      refine idx_q rfl rfl ?_; go_wp2_with fail
      refine idx_q rfl rfl ?_; go_wp2_with (first | (first | (refine L_cutV (d := some 35) rfl rfl rfl (by rfl) Tryd.underlying22 el_api_Digest (by decide) hx 0 k _ (Or.inl ⟨rfl, rfl⟩) (Or.inr ⟨_, _, rfl, by first | exact ev_tmp rfl | (rw [ev_tmp rfl]; congr 1; omega)⟩) (Or.inl ⟨rfl, rfl⟩) (by omega) (by omega) (by omega) (by omega) ?_; intro A35 c35 hs35) | (refine L_cutO (d := some 35) rfl rfl hst rfl (by rfl) Tryd.underlying22 el_api_Digest 0 rfl (by first | rfl | omega) 0 k _ (Or.inl ⟨rfl, rfl⟩) (Or.inr ⟨_, _, rfl, by first | exact ev_tmp rfl | (rw [ev_tmp rfl]; congr 1; omega)⟩) (Or.inl ⟨rfl, rfl⟩) (by omega) (by omega) (by omega) (by omega) ?_; clear hst; intro A35 c35 hst; simp only [List.set_cons_zero, List.set_cons_succ] at hst) | (refine L_cutO (d := some 35) rfl rfl hst rfl (by rfl) Tryd.underlying22 el_api_Digest 1 rfl (by first | rfl | omega) 0 k _ (Or.inl ⟨rfl, rfl⟩) (Or.inr ⟨_, _, rfl, by first | exact ev_tmp rfl | (rw [ev_tmp rfl]; congr 1; omega)⟩) (Or.inl ⟨rfl, rfl⟩) (by omega) (by omega) (by omega) (by omega) ?_; clear hst; intro A35 c35 hst; simp only [List.set_cons_zero, List.set_cons_succ] at hst) | (refine L_cutO (d := some 35) rfl rfl hst rfl (by rfl) Tryd.underlying22 el_api_Digest 2 rfl (by first | rfl | omega) 0 k _ (Or.inl ⟨rfl, rfl⟩) (Or.inr ⟨_, _, rfl, by first | exact ev_tmp rfl | (rw [ev_tmp rfl]; congr 1; omega)⟩) (Or.inl ⟨rfl, rfl⟩) (by omega) (by omega) (by omega) (by omega) ?_; clear hst; intro A35 c35 hst; simp only [List.set_cons_zero, List.set_cons_succ] at hst) | (refine L_cutS (d := some 35) rfl rfl rfl (by rfl) Tryd.underlying22 el_api_Digest (by decide) (by first | assumption | exact hst.old (by decide) (by assumption) | exact hst.sl 0 rfl | exact hst.sl 1 rfl | exact hst.sl 2 rfl) 0 k _ (Or.inl ⟨rfl, rfl⟩) (Or.inr ⟨_, _, rfl, by first | exact ev_tmp rfl | (rw [ev_tmp rfl]; congr 1; omega)⟩) (Or.inl ⟨rfl, rfl⟩) (by omega) (by omega) (by omega) (by omega) ?_; intro A35 c35 hs35)) | fail)
      refine idx_g rfl ?_; go_wp2_with (first | (go_at_call 32; (try clear hnew); refine (HI.out A28 c28 _ (by rw [← H2.out]; exact hst.old (by decide) hs28)).mono ?_; rintro e Wk5 ⟨O32, c32, rfl, hnew⟩; replace hst := hst.trans hnew; simp only [List.cons_append, List.nil_append] at hst) | (go_at_call 28; (try clear hnew); refine (rroot_any k (ls.take k) A35 c35 _ (by rw [← H1.out]; exact hst.old (by decide) hs35) (by omega)).mono ?_; rintro e Wk6 ⟨rfl, hnew⟩; replace hst := hst.keep hnew) | fail); refine ⟨by first | exact Below.refl _ _ | exact hnew.below, ?_⟩
      refine idx_g rfl ?_; go_wp2_with (first | (go_at_call 32; (try clear hnew); refine (HI.out A28 c28 _ (by rw [← H2.out]; exact hst.old (by decide) hs28)).mono ?_; rintro e Wk5 ⟨O32, c32, rfl, hnew⟩; replace hst := hst.trans hnew; simp only [List.cons_append, List.nil_append] at hst) | (go_at_call 28; (try clear hnew); refine (rroot_any k (ls.take k) A35 c35 _ (by rw [← H1.out]; exact hst.old (by decide) hs35) (by omega)).mono ?_; rintro e Wk6 ⟨rfl, hnew⟩; replace hst := hst.keep hnew) | fail); refine ⟨by first | exact Below.refl _ _ | exact hnew.below, ?_⟩
      refine idx_g rfl ?_; go_wp2_with (first | (refine L_buildS (d := some 37) rfl rfl rfl [_] (bs_1 (ev_tmp rfl)) rfl Tryd.underlying22 el_api_Digest rfl (by first | (simp [Value.cells]; done) | (simp [Value.cells, Dig.size]; done)) (by decide) (by decide) ?_; (try clear hnew); intro g37 W37 hnew; replace hst := hst.trans hnew; simp only [List.cons_append, List.nil_append] at hst; simp only [List.flatMap_cons, List.flatMap_nil, List.append_nil, Value.cells, List.toList_toArray] at hst) | fail); refine ⟨by first | exact Below.refl _ _ | exact hnew.below, ?_⟩
      refine idx_e rfl ?_; go_wp2_with (first | (go_at_call 32; (try clear hnew); refine (HI.out A28 c28 _ (by rw [← H2.out]; exact hst.old (by decide) hs28)).mono ?_; rintro e Wk5 ⟨O32, c32, rfl, hnew⟩; replace hst := hst.trans hnew; simp only [List.cons_append, List.nil_append] at hst) | (go_at_call 28; (try clear hnew); refine (rroot_any k (ls.take k) A35 c35 _ (by rw [← H1.out]; exact hst.old (by decide) hs35) (by omega)).mono ?_; rintro e Wk6 ⟨rfl, hnew⟩; replace hst := hst.keep hnew) | (refine L_appendO (d := some 38) rfl rfl hst rfl (by rfl) (by rfl) Tryd.underlying22 el_api_Digest rfl (by decide) (by decide) 0 rfl (by first | rfl | omega) (by first | exact hst.sl 0 rfl | exact hst.sl 1 rfl | exact hst.sl 2 rfl | assumption | exact hst.old (by decide) (by assumption)) (by first | exact oneCell_bytes | (simp [Value.oneCell']; done) | exact dig_oneR _) (by omega) ?_; clear hst; intro A38 c38 W38 hst; simp only [List.set_cons_zero, List.set_cons_succ, List.nil_append, Nat.zero_add] at hst) | (refine L_appendO (d := some 38) rfl rfl hst rfl (by rfl) (by rfl) Tryd.underlying22 el_api_Digest rfl (by decide) (by decide) 1 rfl (by first | rfl | omega) (by first | exact hst.sl 0 rfl | exact hst.sl 1 rfl | exact hst.sl 2 rfl | assumption | exact hst.old (by decide) (by assumption)) (by first | exact oneCell_bytes | (simp [Value.oneCell']; done) | exact dig_oneR _) (by omega) ?_; clear hst; intro A38 c38 W38 hst; simp only [List.set_cons_zero, List.set_cons_succ, List.nil_append, Nat.zero_add] at hst) | (refine L_appendO (d := some 38) rfl rfl hst rfl (by rfl) (by rfl) Tryd.underlying22 el_api_Digest rfl (by decide) (by decide) 2 rfl (by first | rfl | omega) (by first | exact hst.sl 0 rfl | exact hst.sl 1 rfl | exact hst.sl 2 rfl | assumption | exact hst.old (by decide) (by assumption)) (by first | exact oneCell_bytes | (simp [Value.oneCell']; done) | exact dig_oneR _) (by omega) ?_; clear hst; intro A38 c38 W38 hst; simp only [List.set_cons_zero, List.set_cons_succ, List.nil_append, Nat.zero_add] at hst) | (refine L_appendF (d := some 38) rfl rfl rfl (by rfl) (by rfl) Tryd.underlying22 el_api_Digest rfl (by decide) (by assumption) (by first | assumption | exact hst.sl 0 rfl | exact hst.sl 1 rfl | exact hst.sl 2 rfl | assumption | exact hst.old (by decide) (by assumption)) (by omega) (by omega) (by omega) ?_; (try clear hnew); intro A38 c38 W38 hnew; replace hst := hst.trans hnew; simp only [List.cons_append, List.nil_append] at hst) | fail)
      refine idx_g rfl ?_; go_wp2_with fail; refine ⟨by first | exact Below.refl _ _ | exact hnew.below, ?_⟩
      refine idx_nil ?_
      go_wp2_with fail
      go_ret
      refine ⟨_, _, rfl, ?_⟩
      rw [HB.out] at hst
      first | exact hst.pick [0] (by decide) | exact hst.pick [1] (by decide)

set_option maxHeartbeats 8000000 in
set_option maxRecDepth 100000 in
theorem treePaths_A (w : World) (hT : Tb w) (hE : Eb w) (ls : List Dig) (A : Option Addr) (n c : Nat) (hx : SlR w A n c 32 (digsL ls)) (i : Int) (l : Dig) (s : Int) (path : List Dig) (B : Option Addr) (m d : Nat) (hy : SlR w B m d 32 (digsL path)) (hn : 256 < n) :
    Calls Tryd.prog 11 #[.slice A n c, .int .i64 i, l.v, .int .i64 s, .slice B m d] w fun e w' => e = .returned (.bool true) ∧ St w w' [] := by
  have hst := St.refl w
  have HT := Lib.hid hT
  have HE := Lib.hid hE
  have hcap2 := hy.2.1
  clear hT hE
  have h1 : (256 : Int) < (n : Int) := by omega
  go_enter Tryd.func11, Tryd.ntmps11
  go_upto_region 1 with (first
    | (refine L_boxA (d := some 7) rfl rfl rfl (ev_tmp rfl) ?_; (try clear hnew); intro g7 W7 hnew; replace hst := hst.trans hnew; simp only [List.cons_append, List.nil_append] at hst)
    | fail)
  go_upto_region 2 with (first
    | fail)
  go_upto_region 3 with (first
    | fail)
  go_upto_region 4 with (first
    | fail)
  go_upto_region 8 with (first
    | fail)
  go_upto_region 9 with (first
    | (go_at_call 17; (try clear hnew); refine (tPath_full A n c i _ hn).mono ?_; rintro e Wk7 ⟨rfl, hnew⟩; replace hst := hst.keep hnew)
    | fail)
  go_upto_region 10 with (first
    | (go_at_call 29; (try clear hnew); refine (sError_any 4 _ (HE.out.of hst)).mono ?_; rintro e Wk8 ⟨rfl, hnew⟩; replace hst := hst.keep hnew)
    | fail)
  go_upto_region 11 with (first
    | (go_at_call 33; (try clear hnew); refine (sameD_any [] [] none none 0 0 0 0 _ (SlR.nil_ _ 32) (SlR.nil_ _ 32)).mono ?_; rintro e Wk9 ⟨rfl, hnew⟩; replace hst := hst.keep hnew)
    | fail)
  go_upto_region 13 with (first
    | fail)
  go_upto_region 14 with (first
    | fail)
  (try clear hnew)
  by_cases hin : 1 ≤ s ∧ s ≤ 256 ∧ 0 ≤ i ∧ i < s
  case neg =>
    have h : s < 1 ∨ ¬ s < 1 ∧ 256 < s ∨ ¬ s < 1 ∧ ¬ 256 < s ∧ i < 0 ∨ ¬ s < 1 ∧ ¬ 256 < s ∧ ¬ i < 0 ∧ s ≤ i := by omega
    have H := Lib.hid (fun w => tFold_range l B m d i s w h)
    have HZ := Lib.hid (show decide (zeroD = zeroD) = true by simp)
    have HN := Lib.hid (show decide (nodeN l zeroD = nodeN l zeroD) = true by simp)
    clear hin
    rcases h with h | ⟨h, k2⟩ | ⟨h, k2, k3⟩ | ⟨h, k2, k3, k4⟩
    all_goals
      go_upto_region 15 with (first
        | (refine L_allocA (d := some 17) rfl rfl rfl el_api_Digest ?_; (try clear hnew); intro g17 W17 hnew; replace hst := hst.trans hnew; simp only [List.cons_append, List.nil_append] at hst)
        | fail)
      go_upto_region 16 with (first
        | fail)
      go_upto_region 20 with (first
        | fail)
      go_upto_region 21 with (first
        | (go_at_call 20; (try clear hnew); refine (H.out _).mono ?_; rintro e Wk10 ⟨rfl, hnew⟩; replace hst := hst.keep hnew)
        | (first | (refine L_loadA (d := some 78) rfl rfl rfl (by rfl) Tryd.underlying25 rfl el_api_Digest (by first | exact hst.get 0 rfl | exact hst.get 1 rfl | exact hst.get 2 rfl) (by first | rfl | exact Dig.size _ | (simp; done)) ?_) | (refine L_loadM (d := some 78) rfl rfl rfl (by rfl) Tryd.underlying25 rfl el_api_Digest (by first | assumption) (by first | rfl | exact Dig.size _ | (simp; done)) ?_))
        | (refine L_allocA (d := some 18) rfl rfl rfl el_api_Digest ?_; (try clear hnew); intro g18 W18 hnew; replace hst := hst.trans hnew; simp only [List.cons_append, List.nil_append] at hst)
        | (refine wpl_at (.store 25 (.tmp 18) (.tmp 83)) rfl ?_; first | (refine L_storeA rfl rfl hst rfl (by rfl) (ev_tmp rfl) (by first | rfl | exact Dig.one _ | (simp; done)) el_api_Digest (by first | rfl | exact Dig.size _ | (simp; done)) 0 rfl (by first | rfl | exact Dig.size _ | (simp; done)) ?_; clear hst; intro WS9 hst; simp only [List.set_cons_zero, List.set_cons_succ] at hst) | (refine L_storeA rfl rfl hst rfl (by rfl) (ev_tmp rfl) (by first | rfl | exact Dig.one _ | (simp; done)) el_api_Digest (by first | rfl | exact Dig.size _ | (simp; done)) 1 rfl (by first | rfl | exact Dig.size _ | (simp; done)) ?_; clear hst; intro WS9 hst; simp only [List.set_cons_zero, List.set_cons_succ] at hst) | (refine L_storeA rfl rfl hst rfl (by rfl) (ev_tmp rfl) (by first | rfl | exact Dig.one _ | (simp; done)) el_api_Digest (by first | rfl | exact Dig.size _ | (simp; done)) 2 rfl (by first | rfl | exact Dig.size _ | (simp; done)) ?_; clear hst; intro WS9 hst; simp only [List.set_cons_zero, List.set_cons_succ] at hst) | (refine L_storeM rfl rfl hst rfl (by rfl) (ev_tmp rfl) (by first | rfl | exact Dig.one _ | (simp; done)) el_api_Digest (by first | rfl | exact Dig.size _ | (simp; done)) 0 rfl (by first | exact of_decide_eq_true rfl | (simp; done)) ?_; clear hst; intro WS9 hst; simp only [List.set_cons_zero, List.set_cons_succ] at hst)  | (refine L_storeM rfl rfl hst rfl (by rfl) (ev_tmp rfl) (by first | rfl | exact Dig.one _ | (simp; done)) el_api_Digest (by first | rfl | exact Dig.size _ | (simp; done)) 1 rfl (by first | exact of_decide_eq_true rfl | (simp; done)) ?_; clear hst; intro WS9 hst; simp only [List.set_cons_zero, List.set_cons_succ] at hst)  | (refine L_storeM rfl rfl hst rfl (by rfl) (ev_tmp rfl) (by first | rfl | exact Dig.one _ | (simp; done)) el_api_Digest (by first | rfl | exact Dig.size _ | (simp; done)) 2 rfl (by first | exact of_decide_eq_true rfl | (simp; done)) ?_; clear hst; intro WS9 hst; simp only [List.set_cons_zero, List.set_cons_succ] at hst))
        | fail)
      go_upto_region 22 with (first
        | (go_at_call 29; (try clear hnew); refine (sError_any 2 _ (HE.out.of hst)).mono ?_; rintro e Wk11 ⟨rfl, hnew⟩; replace hst := hst.keep hnew)
        | fail)
      (try clear hnew)
      refine wp_region_idx [(0, 2), (1, 2), (2, 0), (3, 2), (4, 2), (5, 2), (6, 2), (7, 0), (8, 0), (10, 0), (11, 0), (9, 2), (12, 2), (13, 2), (14, 2), (15, 2)] (by kernel_rfl) (by kernel_rfl) ?_
      replace hst := hst.drew
      refine idx_g rfl ?_; go_wp2_with fail; refine ⟨by first | exact Below.refl _ _ | exact hnew.below, ?_⟩
      refine idx_g rfl ?_; go_wp2_with fail; refine ⟨by first | exact Below.refl _ _ | exact hnew.below, ?_⟩
      refine idx_q rfl rfl ?_; go_wp2_with (first | (refine L_un (t := 90) rfl (by rfl) rfl ?_) | (first | (refine L_loadA (d := some 90) rfl rfl rfl (by rfl) Tryd.underlying25 rfl el_api_Digest (by first | exact hst.get 0 rfl | exact hst.get 1 rfl | exact hst.get 2 rfl) (by first | rfl | exact Dig.size _ | (simp; done)) ?_) | (refine L_loadM (d := some 90) rfl rfl rfl (by rfl) Tryd.underlying25 rfl el_api_Digest (by first | assumption) (by first | rfl | exact Dig.size _ | (simp; done)) ?_)) | fail)
      refine idx_g rfl ?_; go_wp2_with (first | (refine L_un (t := 91) rfl (by rfl) rfl ?_) | (first | (refine L_loadA (d := some 91) rfl rfl rfl (by rfl) Tryd.underlying25 rfl el_api_Digest (by first | exact hst.get 0 rfl | exact hst.get 1 rfl | exact hst.get 2 rfl) (by first | rfl | exact Dig.size _ | (simp; done)) ?_) | (refine L_loadM (d := some 91) rfl rfl rfl (by rfl) Tryd.underlying25 rfl el_api_Digest (by first | assumption) (by first | rfl | exact Dig.size _ | (simp; done)) ?_)) | fail); refine ⟨by first | exact Below.refl _ _ | exact hnew.below, ?_⟩
      refine idx_g rfl ?_; go_wp2_with (first | (refine L_un (t := 92) rfl (by rfl) rfl ?_) | (go_at_call 35; (try clear hnew); with_reducible refine (node_any _ _ _ (HT.out.of hst)).mono ?_; rintro e Wk12 ⟨rfl, hnew⟩; replace hst := hst.keep hnew) | (go_at_call 36; (try clear hnew); with_reducible refine (rnode_any _ _ _).mono ?_; rintro e Wk13 ⟨rfl, hnew⟩; replace hst := hst.keep hnew) | (refine L_eqD (d := some 92) rfl rfl rfl Tryd.underlying25 Tryd.underlying5 el_uint8 eqG_D (ev_tmp rfl) (ev_tmp rfl) ?_; (try rw [HZ.out])) | fail); refine ⟨by first | exact Below.refl _ _ | exact hnew.below, ?_⟩
      refine idx_g rfl ?_; go_wp2_with (first | (first | (refine L_pickF (d := some 93) rfl rfl rfl (ev_tmp rfl) ev_const ?_) | (refine L_pickT (d := some 93) rfl rfl rfl (ev_tmp rfl) (ev_tmp rfl) ?_)) | fail); refine ⟨by first | exact Below.refl _ _ | exact hnew.below, ?_⟩
      refine idx_g rfl ?_; go_wp2_with fail; refine ⟨by first | exact Below.refl _ _ | exact hnew.below, ?_⟩
      refine idx_q rfl rfl ?_; go_wp2_with (first | (refine L_un (t := 95) rfl (by rfl) rfl ?_) | (first | (refine L_loadA (d := some 95) rfl rfl rfl (by rfl) Tryd.underlying25 rfl el_api_Digest (by first | exact hst.get 0 rfl | exact hst.get 1 rfl | exact hst.get 2 rfl) (by first | rfl | exact Dig.size _ | (simp; done)) ?_) | (refine L_loadM (d := some 95) rfl rfl rfl (by rfl) Tryd.underlying25 rfl el_api_Digest (by first | assumption) (by first | rfl | exact Dig.size _ | (simp; done)) ?_)) | fail)
      refine idx_q rfl rfl ?_; go_wp2_with (first | (refine L_un (t := 96) rfl (by rfl) rfl ?_) | (first | (refine L_loadA (d := some 96) rfl rfl rfl (by rfl) Tryd.underlying25 rfl el_api_Digest (by first | exact hst.get 0 rfl | exact hst.get 1 rfl | exact hst.get 2 rfl) (by first | rfl | exact Dig.size _ | (simp; done)) ?_) | (refine L_loadM (d := some 96) rfl rfl rfl (by rfl) Tryd.underlying25 rfl el_api_Digest (by first | assumption) (by first | rfl | exact Dig.size _ | (simp; done)) ?_)) | fail)
      refine idx_q rfl rfl ?_; go_wp2_with (first | (refine L_un (t := 98) rfl (by rfl) rfl ?_) | (first | (refine L_loadA (d := some 98) rfl rfl rfl (by rfl) Tryd.underlying25 rfl el_api_Digest (by first | exact hst.get 0 rfl | exact hst.get 1 rfl | exact hst.get 2 rfl) (by first | rfl | exact Dig.size _ | (simp; done)) ?_) | (refine L_loadM (d := some 98) rfl rfl rfl (by rfl) Tryd.underlying25 rfl el_api_Digest (by first | assumption) (by first | rfl | exact Dig.size _ | (simp; done)) ?_)) | fail)
      refine idx_q rfl rfl ?_; go_wp2_with (first | (refine L_un (t := 99) rfl (by rfl) rfl ?_) | (first | (refine L_loadA (d := some 99) rfl rfl rfl (by rfl) Tryd.underlying25 rfl el_api_Digest (by first | exact hst.get 0 rfl | exact hst.get 1 rfl | exact hst.get 2 rfl) (by first | rfl | exact Dig.size _ | (simp; done)) ?_) | (refine L_loadM (d := some 99) rfl rfl rfl (by rfl) Tryd.underlying25 rfl el_api_Digest (by first | assumption) (by first | rfl | exact Dig.size _ | (simp; done)) ?_)) | fail)
      refine idx_g rfl ?_; go_wp2_with (first | (refine L_un (t := 97) rfl (by rfl) rfl ?_) | (go_at_call 35; (try clear hnew); with_reducible refine (node_any _ _ _ (HT.out.of hst)).mono ?_; rintro e Wk12 ⟨rfl, hnew⟩; replace hst := hst.keep hnew) | (go_at_call 36; (try clear hnew); with_reducible refine (rnode_any _ _ _).mono ?_; rintro e Wk13 ⟨rfl, hnew⟩; replace hst := hst.keep hnew) | fail); refine ⟨by first | exact Below.refl _ _ | exact hnew.below, ?_⟩
      refine idx_g rfl ?_; go_wp2_with (first | (refine L_un (t := 100) rfl (by rfl) rfl ?_) | (go_at_call 35; (try clear hnew); with_reducible refine (node_any _ _ _ (HT.out.of hst)).mono ?_; rintro e Wk12 ⟨rfl, hnew⟩; replace hst := hst.keep hnew) | (go_at_call 36; (try clear hnew); with_reducible refine (rnode_any _ _ _).mono ?_; rintro e Wk13 ⟨rfl, hnew⟩; replace hst := hst.keep hnew) | fail); refine ⟨by first | exact Below.refl _ _ | exact hnew.below, ?_⟩
      refine idx_g rfl ?_; go_wp2_with (first | (refine L_un (t := 101) rfl (by rfl) rfl ?_) | (go_at_call 35; (try clear hnew); with_reducible refine (node_any _ _ _ (HT.out.of hst)).mono ?_; rintro e Wk12 ⟨rfl, hnew⟩; replace hst := hst.keep hnew) | (go_at_call 36; (try clear hnew); with_reducible refine (rnode_any _ _ _).mono ?_; rintro e Wk13 ⟨rfl, hnew⟩; replace hst := hst.keep hnew) | (refine L_eqD (d := some 101) rfl rfl rfl Tryd.underlying25 Tryd.underlying5 el_uint8 eqG_D (ev_tmp rfl) (ev_tmp rfl) ?_; (try rw [HN.out])) | fail); refine ⟨by first | exact Below.refl _ _ | exact hnew.below, ?_⟩
      refine idx_g rfl ?_; go_wp2_with (first | (first | (refine L_pickF (d := some 102) rfl rfl rfl (ev_tmp rfl) ev_const ?_) | (refine L_pickT (d := some 102) rfl rfl rfl (ev_tmp rfl) (ev_tmp rfl) ?_)) | fail); refine ⟨by first | exact Below.refl _ _ | exact hnew.below, ?_⟩
      refine idx_g rfl ?_; go_wp2_with fail; refine ⟨by first | exact Below.refl _ _ | exact hnew.below, ?_⟩
      refine idx_nil ?_
      go_wp2_with fail
      go_ret
      exact ⟨rfl, hst.forget⟩
  case pos =>
    obtain ⟨g1, g2, g3, g4⟩ := hin
    have k1 : ¬ s < 1 := by omega
    have k2 : ¬ 256 < s := by omega
    have k3 : ¬ i < 0 := by omega
    have k4 : ¬ s ≤ i := by omega
    have ei : ((i.toNat : Nat) : Int) = i := by omega
    have es : ((s.toNat : Nat) : Int) = s := by omega
    have HL := Lib.hid (fun w => rlong_any s.toNat i.toNat w (by omega) (by omega))
    rw [ei, es] at HL
    by_cases hm : m = longN i.toNat s.toNat
    · have HF := Lib.hid (fun w hT hs => tFold_any l path B m d i.toNat s.toNat w hT hs (by omega) (by omega) hm)
      have HG := Lib.hid (fun w hs => rfolded_any s.toNat l path B m d i.toNat w hs hm (by omega) (by omega))
      rw [ei, es] at HF HG
      rw [← hm] at HL
      clear hm ei es g1 g2 g3 g4
      generalize foldedN l i.toNat s.toNat path = u at *
      have HZ := Lib.hid (show decide (u = u) = true by simp)
      have HN := Lib.hid (show decide (nodeN l u = nodeN l u) = true by simp)
      go_upto_region 15 with (first
        | (refine L_allocA (d := some 17) rfl rfl rfl el_api_Digest ?_; (try clear hnew); intro g17 W17 hnew; replace hst := hst.trans hnew; simp only [List.cons_append, List.nil_append] at hst)
        | fail)
      go_upto_region 17 with (first
        | fail)
      go_upto_region 19 with (first
        | (go_at_call 18; (try clear hnew); refine (HL.out _).mono ?_; rintro e Wk14 ⟨rfl, hnew⟩; replace hst := hst.keep hnew)
        | fail)
      go_upto_region 20 with (first
        | (go_at_call 34; (try clear hnew); refine (HG.out _ (hst.old (by decide) hy)).mono ?_; rintro e Wk15 ⟨rfl, hnew⟩; replace hst := hst.keep hnew)
        | (first | (refine L_loadA (d := some 72) rfl rfl rfl (by rfl) Tryd.underlying25 rfl el_api_Digest (by first | exact hst.get 0 rfl | exact hst.get 1 rfl | exact hst.get 2 rfl) (by first | rfl | exact Dig.size _ | (simp; done)) ?_) | (refine L_loadM (d := some 72) rfl rfl rfl (by rfl) Tryd.underlying25 rfl el_api_Digest (by first | assumption) (by first | rfl | exact Dig.size _ | (simp; done)) ?_))
        | (refine wpl_at (.store 25 (.tmp 17) (.tmp 76)) rfl ?_; first | (refine L_storeA rfl rfl hst rfl (by rfl) (ev_tmp rfl) (by first | rfl | exact Dig.one _ | (simp; done)) el_api_Digest (by first | rfl | exact Dig.size _ | (simp; done)) 0 rfl (by first | rfl | exact Dig.size _ | (simp; done)) ?_; clear hst; intro WS5 hst; simp only [List.set_cons_zero, List.set_cons_succ] at hst) | (refine L_storeA rfl rfl hst rfl (by rfl) (ev_tmp rfl) (by first | rfl | exact Dig.one _ | (simp; done)) el_api_Digest (by first | rfl | exact Dig.size _ | (simp; done)) 1 rfl (by first | rfl | exact Dig.size _ | (simp; done)) ?_; clear hst; intro WS5 hst; simp only [List.set_cons_zero, List.set_cons_succ] at hst) | (refine L_storeA rfl rfl hst rfl (by rfl) (ev_tmp rfl) (by first | rfl | exact Dig.one _ | (simp; done)) el_api_Digest (by first | rfl | exact Dig.size _ | (simp; done)) 2 rfl (by first | rfl | exact Dig.size _ | (simp; done)) ?_; clear hst; intro WS5 hst; simp only [List.set_cons_zero, List.set_cons_succ] at hst) | (refine L_storeM rfl rfl hst rfl (by rfl) (ev_tmp rfl) (by first | rfl | exact Dig.one _ | (simp; done)) el_api_Digest (by first | rfl | exact Dig.size _ | (simp; done)) 0 rfl (by first | exact of_decide_eq_true rfl | (simp; done)) ?_; clear hst; intro WS5 hst; simp only [List.set_cons_zero, List.set_cons_succ] at hst)  | (refine L_storeM rfl rfl hst rfl (by rfl) (ev_tmp rfl) (by first | rfl | exact Dig.one _ | (simp; done)) el_api_Digest (by first | rfl | exact Dig.size _ | (simp; done)) 1 rfl (by first | exact of_decide_eq_true rfl | (simp; done)) ?_; clear hst; intro WS5 hst; simp only [List.set_cons_zero, List.set_cons_succ] at hst)  | (refine L_storeM rfl rfl hst rfl (by rfl) (ev_tmp rfl) (by first | rfl | exact Dig.one _ | (simp; done)) el_api_Digest (by first | rfl | exact Dig.size _ | (simp; done)) 2 rfl (by first | exact of_decide_eq_true rfl | (simp; done)) ?_; clear hst; intro WS5 hst; simp only [List.set_cons_zero, List.set_cons_succ] at hst))
        | fail)
      go_upto_region 21 with (first
        | (go_at_call 20; (try clear hnew); refine (HF.out _ (HT.out.of hst) (hst.old (by decide) hy)).mono ?_; rintro e Wk16 ⟨rfl, hnew⟩; replace hst := hst.keep hnew)
        | (first | (refine L_loadA (d := some 78) rfl rfl rfl (by rfl) Tryd.underlying25 rfl el_api_Digest (by first | exact hst.get 0 rfl | exact hst.get 1 rfl | exact hst.get 2 rfl) (by first | rfl | exact Dig.size _ | (simp; done)) ?_) | (refine L_loadM (d := some 78) rfl rfl rfl (by rfl) Tryd.underlying25 rfl el_api_Digest (by first | assumption) (by first | rfl | exact Dig.size _ | (simp; done)) ?_))
        | (refine L_allocA (d := some 18) rfl rfl rfl el_api_Digest ?_; (try clear hnew); intro g18 W18 hnew; replace hst := hst.trans hnew; simp only [List.cons_append, List.nil_append] at hst)
        | (refine wpl_at (.store 25 (.tmp 18) (.tmp 83)) rfl ?_; first | (refine L_storeA rfl rfl hst rfl (by rfl) (ev_tmp rfl) (by first | rfl | exact Dig.one _ | (simp; done)) el_api_Digest (by first | rfl | exact Dig.size _ | (simp; done)) 0 rfl (by first | rfl | exact Dig.size _ | (simp; done)) ?_; clear hst; intro WS9 hst; simp only [List.set_cons_zero, List.set_cons_succ] at hst) | (refine L_storeA rfl rfl hst rfl (by rfl) (ev_tmp rfl) (by first | rfl | exact Dig.one _ | (simp; done)) el_api_Digest (by first | rfl | exact Dig.size _ | (simp; done)) 1 rfl (by first | rfl | exact Dig.size _ | (simp; done)) ?_; clear hst; intro WS9 hst; simp only [List.set_cons_zero, List.set_cons_succ] at hst) | (refine L_storeA rfl rfl hst rfl (by rfl) (ev_tmp rfl) (by first | rfl | exact Dig.one _ | (simp; done)) el_api_Digest (by first | rfl | exact Dig.size _ | (simp; done)) 2 rfl (by first | rfl | exact Dig.size _ | (simp; done)) ?_; clear hst; intro WS9 hst; simp only [List.set_cons_zero, List.set_cons_succ] at hst) | (refine L_storeM rfl rfl hst rfl (by rfl) (ev_tmp rfl) (by first | rfl | exact Dig.one _ | (simp; done)) el_api_Digest (by first | rfl | exact Dig.size _ | (simp; done)) 0 rfl (by first | exact of_decide_eq_true rfl | (simp; done)) ?_; clear hst; intro WS9 hst; simp only [List.set_cons_zero, List.set_cons_succ] at hst)  | (refine L_storeM rfl rfl hst rfl (by rfl) (ev_tmp rfl) (by first | rfl | exact Dig.one _ | (simp; done)) el_api_Digest (by first | rfl | exact Dig.size _ | (simp; done)) 1 rfl (by first | exact of_decide_eq_true rfl | (simp; done)) ?_; clear hst; intro WS9 hst; simp only [List.set_cons_zero, List.set_cons_succ] at hst)  | (refine L_storeM rfl rfl hst rfl (by rfl) (ev_tmp rfl) (by first | rfl | exact Dig.one _ | (simp; done)) el_api_Digest (by first | rfl | exact Dig.size _ | (simp; done)) 2 rfl (by first | exact of_decide_eq_true rfl | (simp; done)) ?_; clear hst; intro WS9 hst; simp only [List.set_cons_zero, List.set_cons_succ] at hst))
        | fail)
      go_upto_region 22 with (first
        | (go_at_call 29; (try clear hnew); refine (sError_nil _).mono ?_; rintro e Wk17 ⟨rfl, hnew⟩; replace hst := hst.keep hnew)
        | fail)
      (try clear hnew)
      refine wp_region_idx [(0, 2), (1, 2), (2, 0), (3, 2), (4, 2), (5, 2), (6, 2), (7, 0), (8, 0), (10, 0), (11, 0), (9, 2), (12, 2), (13, 2), (14, 2), (15, 2)] (by kernel_rfl) (by kernel_rfl) ?_
      replace hst := hst.drew
      refine idx_g rfl ?_; go_wp2_with fail; refine ⟨by first | exact Below.refl _ _ | exact hnew.below, ?_⟩
      refine idx_g rfl ?_; go_wp2_with fail; refine ⟨by first | exact Below.refl _ _ | exact hnew.below, ?_⟩
      refine idx_q rfl rfl ?_; go_wp2_with (first | (refine L_un (t := 90) rfl (by rfl) rfl ?_) | (first | (refine L_loadA (d := some 90) rfl rfl rfl (by rfl) Tryd.underlying25 rfl el_api_Digest (by first | exact hst.get 0 rfl | exact hst.get 1 rfl | exact hst.get 2 rfl) (by first | rfl | exact Dig.size _ | (simp; done)) ?_) | (refine L_loadM (d := some 90) rfl rfl rfl (by rfl) Tryd.underlying25 rfl el_api_Digest (by first | assumption) (by first | rfl | exact Dig.size _ | (simp; done)) ?_)) | fail)
      refine idx_g rfl ?_; go_wp2_with (first | (refine L_un (t := 91) rfl (by rfl) rfl ?_) | (first | (refine L_loadA (d := some 91) rfl rfl rfl (by rfl) Tryd.underlying25 rfl el_api_Digest (by first | exact hst.get 0 rfl | exact hst.get 1 rfl | exact hst.get 2 rfl) (by first | rfl | exact Dig.size _ | (simp; done)) ?_) | (refine L_loadM (d := some 91) rfl rfl rfl (by rfl) Tryd.underlying25 rfl el_api_Digest (by first | assumption) (by first | rfl | exact Dig.size _ | (simp; done)) ?_)) | fail); refine ⟨by first | exact Below.refl _ _ | exact hnew.below, ?_⟩
      refine idx_g rfl ?_; go_wp2_with (first | (refine L_un (t := 92) rfl (by rfl) rfl ?_) | (go_at_call 35; (try clear hnew); with_reducible refine (node_any _ _ _ (HT.out.of hst)).mono ?_; rintro e Wk18 ⟨rfl, hnew⟩; replace hst := hst.keep hnew) | (go_at_call 36; (try clear hnew); with_reducible refine (rnode_any _ _ _).mono ?_; rintro e Wk19 ⟨rfl, hnew⟩; replace hst := hst.keep hnew) | (refine L_eqD (d := some 92) rfl rfl rfl Tryd.underlying25 Tryd.underlying5 el_uint8 eqG_D (ev_tmp rfl) (ev_tmp rfl) ?_; (try rw [HZ.out])) | fail); refine ⟨by first | exact Below.refl _ _ | exact hnew.below, ?_⟩
      refine idx_g rfl ?_; go_wp2_with (first | (first | (refine L_pickF (d := some 93) rfl rfl rfl (ev_tmp rfl) ev_const ?_) | (refine L_pickT (d := some 93) rfl rfl rfl (ev_tmp rfl) (ev_tmp rfl) ?_)) | fail); refine ⟨by first | exact Below.refl _ _ | exact hnew.below, ?_⟩
      refine idx_g rfl ?_; go_wp2_with fail; refine ⟨by first | exact Below.refl _ _ | exact hnew.below, ?_⟩
      refine idx_q rfl rfl ?_; go_wp2_with (first | (refine L_un (t := 95) rfl (by rfl) rfl ?_) | (first | (refine L_loadA (d := some 95) rfl rfl rfl (by rfl) Tryd.underlying25 rfl el_api_Digest (by first | exact hst.get 0 rfl | exact hst.get 1 rfl | exact hst.get 2 rfl) (by first | rfl | exact Dig.size _ | (simp; done)) ?_) | (refine L_loadM (d := some 95) rfl rfl rfl (by rfl) Tryd.underlying25 rfl el_api_Digest (by first | assumption) (by first | rfl | exact Dig.size _ | (simp; done)) ?_)) | fail)
      refine idx_q rfl rfl ?_; go_wp2_with (first | (refine L_un (t := 96) rfl (by rfl) rfl ?_) | (first | (refine L_loadA (d := some 96) rfl rfl rfl (by rfl) Tryd.underlying25 rfl el_api_Digest (by first | exact hst.get 0 rfl | exact hst.get 1 rfl | exact hst.get 2 rfl) (by first | rfl | exact Dig.size _ | (simp; done)) ?_) | (refine L_loadM (d := some 96) rfl rfl rfl (by rfl) Tryd.underlying25 rfl el_api_Digest (by first | assumption) (by first | rfl | exact Dig.size _ | (simp; done)) ?_)) | fail)
      refine idx_q rfl rfl ?_; go_wp2_with (first | (refine L_un (t := 98) rfl (by rfl) rfl ?_) | (first | (refine L_loadA (d := some 98) rfl rfl rfl (by rfl) Tryd.underlying25 rfl el_api_Digest (by first | exact hst.get 0 rfl | exact hst.get 1 rfl | exact hst.get 2 rfl) (by first | rfl | exact Dig.size _ | (simp; done)) ?_) | (refine L_loadM (d := some 98) rfl rfl rfl (by rfl) Tryd.underlying25 rfl el_api_Digest (by first | assumption) (by first | rfl | exact Dig.size _ | (simp; done)) ?_)) | fail)
      refine idx_q rfl rfl ?_; go_wp2_with (first | (refine L_un (t := 99) rfl (by rfl) rfl ?_) | (first | (refine L_loadA (d := some 99) rfl rfl rfl (by rfl) Tryd.underlying25 rfl el_api_Digest (by first | exact hst.get 0 rfl | exact hst.get 1 rfl | exact hst.get 2 rfl) (by first | rfl | exact Dig.size _ | (simp; done)) ?_) | (refine L_loadM (d := some 99) rfl rfl rfl (by rfl) Tryd.underlying25 rfl el_api_Digest (by first | assumption) (by first | rfl | exact Dig.size _ | (simp; done)) ?_)) | fail)
      refine idx_g rfl ?_; go_wp2_with (first | (refine L_un (t := 97) rfl (by rfl) rfl ?_) | (go_at_call 35; (try clear hnew); with_reducible refine (node_any _ _ _ (HT.out.of hst)).mono ?_; rintro e Wk18 ⟨rfl, hnew⟩; replace hst := hst.keep hnew) | (go_at_call 36; (try clear hnew); with_reducible refine (rnode_any _ _ _).mono ?_; rintro e Wk19 ⟨rfl, hnew⟩; replace hst := hst.keep hnew) | fail); refine ⟨by first | exact Below.refl _ _ | exact hnew.below, ?_⟩
      refine idx_g rfl ?_; go_wp2_with (first | (refine L_un (t := 100) rfl (by rfl) rfl ?_) | (go_at_call 35; (try clear hnew); with_reducible refine (node_any _ _ _ (HT.out.of hst)).mono ?_; rintro e Wk18 ⟨rfl, hnew⟩; replace hst := hst.keep hnew) | (go_at_call 36; (try clear hnew); with_reducible refine (rnode_any _ _ _).mono ?_; rintro e Wk19 ⟨rfl, hnew⟩; replace hst := hst.keep hnew) | fail); refine ⟨by first | exact Below.refl _ _ | exact hnew.below, ?_⟩
      refine idx_g rfl ?_; go_wp2_with (first | (refine L_un (t := 101) rfl (by rfl) rfl ?_) | (go_at_call 35; (try clear hnew); with_reducible refine (node_any _ _ _ (HT.out.of hst)).mono ?_; rintro e Wk18 ⟨rfl, hnew⟩; replace hst := hst.keep hnew) | (go_at_call 36; (try clear hnew); with_reducible refine (rnode_any _ _ _).mono ?_; rintro e Wk19 ⟨rfl, hnew⟩; replace hst := hst.keep hnew) | (refine L_eqD (d := some 101) rfl rfl rfl Tryd.underlying25 Tryd.underlying5 el_uint8 eqG_D (ev_tmp rfl) (ev_tmp rfl) ?_; (try rw [HN.out])) | fail); refine ⟨by first | exact Below.refl _ _ | exact hnew.below, ?_⟩
      refine idx_g rfl ?_; go_wp2_with (first | (first | (refine L_pickF (d := some 102) rfl rfl rfl (ev_tmp rfl) ev_const ?_) | (refine L_pickT (d := some 102) rfl rfl rfl (ev_tmp rfl) (ev_tmp rfl) ?_)) | fail); refine ⟨by first | exact Below.refl _ _ | exact hnew.below, ?_⟩
      refine idx_g rfl ?_; go_wp2_with fail; refine ⟨by first | exact Below.refl _ _ | exact hnew.below, ?_⟩
      refine idx_nil ?_
      go_wp2_with fail
      go_ret
      exact ⟨rfl, hst.forget⟩
    · have HF := Lib.hid (fun w => tFold_length l B m d i.toNat s.toNat w (by omega) (by omega) hm)
      rw [ei, es] at HF
      have h5 : ((m : Int) != (longN i.toNat s.toNat : Int)) = true := by rw [bne_iff_ne]; omega
      generalize longN i.toNat s.toNat = lg at *
      clear hm ei es g1 g2 g3 g4
      have HZ := Lib.hid (show decide (zeroD = zeroD) = true by simp)
      have HN := Lib.hid (show decide (nodeN l zeroD = nodeN l zeroD) = true by simp)
      go_upto_region 15 with (first
        | (refine L_allocA (d := some 17) rfl rfl rfl el_api_Digest ?_; (try clear hnew); intro g17 W17 hnew; replace hst := hst.trans hnew; simp only [List.cons_append, List.nil_append] at hst)
        | fail)
      go_upto_region 17 with (first
        | fail)
      go_upto_region 18 with (first
        | (go_at_call 18; (try clear hnew); refine (HL.out _).mono ?_; rintro e Wk20 ⟨rfl, hnew⟩; replace hst := hst.keep hnew)
        | fail)
      go_upto_region 20 with (first
        | fail)
      go_upto_region 21 with (first
        | (go_at_call 20; (try clear hnew); refine (HF.out _).mono ?_; rintro e Wk21 ⟨rfl, hnew⟩; replace hst := hst.keep hnew)
        | (first | (refine L_loadA (d := some 78) rfl rfl rfl (by rfl) Tryd.underlying25 rfl el_api_Digest (by first | exact hst.get 0 rfl | exact hst.get 1 rfl | exact hst.get 2 rfl) (by first | rfl | exact Dig.size _ | (simp; done)) ?_) | (refine L_loadM (d := some 78) rfl rfl rfl (by rfl) Tryd.underlying25 rfl el_api_Digest (by first | assumption) (by first | rfl | exact Dig.size _ | (simp; done)) ?_))
        | (refine L_allocA (d := some 18) rfl rfl rfl el_api_Digest ?_; (try clear hnew); intro g18 W18 hnew; replace hst := hst.trans hnew; simp only [List.cons_append, List.nil_append] at hst)
        | (refine wpl_at (.store 25 (.tmp 18) (.tmp 83)) rfl ?_; first | (refine L_storeA rfl rfl hst rfl (by rfl) (ev_tmp rfl) (by first | rfl | exact Dig.one _ | (simp; done)) el_api_Digest (by first | rfl | exact Dig.size _ | (simp; done)) 0 rfl (by first | rfl | exact Dig.size _ | (simp; done)) ?_; clear hst; intro WS9 hst; simp only [List.set_cons_zero, List.set_cons_succ] at hst) | (refine L_storeA rfl rfl hst rfl (by rfl) (ev_tmp rfl) (by first | rfl | exact Dig.one _ | (simp; done)) el_api_Digest (by first | rfl | exact Dig.size _ | (simp; done)) 1 rfl (by first | rfl | exact Dig.size _ | (simp; done)) ?_; clear hst; intro WS9 hst; simp only [List.set_cons_zero, List.set_cons_succ] at hst) | (refine L_storeA rfl rfl hst rfl (by rfl) (ev_tmp rfl) (by first | rfl | exact Dig.one _ | (simp; done)) el_api_Digest (by first | rfl | exact Dig.size _ | (simp; done)) 2 rfl (by first | rfl | exact Dig.size _ | (simp; done)) ?_; clear hst; intro WS9 hst; simp only [List.set_cons_zero, List.set_cons_succ] at hst) | (refine L_storeM rfl rfl hst rfl (by rfl) (ev_tmp rfl) (by first | rfl | exact Dig.one _ | (simp; done)) el_api_Digest (by first | rfl | exact Dig.size _ | (simp; done)) 0 rfl (by first | exact of_decide_eq_true rfl | (simp; done)) ?_; clear hst; intro WS9 hst; simp only [List.set_cons_zero, List.set_cons_succ] at hst)  | (refine L_storeM rfl rfl hst rfl (by rfl) (ev_tmp rfl) (by first | rfl | exact Dig.one _ | (simp; done)) el_api_Digest (by first | rfl | exact Dig.size _ | (simp; done)) 1 rfl (by first | exact of_decide_eq_true rfl | (simp; done)) ?_; clear hst; intro WS9 hst; simp only [List.set_cons_zero, List.set_cons_succ] at hst)  | (refine L_storeM rfl rfl hst rfl (by rfl) (ev_tmp rfl) (by first | rfl | exact Dig.one _ | (simp; done)) el_api_Digest (by first | rfl | exact Dig.size _ | (simp; done)) 2 rfl (by first | exact of_decide_eq_true rfl | (simp; done)) ?_; clear hst; intro WS9 hst; simp only [List.set_cons_zero, List.set_cons_succ] at hst))
        | fail)
      go_upto_region 22 with (first
        | (go_at_call 29; (try clear hnew); refine (sError_any 3 _ (HE.out.of hst)).mono ?_; rintro e Wk22 ⟨rfl, hnew⟩; replace hst := hst.keep hnew)
        | fail)
      (try clear hnew)
      refine wp_region_idx [(0, 2), (1, 2), (2, 0), (3, 2), (4, 2), (5, 2), (6, 2), (7, 0), (8, 0), (10, 0), (11, 0), (9, 2), (12, 2), (13, 2), (14, 2), (15, 2)] (by kernel_rfl) (by kernel_rfl) ?_
      replace hst := hst.drew
      refine idx_g rfl ?_; go_wp2_with fail; refine ⟨by first | exact Below.refl _ _ | exact hnew.below, ?_⟩
      refine idx_g rfl ?_; go_wp2_with fail; refine ⟨by first | exact Below.refl _ _ | exact hnew.below, ?_⟩
      refine idx_q rfl rfl ?_; go_wp2_with (first | (refine L_un (t := 90) rfl (by rfl) rfl ?_) | (first | (refine L_loadA (d := some 90) rfl rfl rfl (by rfl) Tryd.underlying25 rfl el_api_Digest (by first | exact hst.get 0 rfl | exact hst.get 1 rfl | exact hst.get 2 rfl) (by first | rfl | exact Dig.size _ | (simp; done)) ?_) | (refine L_loadM (d := some 90) rfl rfl rfl (by rfl) Tryd.underlying25 rfl el_api_Digest (by first | assumption) (by first | rfl | exact Dig.size _ | (simp; done)) ?_)) | fail)
      refine idx_g rfl ?_; go_wp2_with (first | (refine L_un (t := 91) rfl (by rfl) rfl ?_) | (first | (refine L_loadA (d := some 91) rfl rfl rfl (by rfl) Tryd.underlying25 rfl el_api_Digest (by first | exact hst.get 0 rfl | exact hst.get 1 rfl | exact hst.get 2 rfl) (by first | rfl | exact Dig.size _ | (simp; done)) ?_) | (refine L_loadM (d := some 91) rfl rfl rfl (by rfl) Tryd.underlying25 rfl el_api_Digest (by first | assumption) (by first | rfl | exact Dig.size _ | (simp; done)) ?_)) | fail); refine ⟨by first | exact Below.refl _ _ | exact hnew.below, ?_⟩
      refine idx_g rfl ?_; go_wp2_with (first | (refine L_un (t := 92) rfl (by rfl) rfl ?_) | (go_at_call 35; (try clear hnew); with_reducible refine (node_any _ _ _ (HT.out.of hst)).mono ?_; rintro e Wk23 ⟨rfl, hnew⟩; replace hst := hst.keep hnew) | (go_at_call 36; (try clear hnew); with_reducible refine (rnode_any _ _ _).mono ?_; rintro e Wk24 ⟨rfl, hnew⟩; replace hst := hst.keep hnew) | (refine L_eqD (d := some 92) rfl rfl rfl Tryd.underlying25 Tryd.underlying5 el_uint8 eqG_D (ev_tmp rfl) (ev_tmp rfl) ?_; (try rw [HZ.out])) | fail); refine ⟨by first | exact Below.refl _ _ | exact hnew.below, ?_⟩
      refine idx_g rfl ?_; go_wp2_with (first | (first | (refine L_pickF (d := some 93) rfl rfl rfl (ev_tmp rfl) ev_const ?_) | (refine L_pickT (d := some 93) rfl rfl rfl (ev_tmp rfl) (ev_tmp rfl) ?_)) | fail); refine ⟨by first | exact Below.refl _ _ | exact hnew.below, ?_⟩
      refine idx_g rfl ?_; go_wp2_with fail; refine ⟨by first | exact Below.refl _ _ | exact hnew.below, ?_⟩
      refine idx_q rfl rfl ?_; go_wp2_with (first | (refine L_un (t := 95) rfl (by rfl) rfl ?_) | (first | (refine L_loadA (d := some 95) rfl rfl rfl (by rfl) Tryd.underlying25 rfl el_api_Digest (by first | exact hst.get 0 rfl | exact hst.get 1 rfl | exact hst.get 2 rfl) (by first | rfl | exact Dig.size _ | (simp; done)) ?_) | (refine L_loadM (d := some 95) rfl rfl rfl (by rfl) Tryd.underlying25 rfl el_api_Digest (by first | assumption) (by first | rfl | exact Dig.size _ | (simp; done)) ?_)) | fail)
      refine idx_q rfl rfl ?_; go_wp2_with (first | (refine L_un (t := 96) rfl (by rfl) rfl ?_) | (first | (refine L_loadA (d := some 96) rfl rfl rfl (by rfl) Tryd.underlying25 rfl el_api_Digest (by first | exact hst.get 0 rfl | exact hst.get 1 rfl | exact hst.get 2 rfl) (by first | rfl | exact Dig.size _ | (simp; done)) ?_) | (refine L_loadM (d := some 96) rfl rfl rfl (by rfl) Tryd.underlying25 rfl el_api_Digest (by first | assumption) (by first | rfl | exact Dig.size _ | (simp; done)) ?_)) | fail)
      refine idx_q rfl rfl ?_; go_wp2_with (first | (refine L_un (t := 98) rfl (by rfl) rfl ?_) | (first | (refine L_loadA (d := some 98) rfl rfl rfl (by rfl) Tryd.underlying25 rfl el_api_Digest (by first | exact hst.get 0 rfl | exact hst.get 1 rfl | exact hst.get 2 rfl) (by first | rfl | exact Dig.size _ | (simp; done)) ?_) | (refine L_loadM (d := some 98) rfl rfl rfl (by rfl) Tryd.underlying25 rfl el_api_Digest (by first | assumption) (by first | rfl | exact Dig.size _ | (simp; done)) ?_)) | fail)
      refine idx_q rfl rfl ?_; go_wp2_with (first | (refine L_un (t := 99) rfl (by rfl) rfl ?_) | (first | (refine L_loadA (d := some 99) rfl rfl rfl (by rfl) Tryd.underlying25 rfl el_api_Digest (by first | exact hst.get 0 rfl | exact hst.get 1 rfl | exact hst.get 2 rfl) (by first | rfl | exact Dig.size _ | (simp; done)) ?_) | (refine L_loadM (d := some 99) rfl rfl rfl (by rfl) Tryd.underlying25 rfl el_api_Digest (by first | assumption) (by first | rfl | exact Dig.size _ | (simp; done)) ?_)) | fail)
      refine idx_g rfl ?_; go_wp2_with (first | (refine L_un (t := 97) rfl (by rfl) rfl ?_) | (go_at_call 35; (try clear hnew); with_reducible refine (node_any _ _ _ (HT.out.of hst)).mono ?_; rintro e Wk23 ⟨rfl, hnew⟩; replace hst := hst.keep hnew) | (go_at_call 36; (try clear hnew); with_reducible refine (rnode_any _ _ _).mono ?_; rintro e Wk24 ⟨rfl, hnew⟩; replace hst := hst.keep hnew) | fail); refine ⟨by first | exact Below.refl _ _ | exact hnew.below, ?_⟩
      refine idx_g rfl ?_; go_wp2_with (first | (refine L_un (t := 100) rfl (by rfl) rfl ?_) | (go_at_call 35; (try clear hnew); with_reducible refine (node_any _ _ _ (HT.out.of hst)).mono ?_; rintro e Wk23 ⟨rfl, hnew⟩; replace hst := hst.keep hnew) | (go_at_call 36; (try clear hnew); with_reducible refine (rnode_any _ _ _).mono ?_; rintro e Wk24 ⟨rfl, hnew⟩; replace hst := hst.keep hnew) | fail); refine ⟨by first | exact Below.refl _ _ | exact hnew.below, ?_⟩
      refine idx_g rfl ?_; go_wp2_with (first | (refine L_un (t := 101) rfl (by rfl) rfl ?_) | (go_at_call 35; (try clear hnew); with_reducible refine (node_any _ _ _ (HT.out.of hst)).mono ?_; rintro e Wk23 ⟨rfl, hnew⟩; replace hst := hst.keep hnew) | (go_at_call 36; (try clear hnew); with_reducible refine (rnode_any _ _ _).mono ?_; rintro e Wk24 ⟨rfl, hnew⟩; replace hst := hst.keep hnew) | (refine L_eqD (d := some 101) rfl rfl rfl Tryd.underlying25 Tryd.underlying5 el_uint8 eqG_D (ev_tmp rfl) (ev_tmp rfl) ?_; (try rw [HN.out])) | fail); refine ⟨by first | exact Below.refl _ _ | exact hnew.below, ?_⟩
      refine idx_g rfl ?_; go_wp2_with (first | (first | (refine L_pickF (d := some 102) rfl rfl rfl (ev_tmp rfl) ev_const ?_) | (refine L_pickT (d := some 102) rfl rfl rfl (ev_tmp rfl) (ev_tmp rfl) ?_)) | fail); refine ⟨by first | exact Below.refl _ _ | exact hnew.below, ?_⟩
      refine idx_g rfl ?_; go_wp2_with fail; refine ⟨by first | exact Below.refl _ _ | exact hnew.below, ?_⟩
      refine idx_nil ?_
      go_wp2_with fail
      go_ret
      exact ⟨rfl, hst.forget⟩

set_option maxHeartbeats 8000000 in
set_option maxRecDepth 100000 in
theorem treePaths_B (w : World) (hT : Tb w) (hE : Eb w) (ls : List Dig) (A : Option Addr) (n c : Nat) (hx : SlR w A n c 32 (digsL ls)) (i : Int) (l : Dig) (s : Int) (path : List Dig) (B : Option Addr) (m d : Nat) (hy : SlR w B m d 32 (digsL path)) (hn : n ≤ 256) (h1 : i < 0) :
    Calls Tryd.prog 11 #[.slice A n c, .int .i64 i, l.v, .int .i64 s, .slice B m d] w fun e w' => e = .returned (.bool true) ∧ St w w' [] := by
  have hst := St.refl w
  have HT := Lib.hid hT
  have HE := Lib.hid hE
  have hcap2 := hy.2.1
  clear hT hE
  have h0 : ¬ (256 : Int) < (n : Int) := by omega
  go_enter Tryd.func11, Tryd.ntmps11
  go_upto_region 1 with (first
    | (refine L_boxA (d := some 7) rfl rfl rfl (ev_tmp rfl) ?_; (try clear hnew); intro g7 W7 hnew; replace hst := hst.trans hnew; simp only [List.cons_append, List.nil_append] at hst)
    | fail)
  go_upto_region 2 with (first
    | fail)
  go_upto_region 3 with (first
    | fail)
  go_upto_region 5 with (first
    | fail)
  go_upto_region 6 with (first
    | fail)
  go_upto_region 8 with (first
    | fail)
  go_upto_region 9 with (first
    | (go_at_call 17; (try clear hnew); refine (tPath_range A n c i _ hn (by omega)).mono ?_; rintro e Wk25 ⟨rfl, hnew⟩; replace hst := hst.keep hnew)
    | fail)
  go_upto_region 10 with (first
    | (go_at_call 29; (try clear hnew); refine (sError_any 2 _ (HE.out.of hst)).mono ?_; rintro e Wk26 ⟨rfl, hnew⟩; replace hst := hst.keep hnew)
    | fail)
  go_upto_region 11 with (first
    | (go_at_call 33; (try clear hnew); refine (sameD_any [] [] none none 0 0 0 0 _ (SlR.nil_ _ 32) (SlR.nil_ _ 32)).mono ?_; rintro e Wk27 ⟨rfl, hnew⟩; replace hst := hst.keep hnew)
    | fail)
  go_upto_region 13 with (first
    | fail)
  go_upto_region 14 with (first
    | fail)
  (try clear hnew)
  by_cases hin : 1 ≤ s ∧ s ≤ 256 ∧ 0 ≤ i ∧ i < s
  case neg =>
    have h : s < 1 ∨ ¬ s < 1 ∧ 256 < s ∨ ¬ s < 1 ∧ ¬ 256 < s ∧ i < 0 ∨ ¬ s < 1 ∧ ¬ 256 < s ∧ ¬ i < 0 ∧ s ≤ i := by omega
    have H := Lib.hid (fun w => tFold_range l B m d i s w h)
    clear hin
    rcases h with h | ⟨h, k2⟩ | ⟨h, k2, k3⟩ | ⟨h, k2, k3, k4⟩
    all_goals
      go_upto_region 15 with (first
        | (refine L_allocA (d := some 17) rfl rfl rfl el_api_Digest ?_; (try clear hnew); intro g17 W17 hnew; replace hst := hst.trans hnew; simp only [List.cons_append, List.nil_append] at hst)
        | fail)
      go_upto_region 16 with (first
        | fail)
      go_upto_region 20 with (first
        | fail)
      go_upto_region 21 with (first
        | (go_at_call 20; (try clear hnew); refine (H.out _).mono ?_; rintro e Wk28 ⟨rfl, hnew⟩; replace hst := hst.keep hnew)
        | (first | (refine L_loadA (d := some 78) rfl rfl rfl (by rfl) Tryd.underlying25 rfl el_api_Digest (by first | exact hst.get 0 rfl | exact hst.get 1 rfl | exact hst.get 2 rfl) (by first | rfl | exact Dig.size _ | (simp; done)) ?_) | (refine L_loadM (d := some 78) rfl rfl rfl (by rfl) Tryd.underlying25 rfl el_api_Digest (by first | assumption) (by first | rfl | exact Dig.size _ | (simp; done)) ?_))
        | (refine L_allocA (d := some 18) rfl rfl rfl el_api_Digest ?_; (try clear hnew); intro g18 W18 hnew; replace hst := hst.trans hnew; simp only [List.cons_append, List.nil_append] at hst)
        | (refine wpl_at (.store 25 (.tmp 18) (.tmp 83)) rfl ?_; first | (refine L_storeA rfl rfl hst rfl (by rfl) (ev_tmp rfl) (by first | rfl | exact Dig.one _ | (simp; done)) el_api_Digest (by first | rfl | exact Dig.size _ | (simp; done)) 0 rfl (by first | rfl | exact Dig.size _ | (simp; done)) ?_; clear hst; intro WS9 hst; simp only [List.set_cons_zero, List.set_cons_succ] at hst) | (refine L_storeA rfl rfl hst rfl (by rfl) (ev_tmp rfl) (by first | rfl | exact Dig.one _ | (simp; done)) el_api_Digest (by first | rfl | exact Dig.size _ | (simp; done)) 1 rfl (by first | rfl | exact Dig.size _ | (simp; done)) ?_; clear hst; intro WS9 hst; simp only [List.set_cons_zero, List.set_cons_succ] at hst) | (refine L_storeA rfl rfl hst rfl (by rfl) (ev_tmp rfl) (by first | rfl | exact Dig.one _ | (simp; done)) el_api_Digest (by first | rfl | exact Dig.size _ | (simp; done)) 2 rfl (by first | rfl | exact Dig.size _ | (simp; done)) ?_; clear hst; intro WS9 hst; simp only [List.set_cons_zero, List.set_cons_succ] at hst) | (refine L_storeM rfl rfl hst rfl (by rfl) (ev_tmp rfl) (by first | rfl | exact Dig.one _ | (simp; done)) el_api_Digest (by first | rfl | exact Dig.size _ | (simp; done)) 0 rfl (by first | exact of_decide_eq_true rfl | (simp; done)) ?_; clear hst; intro WS9 hst; simp only [List.set_cons_zero, List.set_cons_succ] at hst)  | (refine L_storeM rfl rfl hst rfl (by rfl) (ev_tmp rfl) (by first | rfl | exact Dig.one _ | (simp; done)) el_api_Digest (by first | rfl | exact Dig.size _ | (simp; done)) 1 rfl (by first | exact of_decide_eq_true rfl | (simp; done)) ?_; clear hst; intro WS9 hst; simp only [List.set_cons_zero, List.set_cons_succ] at hst)  | (refine L_storeM rfl rfl hst rfl (by rfl) (ev_tmp rfl) (by first | rfl | exact Dig.one _ | (simp; done)) el_api_Digest (by first | rfl | exact Dig.size _ | (simp; done)) 2 rfl (by first | exact of_decide_eq_true rfl | (simp; done)) ?_; clear hst; intro WS9 hst; simp only [List.set_cons_zero, List.set_cons_succ] at hst))
        | fail)
      go_upto_region 22 with (first
        | (go_at_call 29; (try clear hnew); refine (sError_any 2 _ (HE.out.of hst)).mono ?_; rintro e Wk29 ⟨rfl, hnew⟩; replace hst := hst.keep hnew)
        | fail)
      (try clear hnew)
      refine wp_region_idx [(0, 2), (1, 2), (2, 0), (3, 2), (4, 2), (5, 2), (6, 2), (7, 0), (8, 0), (10, 0), (11, 0), (9, 2), (12, 2), (13, 2), (14, 2), (15, 2)] (by kernel_rfl) (by kernel_rfl) ?_
      replace hst := hst.drew
      refine idx_g rfl ?_; go_wp2_with fail; refine ⟨by first | exact Below.refl _ _ | exact hnew.below, ?_⟩
      refine idx_g rfl ?_; go_wp2_with fail; refine ⟨by first | exact Below.refl _ _ | exact hnew.below, ?_⟩
      refine idx_q rfl rfl ?_; go_wp2_with (first | (refine L_un (t := 90) rfl (by rfl) rfl ?_) | (first | (refine L_loadA (d := some 90) rfl rfl rfl (by rfl) Tryd.underlying25 rfl el_api_Digest (by first | exact hst.get 0 rfl | exact hst.get 1 rfl | exact hst.get 2 rfl) (by first | rfl | exact Dig.size _ | (simp; done)) ?_) | (refine L_loadM (d := some 90) rfl rfl rfl (by rfl) Tryd.underlying25 rfl el_api_Digest (by first | assumption) (by first | rfl | exact Dig.size _ | (simp; done)) ?_)) | fail)
      refine idx_g rfl ?_; go_wp2_with (first | (refine L_un (t := 91) rfl (by rfl) rfl ?_) | (first | (refine L_loadA (d := some 91) rfl rfl rfl (by rfl) Tryd.underlying25 rfl el_api_Digest (by first | exact hst.get 0 rfl | exact hst.get 1 rfl | exact hst.get 2 rfl) (by first | rfl | exact Dig.size _ | (simp; done)) ?_) | (refine L_loadM (d := some 91) rfl rfl rfl (by rfl) Tryd.underlying25 rfl el_api_Digest (by first | assumption) (by first | rfl | exact Dig.size _ | (simp; done)) ?_)) | fail); refine ⟨by first | exact Below.refl _ _ | exact hnew.below, ?_⟩
      refine idx_g rfl ?_; go_wp2_with (first | (refine L_un (t := 92) rfl (by rfl) rfl ?_) | (go_at_call 35; (try clear hnew); with_reducible refine (node_any _ _ _ (HT.out.of hst)).mono ?_; rintro e Wk30 ⟨rfl, hnew⟩; replace hst := hst.keep hnew) | (go_at_call 36; (try clear hnew); with_reducible refine (rnode_any _ _ _).mono ?_; rintro e Wk31 ⟨rfl, hnew⟩; replace hst := hst.keep hnew) | (refine L_eqD (d := some 92) rfl rfl rfl Tryd.underlying25 Tryd.underlying5 el_uint8 eqG_D (ev_tmp rfl) (ev_tmp rfl) ?_; (try rw [dEq _])) | fail); refine ⟨by first | exact Below.refl _ _ | exact hnew.below, ?_⟩
      refine idx_g rfl ?_; go_wp2_with (first | (first | (refine L_pickF (d := some 93) rfl rfl rfl (ev_tmp rfl) ev_const ?_) | (refine L_pickT (d := some 93) rfl rfl rfl (ev_tmp rfl) (ev_tmp rfl) ?_)) | fail); refine ⟨by first | exact Below.refl _ _ | exact hnew.below, ?_⟩
      refine idx_g rfl ?_; go_wp2_with fail; refine ⟨by first | exact Below.refl _ _ | exact hnew.below, ?_⟩
      refine idx_q rfl rfl ?_; go_wp2_with (first | (refine L_un (t := 95) rfl (by rfl) rfl ?_) | (first | (refine L_loadA (d := some 95) rfl rfl rfl (by rfl) Tryd.underlying25 rfl el_api_Digest (by first | exact hst.get 0 rfl | exact hst.get 1 rfl | exact hst.get 2 rfl) (by first | rfl | exact Dig.size _ | (simp; done)) ?_) | (refine L_loadM (d := some 95) rfl rfl rfl (by rfl) Tryd.underlying25 rfl el_api_Digest (by first | assumption) (by first | rfl | exact Dig.size _ | (simp; done)) ?_)) | fail)
      refine idx_q rfl rfl ?_; go_wp2_with (first | (refine L_un (t := 96) rfl (by rfl) rfl ?_) | (first | (refine L_loadA (d := some 96) rfl rfl rfl (by rfl) Tryd.underlying25 rfl el_api_Digest (by first | exact hst.get 0 rfl | exact hst.get 1 rfl | exact hst.get 2 rfl) (by first | rfl | exact Dig.size _ | (simp; done)) ?_) | (refine L_loadM (d := some 96) rfl rfl rfl (by rfl) Tryd.underlying25 rfl el_api_Digest (by first | assumption) (by first | rfl | exact Dig.size _ | (simp; done)) ?_)) | fail)
      refine idx_q rfl rfl ?_; go_wp2_with (first | (refine L_un (t := 98) rfl (by rfl) rfl ?_) | (first | (refine L_loadA (d := some 98) rfl rfl rfl (by rfl) Tryd.underlying25 rfl el_api_Digest (by first | exact hst.get 0 rfl | exact hst.get 1 rfl | exact hst.get 2 rfl) (by first | rfl | exact Dig.size _ | (simp; done)) ?_) | (refine L_loadM (d := some 98) rfl rfl rfl (by rfl) Tryd.underlying25 rfl el_api_Digest (by first | assumption) (by first | rfl | exact Dig.size _ | (simp; done)) ?_)) | fail)
      refine idx_q rfl rfl ?_; go_wp2_with (first | (refine L_un (t := 99) rfl (by rfl) rfl ?_) | (first | (refine L_loadA (d := some 99) rfl rfl rfl (by rfl) Tryd.underlying25 rfl el_api_Digest (by first | exact hst.get 0 rfl | exact hst.get 1 rfl | exact hst.get 2 rfl) (by first | rfl | exact Dig.size _ | (simp; done)) ?_) | (refine L_loadM (d := some 99) rfl rfl rfl (by rfl) Tryd.underlying25 rfl el_api_Digest (by first | assumption) (by first | rfl | exact Dig.size _ | (simp; done)) ?_)) | fail)
      refine idx_g rfl ?_; go_wp2_with (first | (refine L_un (t := 97) rfl (by rfl) rfl ?_) | (go_at_call 35; (try clear hnew); with_reducible refine (node_any _ _ _ (HT.out.of hst)).mono ?_; rintro e Wk30 ⟨rfl, hnew⟩; replace hst := hst.keep hnew) | (go_at_call 36; (try clear hnew); with_reducible refine (rnode_any _ _ _).mono ?_; rintro e Wk31 ⟨rfl, hnew⟩; replace hst := hst.keep hnew) | fail); refine ⟨by first | exact Below.refl _ _ | exact hnew.below, ?_⟩
      refine idx_g rfl ?_; go_wp2_with (first | (refine L_un (t := 100) rfl (by rfl) rfl ?_) | (go_at_call 35; (try clear hnew); with_reducible refine (node_any _ _ _ (HT.out.of hst)).mono ?_; rintro e Wk30 ⟨rfl, hnew⟩; replace hst := hst.keep hnew) | (go_at_call 36; (try clear hnew); with_reducible refine (rnode_any _ _ _).mono ?_; rintro e Wk31 ⟨rfl, hnew⟩; replace hst := hst.keep hnew) | fail); refine ⟨by first | exact Below.refl _ _ | exact hnew.below, ?_⟩
      refine idx_g rfl ?_; go_wp2_with (first | (refine L_un (t := 101) rfl (by rfl) rfl ?_) | (go_at_call 35; (try clear hnew); with_reducible refine (node_any _ _ _ (HT.out.of hst)).mono ?_; rintro e Wk30 ⟨rfl, hnew⟩; replace hst := hst.keep hnew) | (go_at_call 36; (try clear hnew); with_reducible refine (rnode_any _ _ _).mono ?_; rintro e Wk31 ⟨rfl, hnew⟩; replace hst := hst.keep hnew) | (refine L_eqD (d := some 101) rfl rfl rfl Tryd.underlying25 Tryd.underlying5 el_uint8 eqG_D (ev_tmp rfl) (ev_tmp rfl) ?_; (try rw [dEq _])) | fail); refine ⟨by first | exact Below.refl _ _ | exact hnew.below, ?_⟩
      refine idx_g rfl ?_; go_wp2_with (first | (first | (refine L_pickF (d := some 102) rfl rfl rfl (ev_tmp rfl) ev_const ?_) | (refine L_pickT (d := some 102) rfl rfl rfl (ev_tmp rfl) (ev_tmp rfl) ?_)) | fail); refine ⟨by first | exact Below.refl _ _ | exact hnew.below, ?_⟩
      refine idx_g rfl ?_; go_wp2_with fail; refine ⟨by first | exact Below.refl _ _ | exact hnew.below, ?_⟩
      refine idx_nil ?_
      go_wp2_with fail
      go_ret
      exact ⟨rfl, hst.forget⟩
  case pos => omega

set_option maxHeartbeats 8000000 in
set_option maxRecDepth 100000 in
theorem treePaths_C (w : World) (hT : Tb w) (hE : Eb w) (ls : List Dig) (A : Option Addr) (n c : Nat) (hx : SlR w A n c 32 (digsL ls)) (i : Int) (l : Dig) (s : Int) (path : List Dig) (B : Option Addr) (m d : Nat) (hy : SlR w B m d 32 (digsL path)) (hn : n ≤ 256) (h1 : ¬ i < 0) (h2 : (n : Int) ≤ i) :
    Calls Tryd.prog 11 #[.slice A n c, .int .i64 i, l.v, .int .i64 s, .slice B m d] w fun e w' => e = .returned (.bool true) ∧ St w w' [] := by
  have hst := St.refl w
  have HT := Lib.hid hT
  have HE := Lib.hid hE
  have hcap2 := hy.2.1
  clear hT hE
  have h0 : ¬ (256 : Int) < (n : Int) := by omega
  go_enter Tryd.func11, Tryd.ntmps11
  go_upto_region 1 with (first
    | (refine L_boxA (d := some 7) rfl rfl rfl (ev_tmp rfl) ?_; (try clear hnew); intro g7 W7 hnew; replace hst := hst.trans hnew; simp only [List.cons_append, List.nil_append] at hst)
    | fail)
  go_upto_region 2 with (first
    | fail)
  go_upto_region 3 with (first
    | fail)
  go_upto_region 5 with (first
    | fail)
  go_upto_region 6 with (first
    | fail)
  go_upto_region 8 with (first
    | fail)
  go_upto_region 9 with (first
    | (go_at_call 17; (try clear hnew); refine (tPath_range A n c i _ hn (by omega)).mono ?_; rintro e Wk32 ⟨rfl, hnew⟩; replace hst := hst.keep hnew)
    | fail)
  go_upto_region 10 with (first
    | (go_at_call 29; (try clear hnew); refine (sError_any 2 _ (HE.out.of hst)).mono ?_; rintro e Wk33 ⟨rfl, hnew⟩; replace hst := hst.keep hnew)
    | fail)
  go_upto_region 11 with (first
    | (go_at_call 33; (try clear hnew); refine (sameD_any [] [] none none 0 0 0 0 _ (SlR.nil_ _ 32) (SlR.nil_ _ 32)).mono ?_; rintro e Wk34 ⟨rfl, hnew⟩; replace hst := hst.keep hnew)
    | fail)
  go_upto_region 13 with (first
    | fail)
  go_upto_region 14 with (first
    | fail)
  (try clear hnew)
  by_cases hin : 1 ≤ s ∧ s ≤ 256 ∧ 0 ≤ i ∧ i < s
  case neg =>
    have h : s < 1 ∨ ¬ s < 1 ∧ 256 < s ∨ ¬ s < 1 ∧ ¬ 256 < s ∧ i < 0 ∨ ¬ s < 1 ∧ ¬ 256 < s ∧ ¬ i < 0 ∧ s ≤ i := by omega
    have H := Lib.hid (fun w => tFold_range l B m d i s w h)
    have HZ := Lib.hid (show decide (zeroD = zeroD) = true by simp)
    have HN := Lib.hid (show decide (nodeN l zeroD = nodeN l zeroD) = true by simp)
    clear hin
    rcases h with h | ⟨h, k2⟩ | ⟨h, k2, k3⟩ | ⟨h, k2, k3, k4⟩
    all_goals
      go_upto_region 15 with (first
        | (refine L_allocA (d := some 17) rfl rfl rfl el_api_Digest ?_; (try clear hnew); intro g17 W17 hnew; replace hst := hst.trans hnew; simp only [List.cons_append, List.nil_append] at hst)
        | fail)
      go_upto_region 16 with (first
        | fail)
      go_upto_region 20 with (first
        | fail)
      go_upto_region 21 with (first
        | (go_at_call 20; (try clear hnew); refine (H.out _).mono ?_; rintro e Wk35 ⟨rfl, hnew⟩; replace hst := hst.keep hnew)
        | (first | (refine L_loadA (d := some 78) rfl rfl rfl (by rfl) Tryd.underlying25 rfl el_api_Digest (by first | exact hst.get 0 rfl | exact hst.get 1 rfl | exact hst.get 2 rfl) (by first | rfl | exact Dig.size _ | (simp; done)) ?_) | (refine L_loadM (d := some 78) rfl rfl rfl (by rfl) Tryd.underlying25 rfl el_api_Digest (by first | assumption) (by first | rfl | exact Dig.size _ | (simp; done)) ?_))
        | (refine L_allocA (d := some 18) rfl rfl rfl el_api_Digest ?_; (try clear hnew); intro g18 W18 hnew; replace hst := hst.trans hnew; simp only [List.cons_append, List.nil_append] at hst)
        | (refine wpl_at (.store 25 (.tmp 18) (.tmp 83)) rfl ?_; first | (refine L_storeA rfl rfl hst rfl (by rfl) (ev_tmp rfl) (by first | rfl | exact Dig.one _ | (simp; done)) el_api_Digest (by first | rfl | exact Dig.size _ | (simp; done)) 0 rfl (by first | rfl | exact Dig.size _ | (simp; done)) ?_; clear hst; intro WS9 hst; simp only [List.set_cons_zero, List.set_cons_succ] at hst) | (refine L_storeA rfl rfl hst rfl (by rfl) (ev_tmp rfl) (by first | rfl | exact Dig.one _ | (simp; done)) el_api_Digest (by first | rfl | exact Dig.size _ | (simp; done)) 1 rfl (by first | rfl | exact Dig.size _ | (simp; done)) ?_; clear hst; intro WS9 hst; simp only [List.set_cons_zero, List.set_cons_succ] at hst) | (refine L_storeA rfl rfl hst rfl (by rfl) (ev_tmp rfl) (by first | rfl | exact Dig.one _ | (simp; done)) el_api_Digest (by first | rfl | exact Dig.size _ | (simp; done)) 2 rfl (by first | rfl | exact Dig.size _ | (simp; done)) ?_; clear hst; intro WS9 hst; simp only [List.set_cons_zero, List.set_cons_succ] at hst) | (refine L_storeM rfl rfl hst rfl (by rfl) (ev_tmp rfl) (by first | rfl | exact Dig.one _ | (simp; done)) el_api_Digest (by first | rfl | exact Dig.size _ | (simp; done)) 0 rfl (by first | exact of_decide_eq_true rfl | (simp; done)) ?_; clear hst; intro WS9 hst; simp only [List.set_cons_zero, List.set_cons_succ] at hst)  | (refine L_storeM rfl rfl hst rfl (by rfl) (ev_tmp rfl) (by first | rfl | exact Dig.one _ | (simp; done)) el_api_Digest (by first | rfl | exact Dig.size _ | (simp; done)) 1 rfl (by first | exact of_decide_eq_true rfl | (simp; done)) ?_; clear hst; intro WS9 hst; simp only [List.set_cons_zero, List.set_cons_succ] at hst)  | (refine L_storeM rfl rfl hst rfl (by rfl) (ev_tmp rfl) (by first | rfl | exact Dig.one _ | (simp; done)) el_api_Digest (by first | rfl | exact Dig.size _ | (simp; done)) 2 rfl (by first | exact of_decide_eq_true rfl | (simp; done)) ?_; clear hst; intro WS9 hst; simp only [List.set_cons_zero, List.set_cons_succ] at hst))
        | fail)
      go_upto_region 22 with (first
        | (go_at_call 29; (try clear hnew); refine (sError_any 2 _ (HE.out.of hst)).mono ?_; rintro e Wk36 ⟨rfl, hnew⟩; replace hst := hst.keep hnew)
        | fail)
      (try clear hnew)
      refine wp_region_idx [(0, 2), (1, 2), (2, 0), (3, 2), (4, 2), (5, 2), (6, 2), (7, 0), (8, 0), (10, 0), (11, 0), (9, 2), (12, 2), (13, 2), (14, 2), (15, 2)] (by kernel_rfl) (by kernel_rfl) ?_
      replace hst := hst.drew
      refine idx_g rfl ?_; go_wp2_with fail; refine ⟨by first | exact Below.refl _ _ | exact hnew.below, ?_⟩
      refine idx_g rfl ?_; go_wp2_with fail; refine ⟨by first | exact Below.refl _ _ | exact hnew.below, ?_⟩
      refine idx_q rfl rfl ?_; go_wp2_with (first | (refine L_un (t := 90) rfl (by rfl) rfl ?_) | (first | (refine L_loadA (d := some 90) rfl rfl rfl (by rfl) Tryd.underlying25 rfl el_api_Digest (by first | exact hst.get 0 rfl | exact hst.get 1 rfl | exact hst.get 2 rfl) (by first | rfl | exact Dig.size _ | (simp; done)) ?_) | (refine L_loadM (d := some 90) rfl rfl rfl (by rfl) Tryd.underlying25 rfl el_api_Digest (by first | assumption) (by first | rfl | exact Dig.size _ | (simp; done)) ?_)) | fail)
      refine idx_g rfl ?_; go_wp2_with (first | (refine L_un (t := 91) rfl (by rfl) rfl ?_) | (first | (refine L_loadA (d := some 91) rfl rfl rfl (by rfl) Tryd.underlying25 rfl el_api_Digest (by first | exact hst.get 0 rfl | exact hst.get 1 rfl | exact hst.get 2 rfl) (by first | rfl | exact Dig.size _ | (simp; done)) ?_) | (refine L_loadM (d := some 91) rfl rfl rfl (by rfl) Tryd.underlying25 rfl el_api_Digest (by first | assumption) (by first | rfl | exact Dig.size _ | (simp; done)) ?_)) | fail); refine ⟨by first | exact Below.refl _ _ | exact hnew.below, ?_⟩
      refine idx_g rfl ?_; go_wp2_with (first | (refine L_un (t := 92) rfl (by rfl) rfl ?_) | (go_at_call 35; (try clear hnew); with_reducible refine (node_any _ _ _ (HT.out.of hst)).mono ?_; rintro e Wk37 ⟨rfl, hnew⟩; replace hst := hst.keep hnew) | (go_at_call 36; (try clear hnew); with_reducible refine (rnode_any _ _ _).mono ?_; rintro e Wk38 ⟨rfl, hnew⟩; replace hst := hst.keep hnew) | (refine L_eqD (d := some 92) rfl rfl rfl Tryd.underlying25 Tryd.underlying5 el_uint8 eqG_D (ev_tmp rfl) (ev_tmp rfl) ?_; (try rw [HZ.out])) | fail); refine ⟨by first | exact Below.refl _ _ | exact hnew.below, ?_⟩
      refine idx_g rfl ?_; go_wp2_with (first | (first | (refine L_pickF (d := some 93) rfl rfl rfl (ev_tmp rfl) ev_const ?_) | (refine L_pickT (d := some 93) rfl rfl rfl (ev_tmp rfl) (ev_tmp rfl) ?_)) | fail); refine ⟨by first | exact Below.refl _ _ | exact hnew.below, ?_⟩
      refine idx_g rfl ?_; go_wp2_with fail; refine ⟨by first | exact Below.refl _ _ | exact hnew.below, ?_⟩
      refine idx_q rfl rfl ?_; go_wp2_with (first | (refine L_un (t := 95) rfl (by rfl) rfl ?_) | (first | (refine L_loadA (d := some 95) rfl rfl rfl (by rfl) Tryd.underlying25 rfl el_api_Digest (by first | exact hst.get 0 rfl | exact hst.get 1 rfl | exact hst.get 2 rfl) (by first | rfl | exact Dig.size _ | (simp; done)) ?_) | (refine L_loadM (d := some 95) rfl rfl rfl (by rfl) Tryd.underlying25 rfl el_api_Digest (by first | assumption) (by first | rfl | exact Dig.size _ | (simp; done)) ?_)) | fail)
      refine idx_q rfl rfl ?_; go_wp2_with (first | (refine L_un (t := 96) rfl (by rfl) rfl ?_) | (first | (refine L_loadA (d := some 96) rfl rfl rfl (by rfl) Tryd.underlying25 rfl el_api_Digest (by first | exact hst.get 0 rfl | exact hst.get 1 rfl | exact hst.get 2 rfl) (by first | rfl | exact Dig.size _ | (simp; done)) ?_) | (refine L_loadM (d := some 96) rfl rfl rfl (by rfl) Tryd.underlying25 rfl el_api_Digest (by first | assumption) (by first | rfl | exact Dig.size _ | (simp; done)) ?_)) | fail)
      refine idx_q rfl rfl ?_; go_wp2_with (first | (refine L_un (t := 98) rfl (by rfl) rfl ?_) | (first | (refine L_loadA (d := some 98) rfl rfl rfl (by rfl) Tryd.underlying25 rfl el_api_Digest (by first | exact hst.get 0 rfl | exact hst.get 1 rfl | exact hst.get 2 rfl) (by first | rfl | exact Dig.size _ | (simp; done)) ?_) | (refine L_loadM (d := some 98) rfl rfl rfl (by rfl) Tryd.underlying25 rfl el_api_Digest (by first | assumption) (by first | rfl | exact Dig.size _ | (simp; done)) ?_)) | fail)
      refine idx_q rfl rfl ?_; go_wp2_with (first | (refine L_un (t := 99) rfl (by rfl) rfl ?_) | (first | (refine L_loadA (d := some 99) rfl rfl rfl (by rfl) Tryd.underlying25 rfl el_api_Digest (by first | exact hst.get 0 rfl | exact hst.get 1 rfl | exact hst.get 2 rfl) (by first | rfl | exact Dig.size _ | (simp; done)) ?_) | (refine L_loadM (d := some 99) rfl rfl rfl (by rfl) Tryd.underlying25 rfl el_api_Digest (by first | assumption) (by first | rfl | exact Dig.size _ | (simp; done)) ?_)) | fail)
      refine idx_g rfl ?_; go_wp2_with (first | (refine L_un (t := 97) rfl (by rfl) rfl ?_) | (go_at_call 35; (try clear hnew); with_reducible refine (node_any _ _ _ (HT.out.of hst)).mono ?_; rintro e Wk37 ⟨rfl, hnew⟩; replace hst := hst.keep hnew) | (go_at_call 36; (try clear hnew); with_reducible refine (rnode_any _ _ _).mono ?_; rintro e Wk38 ⟨rfl, hnew⟩; replace hst := hst.keep hnew) | fail); refine ⟨by first | exact Below.refl _ _ | exact hnew.below, ?_⟩
      refine idx_g rfl ?_; go_wp2_with (first | (refine L_un (t := 100) rfl (by rfl) rfl ?_) | (go_at_call 35; (try clear hnew); with_reducible refine (node_any _ _ _ (HT.out.of hst)).mono ?_; rintro e Wk37 ⟨rfl, hnew⟩; replace hst := hst.keep hnew) | (go_at_call 36; (try clear hnew); with_reducible refine (rnode_any _ _ _).mono ?_; rintro e Wk38 ⟨rfl, hnew⟩; replace hst := hst.keep hnew) | fail); refine ⟨by first | exact Below.refl _ _ | exact hnew.below, ?_⟩
      refine idx_g rfl ?_; go_wp2_with (first | (refine L_un (t := 101) rfl (by rfl) rfl ?_) | (go_at_call 35; (try clear hnew); with_reducible refine (node_any _ _ _ (HT.out.of hst)).mono ?_; rintro e Wk37 ⟨rfl, hnew⟩; replace hst := hst.keep hnew) | (go_at_call 36; (try clear hnew); with_reducible refine (rnode_any _ _ _).mono ?_; rintro e Wk38 ⟨rfl, hnew⟩; replace hst := hst.keep hnew) | (refine L_eqD (d := some 101) rfl rfl rfl Tryd.underlying25 Tryd.underlying5 el_uint8 eqG_D (ev_tmp rfl) (ev_tmp rfl) ?_; (try rw [HN.out])) | fail); refine ⟨by first | exact Below.refl _ _ | exact hnew.below, ?_⟩
      refine idx_g rfl ?_; go_wp2_with (first | (first | (refine L_pickF (d := some 102) rfl rfl rfl (ev_tmp rfl) ev_const ?_) | (refine L_pickT (d := some 102) rfl rfl rfl (ev_tmp rfl) (ev_tmp rfl) ?_)) | fail); refine ⟨by first | exact Below.refl _ _ | exact hnew.below, ?_⟩
      refine idx_g rfl ?_; go_wp2_with fail; refine ⟨by first | exact Below.refl _ _ | exact hnew.below, ?_⟩
      refine idx_nil ?_
      go_wp2_with fail
      go_ret
      exact ⟨rfl, hst.forget⟩
  case pos =>
    obtain ⟨g1, g2, g3, g4⟩ := hin
    have k1 : ¬ s < 1 := by omega
    have k2 : ¬ 256 < s := by omega
    have k3 : ¬ i < 0 := by omega
    have k4 : ¬ s ≤ i := by omega
    have ei : ((i.toNat : Nat) : Int) = i := by omega
    have es : ((s.toNat : Nat) : Int) = s := by omega
    have HL := Lib.hid (fun w => rlong_any s.toNat i.toNat w (by omega) (by omega))
    rw [ei, es] at HL
    by_cases hm : m = longN i.toNat s.toNat
    · have HF := Lib.hid (fun w hT hs => tFold_any l path B m d i.toNat s.toNat w hT hs (by omega) (by omega) hm)
      have HG := Lib.hid (fun w hs => rfolded_any s.toNat l path B m d i.toNat w hs hm (by omega) (by omega))
      rw [ei, es] at HF HG
      rw [← hm] at HL
      clear hm ei es g1 g2 g3 g4
      generalize foldedN l i.toNat s.toNat path = u at *
      have HZ := Lib.hid (show decide (u = u) = true by simp)
      have HN := Lib.hid (show decide (nodeN l u = nodeN l u) = true by simp)
      go_upto_region 15 with (first
        | (refine L_allocA (d := some 17) rfl rfl rfl el_api_Digest ?_; (try clear hnew); intro g17 W17 hnew; replace hst := hst.trans hnew; simp only [List.cons_append, List.nil_append] at hst)
        | fail)
      go_upto_region 17 with (first
        | fail)
      go_upto_region 19 with (first
        | (go_at_call 18; (try clear hnew); refine (HL.out _).mono ?_; rintro e Wk39 ⟨rfl, hnew⟩; replace hst := hst.keep hnew)
        | fail)
      go_upto_region 20 with (first
        | (go_at_call 34; (try clear hnew); refine (HG.out _ (hst.old (by decide) hy)).mono ?_; rintro e Wk40 ⟨rfl, hnew⟩; replace hst := hst.keep hnew)
        | (first | (refine L_loadA (d := some 72) rfl rfl rfl (by rfl) Tryd.underlying25 rfl el_api_Digest (by first | exact hst.get 0 rfl | exact hst.get 1 rfl | exact hst.get 2 rfl) (by first | rfl | exact Dig.size _ | (simp; done)) ?_) | (refine L_loadM (d := some 72) rfl rfl rfl (by rfl) Tryd.underlying25 rfl el_api_Digest (by first | assumption) (by first | rfl | exact Dig.size _ | (simp; done)) ?_))
        | (refine wpl_at (.store 25 (.tmp 17) (.tmp 76)) rfl ?_; first | (refine L_storeA rfl rfl hst rfl (by rfl) (ev_tmp rfl) (by first | rfl | exact Dig.one _ | (simp; done)) el_api_Digest (by first | rfl | exact Dig.size _ | (simp; done)) 0 rfl (by first | rfl | exact Dig.size _ | (simp; done)) ?_; clear hst; intro WS5 hst; simp only [List.set_cons_zero, List.set_cons_succ] at hst) | (refine L_storeA rfl rfl hst rfl (by rfl) (ev_tmp rfl) (by first | rfl | exact Dig.one _ | (simp; done)) el_api_Digest (by first | rfl | exact Dig.size _ | (simp; done)) 1 rfl (by first | rfl | exact Dig.size _ | (simp; done)) ?_; clear hst; intro WS5 hst; simp only [List.set_cons_zero, List.set_cons_succ] at hst) | (refine L_storeA rfl rfl hst rfl (by rfl) (ev_tmp rfl) (by first | rfl | exact Dig.one _ | (simp; done)) el_api_Digest (by first | rfl | exact Dig.size _ | (simp; done)) 2 rfl (by first | rfl | exact Dig.size _ | (simp; done)) ?_; clear hst; intro WS5 hst; simp only [List.set_cons_zero, List.set_cons_succ] at hst) | (refine L_storeM rfl rfl hst rfl (by rfl) (ev_tmp rfl) (by first | rfl | exact Dig.one _ | (simp; done)) el_api_Digest (by first | rfl | exact Dig.size _ | (simp; done)) 0 rfl (by first | exact of_decide_eq_true rfl | (simp; done)) ?_; clear hst; intro WS5 hst; simp only [List.set_cons_zero, List.set_cons_succ] at hst)  | (refine L_storeM rfl rfl hst rfl (by rfl) (ev_tmp rfl) (by first | rfl | exact Dig.one _ | (simp; done)) el_api_Digest (by first | rfl | exact Dig.size _ | (simp; done)) 1 rfl (by first | exact of_decide_eq_true rfl | (simp; done)) ?_; clear hst; intro WS5 hst; simp only [List.set_cons_zero, List.set_cons_succ] at hst)  | (refine L_storeM rfl rfl hst rfl (by rfl) (ev_tmp rfl) (by first | rfl | exact Dig.one _ | (simp; done)) el_api_Digest (by first | rfl | exact Dig.size _ | (simp; done)) 2 rfl (by first | exact of_decide_eq_true rfl | (simp; done)) ?_; clear hst; intro WS5 hst; simp only [List.set_cons_zero, List.set_cons_succ] at hst))
        | fail)
      go_upto_region 21 with (first
        | (go_at_call 20; (try clear hnew); refine (HF.out _ (HT.out.of hst) (hst.old (by decide) hy)).mono ?_; rintro e Wk41 ⟨rfl, hnew⟩; replace hst := hst.keep hnew)
        | (first | (refine L_loadA (d := some 78) rfl rfl rfl (by rfl) Tryd.underlying25 rfl el_api_Digest (by first | exact hst.get 0 rfl | exact hst.get 1 rfl | exact hst.get 2 rfl) (by first | rfl | exact Dig.size _ | (simp; done)) ?_) | (refine L_loadM (d := some 78) rfl rfl rfl (by rfl) Tryd.underlying25 rfl el_api_Digest (by first | assumption) (by first | rfl | exact Dig.size _ | (simp; done)) ?_))
        | (refine L_allocA (d := some 18) rfl rfl rfl el_api_Digest ?_; (try clear hnew); intro g18 W18 hnew; replace hst := hst.trans hnew; simp only [List.cons_append, List.nil_append] at hst)
        | (refine wpl_at (.store 25 (.tmp 18) (.tmp 83)) rfl ?_; first | (refine L_storeA rfl rfl hst rfl (by rfl) (ev_tmp rfl) (by first | rfl | exact Dig.one _ | (simp; done)) el_api_Digest (by first | rfl | exact Dig.size _ | (simp; done)) 0 rfl (by first | rfl | exact Dig.size _ | (simp; done)) ?_; clear hst; intro WS9 hst; simp only [List.set_cons_zero, List.set_cons_succ] at hst) | (refine L_storeA rfl rfl hst rfl (by rfl) (ev_tmp rfl) (by first | rfl | exact Dig.one _ | (simp; done)) el_api_Digest (by first | rfl | exact Dig.size _ | (simp; done)) 1 rfl (by first | rfl | exact Dig.size _ | (simp; done)) ?_; clear hst; intro WS9 hst; simp only [List.set_cons_zero, List.set_cons_succ] at hst) | (refine L_storeA rfl rfl hst rfl (by rfl) (ev_tmp rfl) (by first | rfl | exact Dig.one _ | (simp; done)) el_api_Digest (by first | rfl | exact Dig.size _ | (simp; done)) 2 rfl (by first | rfl | exact Dig.size _ | (simp; done)) ?_; clear hst; intro WS9 hst; simp only [List.set_cons_zero, List.set_cons_succ] at hst) | (refine L_storeM rfl rfl hst rfl (by rfl) (ev_tmp rfl) (by first | rfl | exact Dig.one _ | (simp; done)) el_api_Digest (by first | rfl | exact Dig.size _ | (simp; done)) 0 rfl (by first | exact of_decide_eq_true rfl | (simp; done)) ?_; clear hst; intro WS9 hst; simp only [List.set_cons_zero, List.set_cons_succ] at hst)  | (refine L_storeM rfl rfl hst rfl (by rfl) (ev_tmp rfl) (by first | rfl | exact Dig.one _ | (simp; done)) el_api_Digest (by first | rfl | exact Dig.size _ | (simp; done)) 1 rfl (by first | exact of_decide_eq_true rfl | (simp; done)) ?_; clear hst; intro WS9 hst; simp only [List.set_cons_zero, List.set_cons_succ] at hst)  | (refine L_storeM rfl rfl hst rfl (by rfl) (ev_tmp rfl) (by first | rfl | exact Dig.one _ | (simp; done)) el_api_Digest (by first | rfl | exact Dig.size _ | (simp; done)) 2 rfl (by first | exact of_decide_eq_true rfl | (simp; done)) ?_; clear hst; intro WS9 hst; simp only [List.set_cons_zero, List.set_cons_succ] at hst))
        | fail)
      go_upto_region 22 with (first
        | (go_at_call 29; (try clear hnew); refine (sError_nil _).mono ?_; rintro e Wk42 ⟨rfl, hnew⟩; replace hst := hst.keep hnew)
        | fail)
      (try clear hnew)
      refine wp_region_idx [(0, 2), (1, 2), (2, 0), (3, 2), (4, 2), (5, 2), (6, 2), (7, 0), (8, 0), (10, 0), (11, 0), (9, 2), (12, 2), (13, 2), (14, 2), (15, 2)] (by kernel_rfl) (by kernel_rfl) ?_
      replace hst := hst.drew
      refine idx_g rfl ?_; go_wp2_with fail; refine ⟨by first | exact Below.refl _ _ | exact hnew.below, ?_⟩
      refine idx_g rfl ?_; go_wp2_with fail; refine ⟨by first | exact Below.refl _ _ | exact hnew.below, ?_⟩
      refine idx_q rfl rfl ?_; go_wp2_with (first | (refine L_un (t := 90) rfl (by rfl) rfl ?_) | (first | (refine L_loadA (d := some 90) rfl rfl rfl (by rfl) Tryd.underlying25 rfl el_api_Digest (by first | exact hst.get 0 rfl | exact hst.get 1 rfl | exact hst.get 2 rfl) (by first | rfl | exact Dig.size _ | (simp; done)) ?_) | (refine L_loadM (d := some 90) rfl rfl rfl (by rfl) Tryd.underlying25 rfl el_api_Digest (by first | assumption) (by first | rfl | exact Dig.size _ | (simp; done)) ?_)) | fail)
      refine idx_g rfl ?_; go_wp2_with (first | (refine L_un (t := 91) rfl (by rfl) rfl ?_) | (first | (refine L_loadA (d := some 91) rfl rfl rfl (by rfl) Tryd.underlying25 rfl el_api_Digest (by first | exact hst.get 0 rfl | exact hst.get 1 rfl | exact hst.get 2 rfl) (by first | rfl | exact Dig.size _ | (simp; done)) ?_) | (refine L_loadM (d := some 91) rfl rfl rfl (by rfl) Tryd.underlying25 rfl el_api_Digest (by first | assumption) (by first | rfl | exact Dig.size _ | (simp; done)) ?_)) | fail); refine ⟨by first | exact Below.refl _ _ | exact hnew.below, ?_⟩
      refine idx_g rfl ?_; go_wp2_with (first | (refine L_un (t := 92) rfl (by rfl) rfl ?_) | (go_at_call 35; (try clear hnew); with_reducible refine (node_any _ _ _ (HT.out.of hst)).mono ?_; rintro e Wk43 ⟨rfl, hnew⟩; replace hst := hst.keep hnew) | (go_at_call 36; (try clear hnew); with_reducible refine (rnode_any _ _ _).mono ?_; rintro e Wk44 ⟨rfl, hnew⟩; replace hst := hst.keep hnew) | (refine L_eqD (d := some 92) rfl rfl rfl Tryd.underlying25 Tryd.underlying5 el_uint8 eqG_D (ev_tmp rfl) (ev_tmp rfl) ?_; (try rw [HZ.out])) | fail); refine ⟨by first | exact Below.refl _ _ | exact hnew.below, ?_⟩
      refine idx_g rfl ?_; go_wp2_with (first | (first | (refine L_pickF (d := some 93) rfl rfl rfl (ev_tmp rfl) ev_const ?_) | (refine L_pickT (d := some 93) rfl rfl rfl (ev_tmp rfl) (ev_tmp rfl) ?_)) | fail); refine ⟨by first | exact Below.refl _ _ | exact hnew.below, ?_⟩
      refine idx_g rfl ?_; go_wp2_with fail; refine ⟨by first | exact Below.refl _ _ | exact hnew.below, ?_⟩
      refine idx_q rfl rfl ?_; go_wp2_with (first | (refine L_un (t := 95) rfl (by rfl) rfl ?_) | (first | (refine L_loadA (d := some 95) rfl rfl rfl (by rfl) Tryd.underlying25 rfl el_api_Digest (by first | exact hst.get 0 rfl | exact hst.get 1 rfl | exact hst.get 2 rfl) (by first | rfl | exact Dig.size _ | (simp; done)) ?_) | (refine L_loadM (d := some 95) rfl rfl rfl (by rfl) Tryd.underlying25 rfl el_api_Digest (by first | assumption) (by first | rfl | exact Dig.size _ | (simp; done)) ?_)) | fail)
      refine idx_q rfl rfl ?_; go_wp2_with (first | (refine L_un (t := 96) rfl (by rfl) rfl ?_) | (first | (refine L_loadA (d := some 96) rfl rfl rfl (by rfl) Tryd.underlying25 rfl el_api_Digest (by first | exact hst.get 0 rfl | exact hst.get 1 rfl | exact hst.get 2 rfl) (by first | rfl | exact Dig.size _ | (simp; done)) ?_) | (refine L_loadM (d := some 96) rfl rfl rfl (by rfl) Tryd.underlying25 rfl el_api_Digest (by first | assumption) (by first | rfl | exact Dig.size _ | (simp; done)) ?_)) | fail)
      refine idx_q rfl rfl ?_; go_wp2_with (first | (refine L_un (t := 98) rfl (by rfl) rfl ?_) | (first | (refine L_loadA (d := some 98) rfl rfl rfl (by rfl) Tryd.underlying25 rfl el_api_Digest (by first | exact hst.get 0 rfl | exact hst.get 1 rfl | exact hst.get 2 rfl) (by first | rfl | exact Dig.size _ | (simp; done)) ?_) | (refine L_loadM (d := some 98) rfl rfl rfl (by rfl) Tryd.underlying25 rfl el_api_Digest (by first | assumption) (by first | rfl | exact Dig.size _ | (simp; done)) ?_)) | fail)
      refine idx_q rfl rfl ?_; go_wp2_with (first | (refine L_un (t := 99) rfl (by rfl) rfl ?_) | (first | (refine L_loadA (d := some 99) rfl rfl rfl (by rfl) Tryd.underlying25 rfl el_api_Digest (by first | exact hst.get 0 rfl | exact hst.get 1 rfl | exact hst.get 2 rfl) (by first | rfl | exact Dig.size _ | (simp; done)) ?_) | (refine L_loadM (d := some 99) rfl rfl rfl (by rfl) Tryd.underlying25 rfl el_api_Digest (by first | assumption) (by first | rfl | exact Dig.size _ | (simp; done)) ?_)) | fail)
      refine idx_g rfl ?_; go_wp2_with (first | (refine L_un (t := 97) rfl (by rfl) rfl ?_) | (go_at_call 35; (try clear hnew); with_reducible refine (node_any _ _ _ (HT.out.of hst)).mono ?_; rintro e Wk43 ⟨rfl, hnew⟩; replace hst := hst.keep hnew) | (go_at_call 36; (try clear hnew); with_reducible refine (rnode_any _ _ _).mono ?_; rintro e Wk44 ⟨rfl, hnew⟩; replace hst := hst.keep hnew) | fail); refine ⟨by first | exact Below.refl _ _ | exact hnew.below, ?_⟩
      refine idx_g rfl ?_; go_wp2_with (first | (refine L_un (t := 100) rfl (by rfl) rfl ?_) | (go_at_call 35; (try clear hnew); with_reducible refine (node_any _ _ _ (HT.out.of hst)).mono ?_; rintro e Wk43 ⟨rfl, hnew⟩; replace hst := hst.keep hnew) | (go_at_call 36; (try clear hnew); with_reducible refine (rnode_any _ _ _).mono ?_; rintro e Wk44 ⟨rfl, hnew⟩; replace hst := hst.keep hnew) | fail); refine ⟨by first | exact Below.refl _ _ | exact hnew.below, ?_⟩
      refine idx_g rfl ?_; go_wp2_with (first | (refine L_un (t := 101) rfl (by rfl) rfl ?_) | (go_at_call 35; (try clear hnew); with_reducible refine (node_any _ _ _ (HT.out.of hst)).mono ?_; rintro e Wk43 ⟨rfl, hnew⟩; replace hst := hst.keep hnew) | (go_at_call 36; (try clear hnew); with_reducible refine (rnode_any _ _ _).mono ?_; rintro e Wk44 ⟨rfl, hnew⟩; replace hst := hst.keep hnew) | (refine L_eqD (d := some 101) rfl rfl rfl Tryd.underlying25 Tryd.underlying5 el_uint8 eqG_D (ev_tmp rfl) (ev_tmp rfl) ?_; (try rw [HN.out])) | fail); refine ⟨by first | exact Below.refl _ _ | exact hnew.below, ?_⟩
      refine idx_g rfl ?_; go_wp2_with (first | (first | (refine L_pickF (d := some 102) rfl rfl rfl (ev_tmp rfl) ev_const ?_) | (refine L_pickT (d := some 102) rfl rfl rfl (ev_tmp rfl) (ev_tmp rfl) ?_)) | fail); refine ⟨by first | exact Below.refl _ _ | exact hnew.below, ?_⟩
      refine idx_g rfl ?_; go_wp2_with fail; refine ⟨by first | exact Below.refl _ _ | exact hnew.below, ?_⟩
      refine idx_nil ?_
      go_wp2_with fail
      go_ret
      exact ⟨rfl, hst.forget⟩
    · have HF := Lib.hid (fun w => tFold_length l B m d i.toNat s.toNat w (by omega) (by omega) hm)
      rw [ei, es] at HF
      have h5 : ((m : Int) != (longN i.toNat s.toNat : Int)) = true := by rw [bne_iff_ne]; omega
      generalize longN i.toNat s.toNat = lg at *
      clear hm ei es g1 g2 g3 g4
      have HZ := Lib.hid (show decide (zeroD = zeroD) = true by simp)
      have HN := Lib.hid (show decide (nodeN l zeroD = nodeN l zeroD) = true by simp)
      go_upto_region 15 with (first
        | (refine L_allocA (d := some 17) rfl rfl rfl el_api_Digest ?_; (try clear hnew); intro g17 W17 hnew; replace hst := hst.trans hnew; simp only [List.cons_append, List.nil_append] at hst)
        | fail)
      go_upto_region 17 with (first
        | fail)
      go_upto_region 18 with (first
        | (go_at_call 18; (try clear hnew); refine (HL.out _).mono ?_; rintro e Wk45 ⟨rfl, hnew⟩; replace hst := hst.keep hnew)
        | fail)
      go_upto_region 20 with (first
        | fail)
      go_upto_region 21 with (first
        | (go_at_call 20; (try clear hnew); refine (HF.out _).mono ?_; rintro e Wk46 ⟨rfl, hnew⟩; replace hst := hst.keep hnew)
        | (first | (refine L_loadA (d := some 78) rfl rfl rfl (by rfl) Tryd.underlying25 rfl el_api_Digest (by first | exact hst.get 0 rfl | exact hst.get 1 rfl | exact hst.get 2 rfl) (by first | rfl | exact Dig.size _ | (simp; done)) ?_) | (refine L_loadM (d := some 78) rfl rfl rfl (by rfl) Tryd.underlying25 rfl el_api_Digest (by first | assumption) (by first | rfl | exact Dig.size _ | (simp; done)) ?_))
        | (refine L_allocA (d := some 18) rfl rfl rfl el_api_Digest ?_; (try clear hnew); intro g18 W18 hnew; replace hst := hst.trans hnew; simp only [List.cons_append, List.nil_append] at hst)
        | (refine wpl_at (.store 25 (.tmp 18) (.tmp 83)) rfl ?_; first | (refine L_storeA rfl rfl hst rfl (by rfl) (ev_tmp rfl) (by first | rfl | exact Dig.one _ | (simp; done)) el_api_Digest (by first | rfl | exact Dig.size _ | (simp; done)) 0 rfl (by first | rfl | exact Dig.size _ | (simp; done)) ?_; clear hst; intro WS9 hst; simp only [List.set_cons_zero, List.set_cons_succ] at hst) | (refine L_storeA rfl rfl hst rfl (by rfl) (ev_tmp rfl) (by first | rfl | exact Dig.one _ | (simp; done)) el_api_Digest (by first | rfl | exact Dig.size _ | (simp; done)) 1 rfl (by first | rfl | exact Dig.size _ | (simp; done)) ?_; clear hst; intro WS9 hst; simp only [List.set_cons_zero, List.set_cons_succ] at hst) | (refine L_storeA rfl rfl hst rfl (by rfl) (ev_tmp rfl) (by first | rfl | exact Dig.one _ | (simp; done)) el_api_Digest (by first | rfl | exact Dig.size _ | (simp; done)) 2 rfl (by first | rfl | exact Dig.size _ | (simp; done)) ?_; clear hst; intro WS9 hst; simp only [List.set_cons_zero, List.set_cons_succ] at hst) | (refine L_storeM rfl rfl hst rfl (by rfl) (ev_tmp rfl) (by first | rfl | exact Dig.one _ | (simp; done)) el_api_Digest (by first | rfl | exact Dig.size _ | (simp; done)) 0 rfl (by first | exact of_decide_eq_true rfl | (simp; done)) ?_; clear hst; intro WS9 hst; simp only [List.set_cons_zero, List.set_cons_succ] at hst)  | (refine L_storeM rfl rfl hst rfl (by rfl) (ev_tmp rfl) (by first | rfl | exact Dig.one _ | (simp; done)) el_api_Digest (by first | rfl | exact Dig.size _ | (simp; done)) 1 rfl (by first | exact of_decide_eq_true rfl | (simp; done)) ?_; clear hst; intro WS9 hst; simp only [List.set_cons_zero, List.set_cons_succ] at hst)  | (refine L_storeM rfl rfl hst rfl (by rfl) (ev_tmp rfl) (by first | rfl | exact Dig.one _ | (simp; done)) el_api_Digest (by first | rfl | exact Dig.size _ | (simp; done)) 2 rfl (by first | exact of_decide_eq_true rfl | (simp; done)) ?_; clear hst; intro WS9 hst; simp only [List.set_cons_zero, List.set_cons_succ] at hst))
        | fail)
      go_upto_region 22 with (first
        | (go_at_call 29; (try clear hnew); refine (sError_any 3 _ (HE.out.of hst)).mono ?_; rintro e Wk47 ⟨rfl, hnew⟩; replace hst := hst.keep hnew)
        | fail)
      (try clear hnew)
      refine wp_region_idx [(0, 2), (1, 2), (2, 0), (3, 2), (4, 2), (5, 2), (6, 2), (7, 0), (8, 0), (10, 0), (11, 0), (9, 2), (12, 2), (13, 2), (14, 2), (15, 2)] (by kernel_rfl) (by kernel_rfl) ?_
      replace hst := hst.drew
      refine idx_g rfl ?_; go_wp2_with fail; refine ⟨by first | exact Below.refl _ _ | exact hnew.below, ?_⟩
      refine idx_g rfl ?_; go_wp2_with fail; refine ⟨by first | exact Below.refl _ _ | exact hnew.below, ?_⟩
      refine idx_q rfl rfl ?_; go_wp2_with (first | (refine L_un (t := 90) rfl (by rfl) rfl ?_) | (first | (refine L_loadA (d := some 90) rfl rfl rfl (by rfl) Tryd.underlying25 rfl el_api_Digest (by first | exact hst.get 0 rfl | exact hst.get 1 rfl | exact hst.get 2 rfl) (by first | rfl | exact Dig.size _ | (simp; done)) ?_) | (refine L_loadM (d := some 90) rfl rfl rfl (by rfl) Tryd.underlying25 rfl el_api_Digest (by first | assumption) (by first | rfl | exact Dig.size _ | (simp; done)) ?_)) | fail)
      refine idx_g rfl ?_; go_wp2_with (first | (refine L_un (t := 91) rfl (by rfl) rfl ?_) | (first | (refine L_loadA (d := some 91) rfl rfl rfl (by rfl) Tryd.underlying25 rfl el_api_Digest (by first | exact hst.get 0 rfl | exact hst.get 1 rfl | exact hst.get 2 rfl) (by first | rfl | exact Dig.size _ | (simp; done)) ?_) | (refine L_loadM (d := some 91) rfl rfl rfl (by rfl) Tryd.underlying25 rfl el_api_Digest (by first | assumption) (by first | rfl | exact Dig.size _ | (simp; done)) ?_)) | fail); refine ⟨by first | exact Below.refl _ _ | exact hnew.below, ?_⟩
      refine idx_g rfl ?_; go_wp2_with (first | (refine L_un (t := 92) rfl (by rfl) rfl ?_) | (go_at_call 35; (try clear hnew); with_reducible refine (node_any _ _ _ (HT.out.of hst)).mono ?_; rintro e Wk48 ⟨rfl, hnew⟩; replace hst := hst.keep hnew) | (go_at_call 36; (try clear hnew); with_reducible refine (rnode_any _ _ _).mono ?_; rintro e Wk49 ⟨rfl, hnew⟩; replace hst := hst.keep hnew) | (refine L_eqD (d := some 92) rfl rfl rfl Tryd.underlying25 Tryd.underlying5 el_uint8 eqG_D (ev_tmp rfl) (ev_tmp rfl) ?_; (try rw [HZ.out])) | fail); refine ⟨by first | exact Below.refl _ _ | exact hnew.below, ?_⟩
      refine idx_g rfl ?_; go_wp2_with (first | (first | (refine L_pickF (d := some 93) rfl rfl rfl (ev_tmp rfl) ev_const ?_) | (refine L_pickT (d := some 93) rfl rfl rfl (ev_tmp rfl) (ev_tmp rfl) ?_)) | fail); refine ⟨by first | exact Below.refl _ _ | exact hnew.below, ?_⟩
      refine idx_g rfl ?_; go_wp2_with fail; refine ⟨by first | exact Below.refl _ _ | exact hnew.below, ?_⟩
      refine idx_q rfl rfl ?_; go_wp2_with (first | (refine L_un (t := 95) rfl (by rfl) rfl ?_) | (first | (refine L_loadA (d := some 95) rfl rfl rfl (by rfl) Tryd.underlying25 rfl el_api_Digest (by first | exact hst.get 0 rfl | exact hst.get 1 rfl | exact hst.get 2 rfl) (by first | rfl | exact Dig.size _ | (simp; done)) ?_) | (refine L_loadM (d := some 95) rfl rfl rfl (by rfl) Tryd.underlying25 rfl el_api_Digest (by first | assumption) (by first | rfl | exact Dig.size _ | (simp; done)) ?_)) | fail)
      refine idx_q rfl rfl ?_; go_wp2_with (first | (refine L_un (t := 96) rfl (by rfl) rfl ?_) | (first | (refine L_loadA (d := some 96) rfl rfl rfl (by rfl) Tryd.underlying25 rfl el_api_Digest (by first | exact hst.get 0 rfl | exact hst.get 1 rfl | exact hst.get 2 rfl) (by first | rfl | exact Dig.size _ | (simp; done)) ?_) | (refine L_loadM (d := some 96) rfl rfl rfl (by rfl) Tryd.underlying25 rfl el_api_Digest (by first | assumption) (by first | rfl | exact Dig.size _ | (simp; done)) ?_)) | fail)
      refine idx_q rfl rfl ?_; go_wp2_with (first | (refine L_un (t := 98) rfl (by rfl) rfl ?_) | (first | (refine L_loadA (d := some 98) rfl rfl rfl (by rfl) Tryd.underlying25 rfl el_api_Digest (by first | exact hst.get 0 rfl | exact hst.get 1 rfl | exact hst.get 2 rfl) (by first | rfl | exact Dig.size _ | (simp; done)) ?_) | (refine L_loadM (d := some 98) rfl rfl rfl (by rfl) Tryd.underlying25 rfl el_api_Digest (by first | assumption) (by first | rfl | exact Dig.size _ | (simp; done)) ?_)) | fail)
      refine idx_q rfl rfl ?_; go_wp2_with (first | (refine L_un (t := 99) rfl (by rfl) rfl ?_) | (first | (refine L_loadA (d := some 99) rfl rfl rfl (by rfl) Tryd.underlying25 rfl el_api_Digest (by first | exact hst.get 0 rfl | exact hst.get 1 rfl | exact hst.get 2 rfl) (by first | rfl | exact Dig.size _ | (simp; done)) ?_) | (refine L_loadM (d := some 99) rfl rfl rfl (by rfl) Tryd.underlying25 rfl el_api_Digest (by first | assumption) (by first | rfl | exact Dig.size _ | (simp; done)) ?_)) | fail)
      refine idx_g rfl ?_; go_wp2_with (first | (refine L_un (t := 97) rfl (by rfl) rfl ?_) | (go_at_call 35; (try clear hnew); with_reducible refine (node_any _ _ _ (HT.out.of hst)).mono ?_; rintro e Wk48 ⟨rfl, hnew⟩; replace hst := hst.keep hnew) | (go_at_call 36; (try clear hnew); with_reducible refine (rnode_any _ _ _).mono ?_; rintro e Wk49 ⟨rfl, hnew⟩; replace hst := hst.keep hnew) | fail); refine ⟨by first | exact Below.refl _ _ | exact hnew.below, ?_⟩
      refine idx_g rfl ?_; go_wp2_with (first | (refine L_un (t := 100) rfl (by rfl) rfl ?_) | (go_at_call 35; (try clear hnew); with_reducible refine (node_any _ _ _ (HT.out.of hst)).mono ?_; rintro e Wk48 ⟨rfl, hnew⟩; replace hst := hst.keep hnew) | (go_at_call 36; (try clear hnew); with_reducible refine (rnode_any _ _ _).mono ?_; rintro e Wk49 ⟨rfl, hnew⟩; replace hst := hst.keep hnew) | fail); refine ⟨by first | exact Below.refl _ _ | exact hnew.below, ?_⟩
      refine idx_g rfl ?_; go_wp2_with (first | (refine L_un (t := 101) rfl (by rfl) rfl ?_) | (go_at_call 35; (try clear hnew); with_reducible refine (node_any _ _ _ (HT.out.of hst)).mono ?_; rintro e Wk48 ⟨rfl, hnew⟩; replace hst := hst.keep hnew) | (go_at_call 36; (try clear hnew); with_reducible refine (rnode_any _ _ _).mono ?_; rintro e Wk49 ⟨rfl, hnew⟩; replace hst := hst.keep hnew) | (refine L_eqD (d := some 101) rfl rfl rfl Tryd.underlying25 Tryd.underlying5 el_uint8 eqG_D (ev_tmp rfl) (ev_tmp rfl) ?_; (try rw [HN.out])) | fail); refine ⟨by first | exact Below.refl _ _ | exact hnew.below, ?_⟩
      refine idx_g rfl ?_; go_wp2_with (first | (first | (refine L_pickF (d := some 102) rfl rfl rfl (ev_tmp rfl) ev_const ?_) | (refine L_pickT (d := some 102) rfl rfl rfl (ev_tmp rfl) (ev_tmp rfl) ?_)) | fail); refine ⟨by first | exact Below.refl _ _ | exact hnew.below, ?_⟩
      refine idx_g rfl ?_; go_wp2_with fail; refine ⟨by first | exact Below.refl _ _ | exact hnew.below, ?_⟩
      refine idx_nil ?_
      go_wp2_with fail
      go_ret
      exact ⟨rfl, hst.forget⟩

set_option maxHeartbeats 8000000 in
set_option maxRecDepth 100000 in
theorem treePaths_D (w : World) (hT : Tb w) (hE : Eb w) (ls : List Dig) (A : Option Addr) (n c : Nat) (hx : SlR w A n c 32 (digsL ls)) (i : Int) (l : Dig) (s : Int) (path : List Dig) (B : Option Addr) (m d : Nat) (hy : SlR w B m d 32 (digsL path)) (hn : n ≤ 256) (h1 : 0 ≤ i) (h4 : i < (n : Int)) :
    Calls Tryd.prog 11 #[.slice A n c, .int .i64 i, l.v, .int .i64 s, .slice B m d] w fun e w' => e = .returned (.bool true) ∧ St w w' [] := by
  have hst := St.refl w
  have HT := Lib.hid hT
  have HE := Lib.hid hE
  have hcap2 := hy.2.1
  clear hT hE
  have h0 : ¬ (256 : Int) < (n : Int) := by omega
  have h2 : ¬ i < 0 := by omega
  have h3 : ¬ (n : Int) ≤ i := by omega
  have hcap := hx.2.1
  have ei : ((i.toNat : Nat) : Int) = i := by omega
  have HP := Lib.hid (fun w hT hs => tPath_any ls A n c i.toNat w hT hs hn (by omega))
  have HR := Lib.hid (fun w hs => rpath_any n ls A c i.toNat w hs (by omega) hn)
  rw [ei] at HP HR
  generalize pathN ls i.toNat = pl at *
  generalize longN i.toNat n = lg at *
  clear ei
  go_enter Tryd.func11, Tryd.ntmps11
  go_upto_region 1 with (first
    | (refine L_boxA (d := some 7) rfl rfl rfl (ev_tmp rfl) ?_; (try clear hnew); intro g7 W7 hnew; replace hst := hst.trans hnew; simp only [List.cons_append, List.nil_append] at hst)
    | fail)
  go_upto_region 2 with (first
    | fail)
  go_upto_region 3 with (first
    | fail)
  go_upto_region 5 with (first
    | fail)
  go_upto_region 7 with (first
    | fail)
  go_upto_region 8 with (first
    | (go_at_call 32; (try clear hnew); refine (HR.out _ (hst.old (by decide) hx)).mono ?_; rintro e Wk50 ⟨R, rc, rfl, hnew⟩; replace hst := hst.trans hnew; simp only [List.cons_append, List.nil_append] at hst)
    | fail)
  go_upto_region 9 with (first
    | (go_at_call 17; (try clear hnew); refine (HP.out _ (HT.out.of hst) (hst.old (by decide) hx)).mono ?_; rintro e Wk51 ⟨G, gc, rfl, hnew⟩; replace hst := hst.trans hnew; simp only [List.cons_append, List.nil_append] at hst)
    | fail)
  go_upto_region 10 with (first
    | (go_at_call 29; (try clear hnew); refine (sError_nil _).mono ?_; rintro e Wk52 ⟨rfl, hnew⟩; replace hst := hst.keep hnew)
    | fail)
  go_upto_region 11 with (first
    | (go_at_call 33; (try clear hnew); refine (sameD_any pl pl G R lg gc lg rc _ (hst.sl 0 rfl) (hst.sl 1 rfl)).mono ?_; rw [dEqL]; rintro e Ws ⟨rfl, hnew⟩; replace hst := hst.keep hnew)
    | fail)
  (try clear hnew)
  replace hst := hst.tailN 2
  simp only [List.drop_succ_cons, List.drop_zero] at hst
  clear h0 h2 h3 HP HR
  go_upto_region 13 with (first
    | fail)
  go_upto_region 14 with (first
    | fail)
  by_cases hin : 1 ≤ s ∧ s ≤ 256 ∧ 0 ≤ i ∧ i < s
  case neg =>
    have h : s < 1 ∨ ¬ s < 1 ∧ 256 < s ∨ ¬ s < 1 ∧ ¬ 256 < s ∧ i < 0 ∨ ¬ s < 1 ∧ ¬ 256 < s ∧ ¬ i < 0 ∧ s ≤ i := by omega
    have H := Lib.hid (fun w => tFold_range l B m d i s w h)
    clear hin
    rcases h with h | ⟨h, k2⟩ | ⟨h, k2, k3⟩ | ⟨h, k2, k3, k4⟩
    all_goals
      go_upto_region 15 with (first
        | (refine L_allocA (d := some 17) rfl rfl rfl el_api_Digest ?_; (try clear hnew); intro g17 W17 hnew; replace hst := hst.trans hnew; simp only [List.cons_append, List.nil_append] at hst)
        | fail)
      go_upto_region 16 with (first
        | fail)
      go_upto_region 20 with (first
        | fail)
      go_upto_region 21 with (first
        | (go_at_call 20; (try clear hnew); refine (H.out _).mono ?_; rintro e Wk53 ⟨rfl, hnew⟩; replace hst := hst.keep hnew)
        | (first | (refine L_loadA (d := some 78) rfl rfl rfl (by rfl) Tryd.underlying25 rfl el_api_Digest (by first | exact hst.get 0 rfl | exact hst.get 1 rfl | exact hst.get 2 rfl) (by first | rfl | exact Dig.size _ | (simp; done)) ?_) | (refine L_loadM (d := some 78) rfl rfl rfl (by rfl) Tryd.underlying25 rfl el_api_Digest (by first | assumption) (by first | rfl | exact Dig.size _ | (simp; done)) ?_))
        | (refine L_allocA (d := some 18) rfl rfl rfl el_api_Digest ?_; (try clear hnew); intro g18 W18 hnew; replace hst := hst.trans hnew; simp only [List.cons_append, List.nil_append] at hst)
        | (refine wpl_at (.store 25 (.tmp 18) (.tmp 83)) rfl ?_; first | (refine L_storeA rfl rfl hst rfl (by rfl) (ev_tmp rfl) (by first | rfl | exact Dig.one _ | (simp; done)) el_api_Digest (by first | rfl | exact Dig.size _ | (simp; done)) 0 rfl (by first | rfl | exact Dig.size _ | (simp; done)) ?_; clear hst; intro WS9 hst; simp only [List.set_cons_zero, List.set_cons_succ] at hst) | (refine L_storeA rfl rfl hst rfl (by rfl) (ev_tmp rfl) (by first | rfl | exact Dig.one _ | (simp; done)) el_api_Digest (by first | rfl | exact Dig.size _ | (simp; done)) 1 rfl (by first | rfl | exact Dig.size _ | (simp; done)) ?_; clear hst; intro WS9 hst; simp only [List.set_cons_zero, List.set_cons_succ] at hst) | (refine L_storeA rfl rfl hst rfl (by rfl) (ev_tmp rfl) (by first | rfl | exact Dig.one _ | (simp; done)) el_api_Digest (by first | rfl | exact Dig.size _ | (simp; done)) 2 rfl (by first | rfl | exact Dig.size _ | (simp; done)) ?_; clear hst; intro WS9 hst; simp only [List.set_cons_zero, List.set_cons_succ] at hst) | (refine L_storeM rfl rfl hst rfl (by rfl) (ev_tmp rfl) (by first | rfl | exact Dig.one _ | (simp; done)) el_api_Digest (by first | rfl | exact Dig.size _ | (simp; done)) 0 rfl (by first | exact of_decide_eq_true rfl | (simp; done)) ?_; clear hst; intro WS9 hst; simp only [List.set_cons_zero, List.set_cons_succ] at hst)  | (refine L_storeM rfl rfl hst rfl (by rfl) (ev_tmp rfl) (by first | rfl | exact Dig.one _ | (simp; done)) el_api_Digest (by first | rfl | exact Dig.size _ | (simp; done)) 1 rfl (by first | exact of_decide_eq_true rfl | (simp; done)) ?_; clear hst; intro WS9 hst; simp only [List.set_cons_zero, List.set_cons_succ] at hst)  | (refine L_storeM rfl rfl hst rfl (by rfl) (ev_tmp rfl) (by first | rfl | exact Dig.one _ | (simp; done)) el_api_Digest (by first | rfl | exact Dig.size _ | (simp; done)) 2 rfl (by first | exact of_decide_eq_true rfl | (simp; done)) ?_; clear hst; intro WS9 hst; simp only [List.set_cons_zero, List.set_cons_succ] at hst))
        | fail)
      go_upto_region 22 with (first
        | (go_at_call 29; (try clear hnew); refine (sError_any 2 _ (HE.out.of hst)).mono ?_; rintro e Wk54 ⟨rfl, hnew⟩; replace hst := hst.keep hnew)
        | fail)
      (try clear hnew)
      refine wp_region_idx [(0, 2), (1, 2), (2, 0), (3, 2), (4, 2), (5, 2), (6, 2), (7, 0), (8, 0), (10, 0), (11, 0), (9, 2), (12, 2), (13, 2), (14, 2), (15, 2)] (by kernel_rfl) (by kernel_rfl) ?_
      replace hst := hst.drew
      refine idx_g rfl ?_; go_wp2_with fail; refine ⟨by first | exact Below.refl _ _ | exact hnew.below, ?_⟩
      refine idx_g rfl ?_; go_wp2_with fail; refine ⟨by first | exact Below.refl _ _ | exact hnew.below, ?_⟩
      refine idx_q rfl rfl ?_; go_wp2_with (first | (refine L_un (t := 90) rfl (by rfl) rfl ?_) | (first | (refine L_loadA (d := some 90) rfl rfl rfl (by rfl) Tryd.underlying25 rfl el_api_Digest (by first | exact hst.get 0 rfl | exact hst.get 1 rfl | exact hst.get 2 rfl) (by first | rfl | exact Dig.size _ | (simp; done)) ?_) | (refine L_loadM (d := some 90) rfl rfl rfl (by rfl) Tryd.underlying25 rfl el_api_Digest (by first | assumption) (by first | rfl | exact Dig.size _ | (simp; done)) ?_)) | fail)
      refine idx_g rfl ?_; go_wp2_with (first | (refine L_un (t := 91) rfl (by rfl) rfl ?_) | (first | (refine L_loadA (d := some 91) rfl rfl rfl (by rfl) Tryd.underlying25 rfl el_api_Digest (by first | exact hst.get 0 rfl | exact hst.get 1 rfl | exact hst.get 2 rfl) (by first | rfl | exact Dig.size _ | (simp; done)) ?_) | (refine L_loadM (d := some 91) rfl rfl rfl (by rfl) Tryd.underlying25 rfl el_api_Digest (by first | assumption) (by first | rfl | exact Dig.size _ | (simp; done)) ?_)) | fail); refine ⟨by first | exact Below.refl _ _ | exact hnew.below, ?_⟩
      refine idx_g rfl ?_; go_wp2_with (first | (refine L_un (t := 92) rfl (by rfl) rfl ?_) | (go_at_call 35; (try clear hnew); with_reducible refine (node_any _ _ _ (HT.out.of hst)).mono ?_; rintro e Wk55 ⟨rfl, hnew⟩; replace hst := hst.keep hnew) | (go_at_call 36; (try clear hnew); with_reducible refine (rnode_any _ _ _).mono ?_; rintro e Wk56 ⟨rfl, hnew⟩; replace hst := hst.keep hnew) | (refine L_eqD (d := some 92) rfl rfl rfl Tryd.underlying25 Tryd.underlying5 el_uint8 eqG_D (ev_tmp rfl) (ev_tmp rfl) ?_; (try rw [dEq _])) | fail); refine ⟨by first | exact Below.refl _ _ | exact hnew.below, ?_⟩
      refine idx_g rfl ?_; go_wp2_with (first | (first | (refine L_pickF (d := some 93) rfl rfl rfl (ev_tmp rfl) ev_const ?_) | (refine L_pickT (d := some 93) rfl rfl rfl (ev_tmp rfl) (ev_tmp rfl) ?_)) | fail); refine ⟨by first | exact Below.refl _ _ | exact hnew.below, ?_⟩
      refine idx_g rfl ?_; go_wp2_with fail; refine ⟨by first | exact Below.refl _ _ | exact hnew.below, ?_⟩
      refine idx_q rfl rfl ?_; go_wp2_with (first | (refine L_un (t := 95) rfl (by rfl) rfl ?_) | (first | (refine L_loadA (d := some 95) rfl rfl rfl (by rfl) Tryd.underlying25 rfl el_api_Digest (by first | exact hst.get 0 rfl | exact hst.get 1 rfl | exact hst.get 2 rfl) (by first | rfl | exact Dig.size _ | (simp; done)) ?_) | (refine L_loadM (d := some 95) rfl rfl rfl (by rfl) Tryd.underlying25 rfl el_api_Digest (by first | assumption) (by first | rfl | exact Dig.size _ | (simp; done)) ?_)) | fail)
      refine idx_q rfl rfl ?_; go_wp2_with (first | (refine L_un (t := 96) rfl (by rfl) rfl ?_) | (first | (refine L_loadA (d := some 96) rfl rfl rfl (by rfl) Tryd.underlying25 rfl el_api_Digest (by first | exact hst.get 0 rfl | exact hst.get 1 rfl | exact hst.get 2 rfl) (by first | rfl | exact Dig.size _ | (simp; done)) ?_) | (refine L_loadM (d := some 96) rfl rfl rfl (by rfl) Tryd.underlying25 rfl el_api_Digest (by first | assumption) (by first | rfl | exact Dig.size _ | (simp; done)) ?_)) | fail)
      refine idx_q rfl rfl ?_; go_wp2_with (first | (refine L_un (t := 98) rfl (by rfl) rfl ?_) | (first | (refine L_loadA (d := some 98) rfl rfl rfl (by rfl) Tryd.underlying25 rfl el_api_Digest (by first | exact hst.get 0 rfl | exact hst.get 1 rfl | exact hst.get 2 rfl) (by first | rfl | exact Dig.size _ | (simp; done)) ?_) | (refine L_loadM (d := some 98) rfl rfl rfl (by rfl) Tryd.underlying25 rfl el_api_Digest (by first | assumption) (by first | rfl | exact Dig.size _ | (simp; done)) ?_)) | fail)
      refine idx_q rfl rfl ?_; go_wp2_with (first | (refine L_un (t := 99) rfl (by rfl) rfl ?_) | (first | (refine L_loadA (d := some 99) rfl rfl rfl (by rfl) Tryd.underlying25 rfl el_api_Digest (by first | exact hst.get 0 rfl | exact hst.get 1 rfl | exact hst.get 2 rfl) (by first | rfl | exact Dig.size _ | (simp; done)) ?_) | (refine L_loadM (d := some 99) rfl rfl rfl (by rfl) Tryd.underlying25 rfl el_api_Digest (by first | assumption) (by first | rfl | exact Dig.size _ | (simp; done)) ?_)) | fail)
      refine idx_g rfl ?_; go_wp2_with (first | (refine L_un (t := 97) rfl (by rfl) rfl ?_) | (go_at_call 35; (try clear hnew); with_reducible refine (node_any _ _ _ (HT.out.of hst)).mono ?_; rintro e Wk55 ⟨rfl, hnew⟩; replace hst := hst.keep hnew) | (go_at_call 36; (try clear hnew); with_reducible refine (rnode_any _ _ _).mono ?_; rintro e Wk56 ⟨rfl, hnew⟩; replace hst := hst.keep hnew) | fail); refine ⟨by first | exact Below.refl _ _ | exact hnew.below, ?_⟩
      refine idx_g rfl ?_; go_wp2_with (first | (refine L_un (t := 100) rfl (by rfl) rfl ?_) | (go_at_call 35; (try clear hnew); with_reducible refine (node_any _ _ _ (HT.out.of hst)).mono ?_; rintro e Wk55 ⟨rfl, hnew⟩; replace hst := hst.keep hnew) | (go_at_call 36; (try clear hnew); with_reducible refine (rnode_any _ _ _).mono ?_; rintro e Wk56 ⟨rfl, hnew⟩; replace hst := hst.keep hnew) | fail); refine ⟨by first | exact Below.refl _ _ | exact hnew.below, ?_⟩
      refine idx_g rfl ?_; go_wp2_with (first | (refine L_un (t := 101) rfl (by rfl) rfl ?_) | (go_at_call 35; (try clear hnew); with_reducible refine (node_any _ _ _ (HT.out.of hst)).mono ?_; rintro e Wk55 ⟨rfl, hnew⟩; replace hst := hst.keep hnew) | (go_at_call 36; (try clear hnew); with_reducible refine (rnode_any _ _ _).mono ?_; rintro e Wk56 ⟨rfl, hnew⟩; replace hst := hst.keep hnew) | (refine L_eqD (d := some 101) rfl rfl rfl Tryd.underlying25 Tryd.underlying5 el_uint8 eqG_D (ev_tmp rfl) (ev_tmp rfl) ?_; (try rw [dEq _])) | fail); refine ⟨by first | exact Below.refl _ _ | exact hnew.below, ?_⟩
      refine idx_g rfl ?_; go_wp2_with (first | (first | (refine L_pickF (d := some 102) rfl rfl rfl (ev_tmp rfl) ev_const ?_) | (refine L_pickT (d := some 102) rfl rfl rfl (ev_tmp rfl) (ev_tmp rfl) ?_)) | fail); refine ⟨by first | exact Below.refl _ _ | exact hnew.below, ?_⟩
      refine idx_g rfl ?_; go_wp2_with fail; refine ⟨by first | exact Below.refl _ _ | exact hnew.below, ?_⟩
      refine idx_nil ?_
      go_wp2_with fail
      go_ret
      exact ⟨rfl, hst.forget⟩
  case pos =>
    obtain ⟨g1, g2, g3, g4⟩ := hin
    have k1 : ¬ s < 1 := by omega
    have k2 : ¬ 256 < s := by omega
    have k3 : ¬ i < 0 := by omega
    have k4 : ¬ s ≤ i := by omega
    have ei : ((i.toNat : Nat) : Int) = i := by omega
    have es : ((s.toNat : Nat) : Int) = s := by omega
    have HL := Lib.hid (fun w => rlong_any s.toNat i.toNat w (by omega) (by omega))
    rw [ei, es] at HL
    by_cases hm : m = longN i.toNat s.toNat
    · have HF := Lib.hid (fun w hT hs => tFold_any l path B m d i.toNat s.toNat w hT hs (by omega) (by omega) hm)
      have HG := Lib.hid (fun w hs => rfolded_any s.toNat l path B m d i.toNat w hs hm (by omega) (by omega))
      rw [ei, es] at HF HG
      rw [← hm] at HL
      clear hm ei es g1 g2 g3 g4
      generalize foldedN l i.toNat s.toNat path = u at *
      go_upto_region 15 with (first
        | (refine L_allocA (d := some 17) rfl rfl rfl el_api_Digest ?_; (try clear hnew); intro g17 W17 hnew; replace hst := hst.trans hnew; simp only [List.cons_append, List.nil_append] at hst)
        | fail)
      go_upto_region 17 with (first
        | fail)
      go_upto_region 19 with (first
        | (go_at_call 18; (try clear hnew); refine (HL.out _).mono ?_; rintro e Wk57 ⟨rfl, hnew⟩; replace hst := hst.keep hnew)
        | fail)
      go_upto_region 20 with (first
        | (go_at_call 34; (try clear hnew); refine (HG.out _ (hst.old (by decide) hy)).mono ?_; rintro e Wk58 ⟨rfl, hnew⟩; replace hst := hst.keep hnew)
        | (first | (refine L_loadA (d := some 72) rfl rfl rfl (by rfl) Tryd.underlying25 rfl el_api_Digest (by first | exact hst.get 0 rfl | exact hst.get 1 rfl | exact hst.get 2 rfl) (by first | rfl | exact Dig.size _ | (simp; done)) ?_) | (refine L_loadM (d := some 72) rfl rfl rfl (by rfl) Tryd.underlying25 rfl el_api_Digest (by first | assumption) (by first | rfl | exact Dig.size _ | (simp; done)) ?_))
        | (refine wpl_at (.store 25 (.tmp 17) (.tmp 76)) rfl ?_; first | (refine L_storeA rfl rfl hst rfl (by rfl) (ev_tmp rfl) (by first | rfl | exact Dig.one _ | (simp; done)) el_api_Digest (by first | rfl | exact Dig.size _ | (simp; done)) 0 rfl (by first | rfl | exact Dig.size _ | (simp; done)) ?_; clear hst; intro WS5 hst; simp only [List.set_cons_zero, List.set_cons_succ] at hst) | (refine L_storeA rfl rfl hst rfl (by rfl) (ev_tmp rfl) (by first | rfl | exact Dig.one _ | (simp; done)) el_api_Digest (by first | rfl | exact Dig.size _ | (simp; done)) 1 rfl (by first | rfl | exact Dig.size _ | (simp; done)) ?_; clear hst; intro WS5 hst; simp only [List.set_cons_zero, List.set_cons_succ] at hst) | (refine L_storeA rfl rfl hst rfl (by rfl) (ev_tmp rfl) (by first | rfl | exact Dig.one _ | (simp; done)) el_api_Digest (by first | rfl | exact Dig.size _ | (simp; done)) 2 rfl (by first | rfl | exact Dig.size _ | (simp; done)) ?_; clear hst; intro WS5 hst; simp only [List.set_cons_zero, List.set_cons_succ] at hst) | (refine L_storeM rfl rfl hst rfl (by rfl) (ev_tmp rfl) (by first | rfl | exact Dig.one _ | (simp; done)) el_api_Digest (by first | rfl | exact Dig.size _ | (simp; done)) 0 rfl (by first | exact of_decide_eq_true rfl | (simp; done)) ?_; clear hst; intro WS5 hst; simp only [List.set_cons_zero, List.set_cons_succ] at hst)  | (refine L_storeM rfl rfl hst rfl (by rfl) (ev_tmp rfl) (by first | rfl | exact Dig.one _ | (simp; done)) el_api_Digest (by first | rfl | exact Dig.size _ | (simp; done)) 1 rfl (by first | exact of_decide_eq_true rfl | (simp; done)) ?_; clear hst; intro WS5 hst; simp only [List.set_cons_zero, List.set_cons_succ] at hst)  | (refine L_storeM rfl rfl hst rfl (by rfl) (ev_tmp rfl) (by first | rfl | exact Dig.one _ | (simp; done)) el_api_Digest (by first | rfl | exact Dig.size _ | (simp; done)) 2 rfl (by first | exact of_decide_eq_true rfl | (simp; done)) ?_; clear hst; intro WS5 hst; simp only [List.set_cons_zero, List.set_cons_succ] at hst))
        | fail)
      go_upto_region 21 with (first
        | (go_at_call 20; (try clear hnew); refine (HF.out _ (HT.out.of hst) (hst.old (by decide) hy)).mono ?_; rintro e Wk59 ⟨rfl, hnew⟩; replace hst := hst.keep hnew)
        | (first | (refine L_loadA (d := some 78) rfl rfl rfl (by rfl) Tryd.underlying25 rfl el_api_Digest (by first | exact hst.get 0 rfl | exact hst.get 1 rfl | exact hst.get 2 rfl) (by first | rfl | exact Dig.size _ | (simp; done)) ?_) | (refine L_loadM (d := some 78) rfl rfl rfl (by rfl) Tryd.underlying25 rfl el_api_Digest (by first | assumption) (by first | rfl | exact Dig.size _ | (simp; done)) ?_))
        | (refine L_allocA (d := some 18) rfl rfl rfl el_api_Digest ?_; (try clear hnew); intro g18 W18 hnew; replace hst := hst.trans hnew; simp only [List.cons_append, List.nil_append] at hst)
        | (refine wpl_at (.store 25 (.tmp 18) (.tmp 83)) rfl ?_; first | (refine L_storeA rfl rfl hst rfl (by rfl) (ev_tmp rfl) (by first | rfl | exact Dig.one _ | (simp; done)) el_api_Digest (by first | rfl | exact Dig.size _ | (simp; done)) 0 rfl (by first | rfl | exact Dig.size _ | (simp; done)) ?_; clear hst; intro WS9 hst; simp only [List.set_cons_zero, List.set_cons_succ] at hst) | (refine L_storeA rfl rfl hst rfl (by rfl) (ev_tmp rfl) (by first | rfl | exact Dig.one _ | (simp; done)) el_api_Digest (by first | rfl | exact Dig.size _ | (simp; done)) 1 rfl (by first | rfl | exact Dig.size _ | (simp; done)) ?_; clear hst; intro WS9 hst; simp only [List.set_cons_zero, List.set_cons_succ] at hst) | (refine L_storeA rfl rfl hst rfl (by rfl) (ev_tmp rfl) (by first | rfl | exact Dig.one _ | (simp; done)) el_api_Digest (by first | rfl | exact Dig.size _ | (simp; done)) 2 rfl (by first | rfl | exact Dig.size _ | (simp; done)) ?_; clear hst; intro WS9 hst; simp only [List.set_cons_zero, List.set_cons_succ] at hst) | (refine L_storeM rfl rfl hst rfl (by rfl) (ev_tmp rfl) (by first | rfl | exact Dig.one _ | (simp; done)) el_api_Digest (by first | rfl | exact Dig.size _ | (simp; done)) 0 rfl (by first | exact of_decide_eq_true rfl | (simp; done)) ?_; clear hst; intro WS9 hst; simp only [List.set_cons_zero, List.set_cons_succ] at hst)  | (refine L_storeM rfl rfl hst rfl (by rfl) (ev_tmp rfl) (by first | rfl | exact Dig.one _ | (simp; done)) el_api_Digest (by first | rfl | exact Dig.size _ | (simp; done)) 1 rfl (by first | exact of_decide_eq_true rfl | (simp; done)) ?_; clear hst; intro WS9 hst; simp only [List.set_cons_zero, List.set_cons_succ] at hst)  | (refine L_storeM rfl rfl hst rfl (by rfl) (ev_tmp rfl) (by first | rfl | exact Dig.one _ | (simp; done)) el_api_Digest (by first | rfl | exact Dig.size _ | (simp; done)) 2 rfl (by first | exact of_decide_eq_true rfl | (simp; done)) ?_; clear hst; intro WS9 hst; simp only [List.set_cons_zero, List.set_cons_succ] at hst))
        | fail)
      go_upto_region 22 with (first
        | (go_at_call 29; (try clear hnew); refine (sError_nil _).mono ?_; rintro e Wk60 ⟨rfl, hnew⟩; replace hst := hst.keep hnew)
        | fail)
      (try clear hnew)
      refine wp_region_idx [(0, 2), (1, 2), (2, 0), (3, 2), (4, 2), (5, 2), (6, 2), (7, 0), (8, 0), (10, 0), (11, 0), (9, 2), (12, 2), (13, 2), (14, 2), (15, 2)] (by kernel_rfl) (by kernel_rfl) ?_
      replace hst := hst.drew
      refine idx_g rfl ?_; go_wp2_with fail; refine ⟨by first | exact Below.refl _ _ | exact hnew.below, ?_⟩
      refine idx_g rfl ?_; go_wp2_with fail; refine ⟨by first | exact Below.refl _ _ | exact hnew.below, ?_⟩
      refine idx_q rfl rfl ?_; go_wp2_with (first | (refine L_un (t := 90) rfl (by rfl) rfl ?_) | (first | (refine L_loadA (d := some 90) rfl rfl rfl (by rfl) Tryd.underlying25 rfl el_api_Digest (by first | exact hst.get 0 rfl | exact hst.get 1 rfl | exact hst.get 2 rfl) (by first | rfl | exact Dig.size _ | (simp; done)) ?_) | (refine L_loadM (d := some 90) rfl rfl rfl (by rfl) Tryd.underlying25 rfl el_api_Digest (by first | assumption) (by first | rfl | exact Dig.size _ | (simp; done)) ?_)) | fail)
      refine idx_g rfl ?_; go_wp2_with (first | (refine L_un (t := 91) rfl (by rfl) rfl ?_) | (first | (refine L_loadA (d := some 91) rfl rfl rfl (by rfl) Tryd.underlying25 rfl el_api_Digest (by first | exact hst.get 0 rfl | exact hst.get 1 rfl | exact hst.get 2 rfl) (by first | rfl | exact Dig.size _ | (simp; done)) ?_) | (refine L_loadM (d := some 91) rfl rfl rfl (by rfl) Tryd.underlying25 rfl el_api_Digest (by first | assumption) (by first | rfl | exact Dig.size _ | (simp; done)) ?_)) | fail); refine ⟨by first | exact Below.refl _ _ | exact hnew.below, ?_⟩
      refine idx_g rfl ?_; go_wp2_with (first | (refine L_un (t := 92) rfl (by rfl) rfl ?_) | (go_at_call 35; (try clear hnew); with_reducible refine (node_any _ _ _ (HT.out.of hst)).mono ?_; rintro e Wk61 ⟨rfl, hnew⟩; replace hst := hst.keep hnew) | (go_at_call 36; (try clear hnew); with_reducible refine (rnode_any _ _ _).mono ?_; rintro e Wk62 ⟨rfl, hnew⟩; replace hst := hst.keep hnew) | (refine L_eqD (d := some 92) rfl rfl rfl Tryd.underlying25 Tryd.underlying5 el_uint8 eqG_D (ev_tmp rfl) (ev_tmp rfl) ?_; (try rw [dEq _])) | fail); refine ⟨by first | exact Below.refl _ _ | exact hnew.below, ?_⟩
      refine idx_g rfl ?_; go_wp2_with (first | (first | (refine L_pickF (d := some 93) rfl rfl rfl (ev_tmp rfl) ev_const ?_) | (refine L_pickT (d := some 93) rfl rfl rfl (ev_tmp rfl) (ev_tmp rfl) ?_)) | fail); refine ⟨by first | exact Below.refl _ _ | exact hnew.below, ?_⟩
      refine idx_g rfl ?_; go_wp2_with fail; refine ⟨by first | exact Below.refl _ _ | exact hnew.below, ?_⟩
      refine idx_q rfl rfl ?_; go_wp2_with (first | (refine L_un (t := 95) rfl (by rfl) rfl ?_) | (first | (refine L_loadA (d := some 95) rfl rfl rfl (by rfl) Tryd.underlying25 rfl el_api_Digest (by first | exact hst.get 0 rfl | exact hst.get 1 rfl | exact hst.get 2 rfl) (by first | rfl | exact Dig.size _ | (simp; done)) ?_) | (refine L_loadM (d := some 95) rfl rfl rfl (by rfl) Tryd.underlying25 rfl el_api_Digest (by first | assumption) (by first | rfl | exact Dig.size _ | (simp; done)) ?_)) | fail)
      refine idx_q rfl rfl ?_; go_wp2_with (first | (refine L_un (t := 96) rfl (by rfl) rfl ?_) | (first | (refine L_loadA (d := some 96) rfl rfl rfl (by rfl) Tryd.underlying25 rfl el_api_Digest (by first | exact hst.get 0 rfl | exact hst.get 1 rfl | exact hst.get 2 rfl) (by first | rfl | exact Dig.size _ | (simp; done)) ?_) | (refine L_loadM (d := some 96) rfl rfl rfl (by rfl) Tryd.underlying25 rfl el_api_Digest (by first | assumption) (by first | rfl | exact Dig.size _ | (simp; done)) ?_)) | fail)
      refine idx_q rfl rfl ?_; go_wp2_with (first | (refine L_un (t := 98) rfl (by rfl) rfl ?_) | (first | (refine L_loadA (d := some 98) rfl rfl rfl (by rfl) Tryd.underlying25 rfl el_api_Digest (by first | exact hst.get 0 rfl | exact hst.get 1 rfl | exact hst.get 2 rfl) (by first | rfl | exact Dig.size _ | (simp; done)) ?_) | (refine L_loadM (d := some 98) rfl rfl rfl (by rfl) Tryd.underlying25 rfl el_api_Digest (by first | assumption) (by first | rfl | exact Dig.size _ | (simp; done)) ?_)) | fail)
      refine idx_q rfl rfl ?_; go_wp2_with (first | (refine L_un (t := 99) rfl (by rfl) rfl ?_) | (first | (refine L_loadA (d := some 99) rfl rfl rfl (by rfl) Tryd.underlying25 rfl el_api_Digest (by first | exact hst.get 0 rfl | exact hst.get 1 rfl | exact hst.get 2 rfl) (by first | rfl | exact Dig.size _ | (simp; done)) ?_) | (refine L_loadM (d := some 99) rfl rfl rfl (by rfl) Tryd.underlying25 rfl el_api_Digest (by first | assumption) (by first | rfl | exact Dig.size _ | (simp; done)) ?_)) | fail)
      refine idx_g rfl ?_; go_wp2_with (first | (refine L_un (t := 97) rfl (by rfl) rfl ?_) | (go_at_call 35; (try clear hnew); with_reducible refine (node_any _ _ _ (HT.out.of hst)).mono ?_; rintro e Wk61 ⟨rfl, hnew⟩; replace hst := hst.keep hnew) | (go_at_call 36; (try clear hnew); with_reducible refine (rnode_any _ _ _).mono ?_; rintro e Wk62 ⟨rfl, hnew⟩; replace hst := hst.keep hnew) | fail); refine ⟨by first | exact Below.refl _ _ | exact hnew.below, ?_⟩
      refine idx_g rfl ?_; go_wp2_with (first | (refine L_un (t := 100) rfl (by rfl) rfl ?_) | (go_at_call 35; (try clear hnew); with_reducible refine (node_any _ _ _ (HT.out.of hst)).mono ?_; rintro e Wk61 ⟨rfl, hnew⟩; replace hst := hst.keep hnew) | (go_at_call 36; (try clear hnew); with_reducible refine (rnode_any _ _ _).mono ?_; rintro e Wk62 ⟨rfl, hnew⟩; replace hst := hst.keep hnew) | fail); refine ⟨by first | exact Below.refl _ _ | exact hnew.below, ?_⟩
      refine idx_g rfl ?_; go_wp2_with (first | (refine L_un (t := 101) rfl (by rfl) rfl ?_) | (go_at_call 35; (try clear hnew); with_reducible refine (node_any _ _ _ (HT.out.of hst)).mono ?_; rintro e Wk61 ⟨rfl, hnew⟩; replace hst := hst.keep hnew) | (go_at_call 36; (try clear hnew); with_reducible refine (rnode_any _ _ _).mono ?_; rintro e Wk62 ⟨rfl, hnew⟩; replace hst := hst.keep hnew) | (refine L_eqD (d := some 101) rfl rfl rfl Tryd.underlying25 Tryd.underlying5 el_uint8 eqG_D (ev_tmp rfl) (ev_tmp rfl) ?_; (try rw [dEq _])) | fail); refine ⟨by first | exact Below.refl _ _ | exact hnew.below, ?_⟩
      refine idx_g rfl ?_; go_wp2_with (first | (first | (refine L_pickF (d := some 102) rfl rfl rfl (ev_tmp rfl) ev_const ?_) | (refine L_pickT (d := some 102) rfl rfl rfl (ev_tmp rfl) (ev_tmp rfl) ?_)) | fail); refine ⟨by first | exact Below.refl _ _ | exact hnew.below, ?_⟩
      refine idx_g rfl ?_; go_wp2_with fail; refine ⟨by first | exact Below.refl _ _ | exact hnew.below, ?_⟩
      refine idx_nil ?_
      go_wp2_with fail
      go_ret
      exact ⟨rfl, hst.forget⟩
    · have HF := Lib.hid (fun w => tFold_length l B m d i.toNat s.toNat w (by omega) (by omega) hm)
      rw [ei, es] at HF
      have h5 : ((m : Int) != (longN i.toNat s.toNat : Int)) = true := by rw [bne_iff_ne]; omega
      generalize longN i.toNat s.toNat = lg at *
      clear hm ei es g1 g2 g3 g4
      go_upto_region 15 with (first
        | (refine L_allocA (d := some 17) rfl rfl rfl el_api_Digest ?_; (try clear hnew); intro g17 W17 hnew; replace hst := hst.trans hnew; simp only [List.cons_append, List.nil_append] at hst)
        | fail)
      go_upto_region 17 with (first
        | fail)
      go_upto_region 18 with (first
        | (go_at_call 18; (try clear hnew); refine (HL.out _).mono ?_; rintro e Wk63 ⟨rfl, hnew⟩; replace hst := hst.keep hnew)
        | fail)
      go_upto_region 20 with (first
        | fail)
      go_upto_region 21 with (first
        | (go_at_call 20; (try clear hnew); refine (HF.out _).mono ?_; rintro e Wk64 ⟨rfl, hnew⟩; replace hst := hst.keep hnew)
        | (first | (refine L_loadA (d := some 78) rfl rfl rfl (by rfl) Tryd.underlying25 rfl el_api_Digest (by first | exact hst.get 0 rfl | exact hst.get 1 rfl | exact hst.get 2 rfl) (by first | rfl | exact Dig.size _ | (simp; done)) ?_) | (refine L_loadM (d := some 78) rfl rfl rfl (by rfl) Tryd.underlying25 rfl el_api_Digest (by first | assumption) (by first | rfl | exact Dig.size _ | (simp; done)) ?_))
        | (refine L_allocA (d := some 18) rfl rfl rfl el_api_Digest ?_; (try clear hnew); intro g18 W18 hnew; replace hst := hst.trans hnew; simp only [List.cons_append, List.nil_append] at hst)
        | (refine wpl_at (.store 25 (.tmp 18) (.tmp 83)) rfl ?_; first | (refine L_storeA rfl rfl hst rfl (by rfl) (ev_tmp rfl) (by first | rfl | exact Dig.one _ | (simp; done)) el_api_Digest (by first | rfl | exact Dig.size _ | (simp; done)) 0 rfl (by first | rfl | exact Dig.size _ | (simp; done)) ?_; clear hst; intro WS9 hst; simp only [List.set_cons_zero, List.set_cons_succ] at hst) | (refine L_storeA rfl rfl hst rfl (by rfl) (ev_tmp rfl) (by first | rfl | exact Dig.one _ | (simp; done)) el_api_Digest (by first | rfl | exact Dig.size _ | (simp; done)) 1 rfl (by first | rfl | exact Dig.size _ | (simp; done)) ?_; clear hst; intro WS9 hst; simp only [List.set_cons_zero, List.set_cons_succ] at hst) | (refine L_storeA rfl rfl hst rfl (by rfl) (ev_tmp rfl) (by first | rfl | exact Dig.one _ | (simp; done)) el_api_Digest (by first | rfl | exact Dig.size _ | (simp; done)) 2 rfl (by first | rfl | exact Dig.size _ | (simp; done)) ?_; clear hst; intro WS9 hst; simp only [List.set_cons_zero, List.set_cons_succ] at hst) | (refine L_storeM rfl rfl hst rfl (by rfl) (ev_tmp rfl) (by first | rfl | exact Dig.one _ | (simp; done)) el_api_Digest (by first | rfl | exact Dig.size _ | (simp; done)) 0 rfl (by first | exact of_decide_eq_true rfl | (simp; done)) ?_; clear hst; intro WS9 hst; simp only [List.set_cons_zero, List.set_cons_succ] at hst)  | (refine L_storeM rfl rfl hst rfl (by rfl) (ev_tmp rfl) (by first | rfl | exact Dig.one _ | (simp; done)) el_api_Digest (by first | rfl | exact Dig.size _ | (simp; done)) 1 rfl (by first | exact of_decide_eq_true rfl | (simp; done)) ?_; clear hst; intro WS9 hst; simp only [List.set_cons_zero, List.set_cons_succ] at hst)  | (refine L_storeM rfl rfl hst rfl (by rfl) (ev_tmp rfl) (by first | rfl | exact Dig.one _ | (simp; done)) el_api_Digest (by first | rfl | exact Dig.size _ | (simp; done)) 2 rfl (by first | exact of_decide_eq_true rfl | (simp; done)) ?_; clear hst; intro WS9 hst; simp only [List.set_cons_zero, List.set_cons_succ] at hst))
        | fail)
      go_upto_region 22 with (first
        | (go_at_call 29; (try clear hnew); refine (sError_any 3 _ (HE.out.of hst)).mono ?_; rintro e Wk65 ⟨rfl, hnew⟩; replace hst := hst.keep hnew)
        | fail)
      (try clear hnew)
      refine wp_region_idx [(0, 2), (1, 2), (2, 0), (3, 2), (4, 2), (5, 2), (6, 2), (7, 0), (8, 0), (10, 0), (11, 0), (9, 2), (12, 2), (13, 2), (14, 2), (15, 2)] (by kernel_rfl) (by kernel_rfl) ?_
      replace hst := hst.drew
      refine idx_g rfl ?_; go_wp2_with fail; refine ⟨by first | exact Below.refl _ _ | exact hnew.below, ?_⟩
      refine idx_g rfl ?_; go_wp2_with fail; refine ⟨by first | exact Below.refl _ _ | exact hnew.below, ?_⟩
      refine idx_q rfl rfl ?_; go_wp2_with (first | (refine L_un (t := 90) rfl (by rfl) rfl ?_) | (first | (refine L_loadA (d := some 90) rfl rfl rfl (by rfl) Tryd.underlying25 rfl el_api_Digest (by first | exact hst.get 0 rfl | exact hst.get 1 rfl | exact hst.get 2 rfl) (by first | rfl | exact Dig.size _ | (simp; done)) ?_) | (refine L_loadM (d := some 90) rfl rfl rfl (by rfl) Tryd.underlying25 rfl el_api_Digest (by first | assumption) (by first | rfl | exact Dig.size _ | (simp; done)) ?_)) | fail)
      refine idx_g rfl ?_; go_wp2_with (first | (refine L_un (t := 91) rfl (by rfl) rfl ?_) | (first | (refine L_loadA (d := some 91) rfl rfl rfl (by rfl) Tryd.underlying25 rfl el_api_Digest (by first | exact hst.get 0 rfl | exact hst.get 1 rfl | exact hst.get 2 rfl) (by first | rfl | exact Dig.size _ | (simp; done)) ?_) | (refine L_loadM (d := some 91) rfl rfl rfl (by rfl) Tryd.underlying25 rfl el_api_Digest (by first | assumption) (by first | rfl | exact Dig.size _ | (simp; done)) ?_)) | fail); refine ⟨by first | exact Below.refl _ _ | exact hnew.below, ?_⟩
      refine idx_g rfl ?_; go_wp2_with (first | (refine L_un (t := 92) rfl (by rfl) rfl ?_) | (go_at_call 35; (try clear hnew); with_reducible refine (node_any _ _ _ (HT.out.of hst)).mono ?_; rintro e Wk66 ⟨rfl, hnew⟩; replace hst := hst.keep hnew) | (go_at_call 36; (try clear hnew); with_reducible refine (rnode_any _ _ _).mono ?_; rintro e Wk67 ⟨rfl, hnew⟩; replace hst := hst.keep hnew) | (refine L_eqD (d := some 92) rfl rfl rfl Tryd.underlying25 Tryd.underlying5 el_uint8 eqG_D (ev_tmp rfl) (ev_tmp rfl) ?_; (try rw [dEq _])) | fail); refine ⟨by first | exact Below.refl _ _ | exact hnew.below, ?_⟩
      refine idx_g rfl ?_; go_wp2_with (first | (first | (refine L_pickF (d := some 93) rfl rfl rfl (ev_tmp rfl) ev_const ?_) | (refine L_pickT (d := some 93) rfl rfl rfl (ev_tmp rfl) (ev_tmp rfl) ?_)) | fail); refine ⟨by first | exact Below.refl _ _ | exact hnew.below, ?_⟩
      refine idx_g rfl ?_; go_wp2_with fail; refine ⟨by first | exact Below.refl _ _ | exact hnew.below, ?_⟩
      refine idx_q rfl rfl ?_; go_wp2_with (first | (refine L_un (t := 95) rfl (by rfl) rfl ?_) | (first | (refine L_loadA (d := some 95) rfl rfl rfl (by rfl) Tryd.underlying25 rfl el_api_Digest (by first | exact hst.get 0 rfl | exact hst.get 1 rfl | exact hst.get 2 rfl) (by first | rfl | exact Dig.size _ | (simp; done)) ?_) | (refine L_loadM (d := some 95) rfl rfl rfl (by rfl) Tryd.underlying25 rfl el_api_Digest (by first | assumption) (by first | rfl | exact Dig.size _ | (simp; done)) ?_)) | fail)
      refine idx_q rfl rfl ?_; go_wp2_with (first | (refine L_un (t := 96) rfl (by rfl) rfl ?_) | (first | (refine L_loadA (d := some 96) rfl rfl rfl (by rfl) Tryd.underlying25 rfl el_api_Digest (by first | exact hst.get 0 rfl | exact hst.get 1 rfl | exact hst.get 2 rfl) (by first | rfl | exact Dig.size _ | (simp; done)) ?_) | (refine L_loadM (d := some 96) rfl rfl rfl (by rfl) Tryd.underlying25 rfl el_api_Digest (by first | assumption) (by first | rfl | exact Dig.size _ | (simp; done)) ?_)) | fail)
      refine idx_q rfl rfl ?_; go_wp2_with (first | (refine L_un (t := 98) rfl (by rfl) rfl ?_) | (first | (refine L_loadA (d := some 98) rfl rfl rfl (by rfl) Tryd.underlying25 rfl el_api_Digest (by first | exact hst.get 0 rfl | exact hst.get 1 rfl | exact hst.get 2 rfl) (by first | rfl | exact Dig.size _ | (simp; done)) ?_) | (refine L_loadM (d := some 98) rfl rfl rfl (by rfl) Tryd.underlying25 rfl el_api_Digest (by first | assumption) (by first | rfl | exact Dig.size _ | (simp; done)) ?_)) | fail)
      refine idx_q rfl rfl ?_; go_wp2_with (first | (refine L_un (t := 99) rfl (by rfl) rfl ?_) | (first | (refine L_loadA (d := some 99) rfl rfl rfl (by rfl) Tryd.underlying25 rfl el_api_Digest (by first | exact hst.get 0 rfl | exact hst.get 1 rfl | exact hst.get 2 rfl) (by first | rfl | exact Dig.size _ | (simp; done)) ?_) | (refine L_loadM (d := some 99) rfl rfl rfl (by rfl) Tryd.underlying25 rfl el_api_Digest (by first | assumption) (by first | rfl | exact Dig.size _ | (simp; done)) ?_)) | fail)
      refine idx_g rfl ?_; go_wp2_with (first | (refine L_un (t := 97) rfl (by rfl) rfl ?_) | (go_at_call 35; (try clear hnew); with_reducible refine (node_any _ _ _ (HT.out.of hst)).mono ?_; rintro e Wk66 ⟨rfl, hnew⟩; replace hst := hst.keep hnew) | (go_at_call 36; (try clear hnew); with_reducible refine (rnode_any _ _ _).mono ?_; rintro e Wk67 ⟨rfl, hnew⟩; replace hst := hst.keep hnew) | fail); refine ⟨by first | exact Below.refl _ _ | exact hnew.below, ?_⟩
      refine idx_g rfl ?_; go_wp2_with (first | (refine L_un (t := 100) rfl (by rfl) rfl ?_) | (go_at_call 35; (try clear hnew); with_reducible refine (node_any _ _ _ (HT.out.of hst)).mono ?_; rintro e Wk66 ⟨rfl, hnew⟩; replace hst := hst.keep hnew) | (go_at_call 36; (try clear hnew); with_reducible refine (rnode_any _ _ _).mono ?_; rintro e Wk67 ⟨rfl, hnew⟩; replace hst := hst.keep hnew) | fail); refine ⟨by first | exact Below.refl _ _ | exact hnew.below, ?_⟩
      refine idx_g rfl ?_; go_wp2_with (first | (refine L_un (t := 101) rfl (by rfl) rfl ?_) | (go_at_call 35; (try clear hnew); with_reducible refine (node_any _ _ _ (HT.out.of hst)).mono ?_; rintro e Wk66 ⟨rfl, hnew⟩; replace hst := hst.keep hnew) | (go_at_call 36; (try clear hnew); with_reducible refine (rnode_any _ _ _).mono ?_; rintro e Wk67 ⟨rfl, hnew⟩; replace hst := hst.keep hnew) | (refine L_eqD (d := some 101) rfl rfl rfl Tryd.underlying25 Tryd.underlying5 el_uint8 eqG_D (ev_tmp rfl) (ev_tmp rfl) ?_; (try rw [dEq _])) | fail); refine ⟨by first | exact Below.refl _ _ | exact hnew.below, ?_⟩
      refine idx_g rfl ?_; go_wp2_with (first | (first | (refine L_pickF (d := some 102) rfl rfl rfl (ev_tmp rfl) ev_const ?_) | (refine L_pickT (d := some 102) rfl rfl rfl (ev_tmp rfl) (ev_tmp rfl) ?_)) | fail); refine ⟨by first | exact Below.refl _ _ | exact hnew.below, ?_⟩
      refine idx_g rfl ?_; go_wp2_with fail; refine ⟨by first | exact Below.refl _ _ | exact hnew.below, ?_⟩
      refine idx_nil ?_
      go_wp2_with fail
      go_ret
      exact ⟨rfl, hst.forget⟩

theorem treePaths_any (w : World) (hT : Tb w) (hE : Eb w) (ls : List Dig) (A : Option Addr) (n c : Nat) (hx : SlR w A n c 32 (digsL ls)) (_ : n * 32 ≤ 140737488351232) (i : Int) (_ : -9223372036854775808 ≤ i) (_ : i ≤ 9223372036854775807) (l : Dig) (s : Int) (_ : -9223372036854775808 ≤ s) (_ : s ≤ 9223372036854775807) (path : List Dig) (B : Option Addr) (m d : Nat) (hy : SlR w B m d 32 (digsL path)) (_ : m * 32 ≤ 140737488351232) :
    Calls Tryd.prog 11 #[.slice A n c, .int .i64 i, l.v, .int .i64 s, .slice B m d] w fun e w' => e = .returned (.bool true) ∧ St w w' [] := by
  by_cases hn : 256 < n
  · exact treePaths_A w hT hE ls A n c hx i l s path B m d hy hn
  · by_cases h1 : i < 0
    · exact treePaths_B w hT hE ls A n c hx i l s path B m d hy (by omega) h1
    · by_cases h2 : (n : Int) ≤ i
      · exact treePaths_C w hT hE ls A n c hx i l s path B m d hy (by omega) h1 h2
      · exact treePaths_D w hT hE ls A n c hx i l s path B m d hy (by omega) (by omega) (by omega)
end Go.Proofs.YtfpppmamkmaneaaDoor
