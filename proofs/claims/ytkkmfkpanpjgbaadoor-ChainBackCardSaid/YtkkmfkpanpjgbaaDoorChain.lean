/-
  Proved here: the contracts of a chain's steps.
-/
import Derived.Test.YtkkmfkpanpjgbaaDoorErr
import Derived.Test.YtkkmfkpanpjgbaaDoorMac
set_option maxRecDepth 20000
set_option linter.unusedSimpArgs false
set_option linter.unusedVariables false
namespace Go.Proofs.YtkkmfkpanpjgbaaDoor
open Go.RowKit

def stepN (d : Dig) : Dig := ofN 8 [d]
def walkN (d : Dig) : Nat → Dig
  | 0 => d
  | n + 1 => stepN (walkN d n)
theorem walkN_add (d : Dig) (m n : Nat) : walkN (walkN d m) n = walkN d (m + n) := by
  induction n with
  | zero => rfl
  | succ n ih => rw [walkN, ih]; rfl
theorem digsL_single (d : Dig) : digsL [d] = d.arr.toList := by rw [Dig.toList]; simp [digsL]

set_option maxHeartbeats 1000000 in
theorem step_any (d : Dig) (w : World) (hT : Tb w) : Calls Tryd.prog 9 #[d.v] w fun e w' => e = .returned (stepN d).v ∧ St w w' [] := by
  have hst := St.refl w
  have HT := Lib.hid hT
  clear hT
  go_enter Tryd.func9, Tryd.ntmps9
  go_wp2_with (first | (go_at_call 13; (try clear hnew); refine (of_any 8 [d] _ _ _ _ (HT.out.of hst) (by rw [digsL_single]; exact hst.sl 0 rfl) (by decide)).mono ?_; rintro e W5 ⟨rfl, hnew⟩; replace hst := hst.keep hnew) | (refine L_boxA (d := some 1) rfl rfl rfl (ev_tmp rfl) ?_; (try clear hnew); intro g1 W1 hnew; replace hst := hst.trans hnew; simp only [List.cons_append, List.nil_append] at hst) | (refine L_allocA (d := some 2) rfl rfl rfl el_api_Digest ?_; (try clear hnew); intro g2 W2 hnew; replace hst := hst.trans hnew; simp only [List.cons_append, List.nil_append] at hst) | ((refine L_loadA (d := some 3) rfl rfl rfl (by rfl) Tryd.underlying23 rfl el_api_Digest (by (exact hst.get 1 rfl)) (by (exact Dig.size _)) ?_)) | (refine L_buildS (d := some 4) rfl rfl rfl [_] (bs_1 (ev_tmp rfl)) rfl Tryd.underlying47 el_api_Digest rfl (by (simp [Value.cells, Dig.size]; done)) (by decide) (by decide) ?_; (try clear hnew); intro g4 W4 hnew; replace hst := hst.trans hnew; simp only [List.cons_append, List.nil_append] at hst; simp only [List.flatMap_cons, List.flatMap_nil, List.append_nil, Value.cells, List.toList_toArray] at hst) | (refine wpl_at (.store 23 (.tmp 2) (.tmp 5)) rfl ?_; (refine L_storeA rfl rfl hst rfl (by rfl) (ev_tmp rfl) (by (exact Dig.one _)) el_api_Digest (by (rfl)) 1 rfl (by (rfl)) ?_; clear hst; intro WS3 hst; simp only [List.set_cons_zero, List.set_cons_succ] at hst)))
  refine bp_cell rfl rfl rfl (hst.get 1 rfl) Tryd.underlying23 rfl el_api_Digest (by (rfl)) ?_
  exact ⟨rfl, hst.forget⟩

set_option maxHeartbeats 1000000 in
theorem walk_any (d : Dig) (n : Nat) (w : World) (hT : Tb w) (hn : n ≤ 1000) : Calls Tryd.prog 12 #[d.v, .int .i64 (n : Int)] w fun e w' => e = .returned (walkN d n).v ∧ St w w' [] := by
  have hst := St.refl w
  have HT := Lib.hid hT
  clear hT
  go_enter Tryd.func12, Tryd.ntmps12
  go_wp2_with (first | (refine L_boxA (d := some 2) rfl rfl rfl (ev_tmp rfl) ?_; (try clear hnew); intro g2 W2 hnew; replace hst := hst.trans hnew; simp only [List.cons_append, List.nil_append] at hst) | (refine L_allocA (d := some 4) rfl rfl rfl el_api_Digest ?_; (try clear hnew); intro g4 W4 hnew; replace hst := hst.trans hnew; simp only [List.cons_append, List.nil_append] at hst))
  have hst : St w W4 [.blk g4 23 zeroD.arr, .blk g2 23 (walkN d 0).arr] := hst
  go_loopg [6] n (fun gk s6 wr => ∃ i : Nat, Hid (i + gk = n) ∧ s6 = .int .i64 (i : Int) ∧ St w wr [.blk g4 23 zeroD.arr, .blk g2 23 (walkN d i).arr])
  case atStart => exact ⟨0, Lib.hid (by omega), rfl, hst⟩
  case round =>
    clear hst hnew
    obtain ⟨i, HI, rfl, hst⟩ := hrel
    have hi := HI.out
    by_cases hin : i < n
    · clear hi
      go_wp2_with (first | (go_at_call 9; (try clear hnew); with_reducible refine (step_any _ _ (HT.out.of hst)).mono ?_; rintro e W9 ⟨rfl, hnew⟩; replace hst := hst.keep hnew) | ((refine L_loadA (d := some 8) rfl rfl rfl (by rfl) Tryd.underlying23 rfl el_api_Digest (by (exact hst.get 1 rfl)) (by (exact Dig.size _)) ?_)) | (refine wpl_at (.store 23 (.tmp 2) (.tmp 9)) rfl ?_; (refine L_storeA rfl rfl hst rfl (by rfl) (ev_tmp rfl) (by (exact Dig.one _)) el_api_Digest (by (rfl)) 1 rfl (by (exact Dig.size _)) ?_; clear hst; intro WS2 hst; simp only [List.set_cons_zero, List.set_cons_succ] at hst)))
      go_roundg (gk - 1)
      case measure => have hi := HI.out; omega
      case rel =>
        have hi := HI.out
        exact ⟨i + 1, Lib.hid (by omega), by go_num, hst⟩
    · obtain rfl : i = n := by omega
      clear hi HI
      go_wp2_with (first | ((refine L_loadA (d := some 11) rfl rfl rfl (by rfl) Tryd.underlying23 rfl el_api_Digest (by (exact hst.get 1 rfl)) (by (exact Dig.size _)) ?_)) | (refine wpl_at (.store 23 (.tmp 4) (.tmp 11)) rfl ?_; (refine L_storeA rfl rfl hst rfl (by rfl) (ev_tmp rfl) (by (exact Dig.one _)) el_api_Digest (by (exact Dig.size _)) 0 rfl (by (rfl)) ?_; clear hst; intro WS1 hst; simp only [List.set_cons_zero, List.set_cons_succ] at hst)))
      refine bp_cell rfl rfl rfl (hst.get 0 rfl) Tryd.underlying23 rfl el_api_Digest (by (exact Dig.size _)) ?_
      exact ⟨rfl, hst.forget⟩

set_option maxHeartbeats 1000000 in
theorem cwalk_any (d : Dig) (n : Nat) (w : World) (hT : Tb w) (hn : n ≤ 1000) : Calls Tryd.prog 8 #[d.v, .int .i64 (n : Int)] w fun e w' => e = .returned (.tuple #[(walkN d n).v, .nilIface]) ∧ St w w' [] := by
  have hst := St.refl w
  have HT := Lib.hid hT
  have h0 : ¬ (n : Int) < 0 := by omega
  have h1 : ¬ (1000 : Int) < (n : Int) := by omega
  clear hT
  go_enter Tryd.func8, Tryd.ntmps8
  go_wp2_with (first | (go_at_call 12; (try clear hnew); with_reducible refine (walk_any _ _ _ (HT.out.of hst) hn).mono ?_; rintro e W16 ⟨rfl, hnew⟩; replace hst := hst.keep hnew) | (refine L_boxA (d := some 2) rfl rfl rfl (ev_tmp rfl) ?_; (try clear hnew); intro g2 W2 hnew; replace hst := hst.trans hnew; simp only [List.cons_append, List.nil_append] at hst) | (refine L_allocA (d := some 4) rfl rfl rfl el_api_Digest ?_; (try clear hnew); intro g4 W4 hnew; replace hst := hst.trans hnew; simp only [List.cons_append, List.nil_append] at hst) | ((refine L_loadA (d := some 14) rfl rfl rfl (by rfl) Tryd.underlying23 rfl el_api_Digest (by (exact hst.get 1 rfl)) (by (exact Dig.size _)) ?_)) | (refine wpl_at (.store 23 (.tmp 4) (.tmp 16)) rfl ?_; (refine L_storeA rfl rfl hst rfl (by rfl) (ev_tmp rfl) (by (exact Dig.one _)) el_api_Digest (by (exact Dig.size _)) 0 rfl (by (rfl)) ?_; clear hst; intro WS3 hst; simp only [List.set_cons_zero, List.set_cons_succ] at hst)))
  refine bp_cell_tmp rfl rfl rfl rfl (hst.get 0 rfl) Tryd.underlying23 rfl el_api_Digest (by (exact Dig.size _)) ?_
  exact ⟨rfl, hst.forget⟩
theorem cwalk_no (d : Dig) (n : Int) (w : World) (hn : n < 0 ∨ 1000 < n) : Calls Tryd.prog 8 #[d.v, .int .i64 n] w fun e w' => e = .returned (.tuple #[zeroD.v, errV 2]) ∧ St w w' [] := by
  have hst := St.refl w
  rcases Int.lt_or_le n 0 with h0 | h0
  · go_enter Tryd.func8, Tryd.ntmps8
    go_wp2_with (first | (refine L_boxA (d := some 2) rfl rfl rfl (ev_tmp rfl) ?_; (try clear hnew); intro g2 W2 hnew; replace hst := hst.trans hnew; simp only [List.cons_append, List.nil_append] at hst) | (refine L_allocA (d := some 4) rfl rfl rfl el_api_Digest ?_; (try clear hnew); intro g4 W4 hnew; replace hst := hst.trans hnew; simp only [List.cons_append, List.nil_append] at hst) | (refine L_build0 (d := some 12) rfl rfl rfl Tryd.underlying23 el_uint8 el_api_Digest ?_) | (refine wpl_at (.store 23 (.tmp 4) (.tmp 12)) rfl ?_; (refine L_storeA rfl rfl hst rfl (by rfl) (ev_tmp rfl) (by (exact Dig.one _)) el_api_Digest (by (rfl)) 0 rfl (by (rfl)) ?_; clear hst; intro WS2 hst; simp only [List.set_cons_zero, List.set_cons_succ] at hst)))
    refine bp_cell_tmp rfl rfl rfl rfl (hst.get 0 rfl) Tryd.underlying23 rfl el_api_Digest (by (rfl)) ?_
    exact ⟨rfl, hst.forget⟩
  · have h1 : 1000 < n := by omega
    have h0' : ¬ n < 0 := by omega
    go_enter Tryd.func8, Tryd.ntmps8
    go_wp2_with (first | (refine L_boxA (d := some 2) rfl rfl rfl (ev_tmp rfl) ?_; (try clear hnew); intro g2 W2 hnew; replace hst := hst.trans hnew; simp only [List.cons_append, List.nil_append] at hst) | (refine L_allocA (d := some 4) rfl rfl rfl el_api_Digest ?_; (try clear hnew); intro g4 W4 hnew; replace hst := hst.trans hnew; simp only [List.cons_append, List.nil_append] at hst) | (refine L_build0 (d := some 12) rfl rfl rfl Tryd.underlying23 el_uint8 el_api_Digest ?_) | (refine wpl_at (.store 23 (.tmp 4) (.tmp 12)) rfl ?_; (refine L_storeA rfl rfl hst rfl (by rfl) (ev_tmp rfl) (by (exact Dig.one _)) el_api_Digest (by (rfl)) 0 rfl (by (rfl)) ?_; clear hst; intro WS2 hst; simp only [List.set_cons_zero, List.set_cons_succ] at hst)))
    refine bp_cell_tmp rfl rfl rfl rfl (hst.get 0 rfl) Tryd.underlying23 rfl el_api_Digest (by (rfl)) ?_
    exact ⟨rfl, hst.forget⟩
theorem cwalk_int (d : Dig) (k : Int) (w : World) (hT : Tb w) (h0 : 0 ≤ k) (hk : k ≤ 1000) : Calls Tryd.prog 8 #[d.v, .int .i64 k] w fun e w' => e = .returned (.tuple #[(walkN d k.toNat).v, .nilIface]) ∧ St w w' [] := by
  have := cwalk_any d k.toNat w hT (by omega)
  rwa [Int.toNat_of_nonneg h0] at this
theorem eqG_D : Tryd.prog.eqGuardType Tryd.prog.depth 23 = false := by kernel_rfl
end Go.Proofs.YtkkmfkpanpjgbaaDoor
