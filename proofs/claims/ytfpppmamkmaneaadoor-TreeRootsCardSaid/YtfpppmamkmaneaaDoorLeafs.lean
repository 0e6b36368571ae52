/-
  Proved here: the contracts of tree.Leaf and of the reference's Leaf. Condition: the table of round constants stands.
-/
import Derived.Test.YtfpppmamkmaneaaDoorTree
import Derived.Test.YtfpppmamkmaneaaDoorRefSum
set_option maxRecDepth 20000
namespace Go.Proofs.YtfpppmamkmaneaaDoor
open Go.RowKit
def leafBN (b : List UInt8) : Dig := sha (0 :: b)

set_option maxHeartbeats 1000000 in
theorem tleaf_any (b : List UInt8) (A : Option Addr) (n c : Nat) (w : World) (hT : Tb w) (hx : SlR w A n c 1 (bytesL b)) (hn : n ≤ 140737488354000) :
    Calls Tryd.prog 30 #[.slice A n c] w fun e w' => e = .returned (leafBN b).v ∧ St w w' [] := by
  have hst := St.refl w
  have HT := Lib.hid hT
  have HB := Lib.hid (show [Value.int .u8 0] ++ bytesL b = bytesL (0 :: b) from rfl)
  clear hT
  go_enter Tryd.func30, Tryd.ntmps30
  go_wp2_with (first
    | (go_at_call 62; (try clear hnew); refine (ssum_any (List.cons 0 b) _ _ _ _ (HT.out.of hst) (by rw [← HB.out]; exact hst.sl 0 rfl) (by omega)).mono ?_; rintro e Wk1 ⟨rfl, hnew⟩; replace hst := hst.keep hnew)
    | (refine L_allocA (d := some 2) rfl rfl rfl el_api_Digest ?_; (try clear hnew); intro g2 W2 hnew; replace hst := hst.trans hnew; simp only [List.cons_append, List.nil_append] at hst)
    | (refine L_buildS (d := some 3) rfl rfl rfl [_] (bs_1 ev_const) rfl Tryd.underlying44 el_uint8 rfl (by first | (simp [Value.cells]; done) | (simp [Value.cells, Dig.size]; done)) (by decide) (by decide) ?_; (try clear hnew); intro g3 W3 hnew; replace hst := hst.trans hnew; simp only [List.cons_append, List.nil_append] at hst; simp only [List.flatMap_cons, List.flatMap_nil, List.append_nil, Value.cells, List.toList_toArray] at hst)
    | (refine L_appendO (d := some 5) rfl rfl hst rfl (by rfl) (by rfl) Tryd.underlying44 el_uint8 rfl (by decide) (by decide) 0 rfl (by first | rfl | omega) (by first | exact hst.old (by decide) hx | exact hst.sl 0 rfl | exact hst.sl 1 rfl | assumption | exact hst.old (by decide) (by assumption)) (by first | exact oneCell_bytes | (simp [Value.oneCell']; done)) (by omega) ?_; clear hst; intro A5 c5 W5 hst; simp only [List.set_cons_zero, List.set_cons_succ, List.nil_append, Nat.zero_add] at hst)
    | (refine L_appendO (d := some 5) rfl rfl hst rfl (by rfl) (by rfl) Tryd.underlying44 el_uint8 rfl (by decide) (by decide) 1 rfl (by first | rfl | omega) (by first | exact hst.old (by decide) hx | exact hst.sl 0 rfl | exact hst.sl 1 rfl | assumption | exact hst.old (by decide) (by assumption)) (by first | exact oneCell_bytes | (simp [Value.oneCell']; done)) (by omega) ?_; clear hst; intro A5 c5 W5 hst; simp only [List.set_cons_zero, List.set_cons_succ, List.nil_append, Nat.zero_add] at hst)
    | (refine L_appendF (d := some 5) rfl rfl rfl (by rfl) (by rfl) Tryd.underlying44 el_uint8 rfl (by decide) (by assumption) (by first | assumption | exact hst.old (by decide) hx | exact hst.sl 0 rfl | exact hst.sl 1 rfl | assumption | exact hst.old (by decide) (by assumption)) (by omega) (by omega) (by omega) ?_; (try clear hnew); intro A5 c5 W5 hnew; replace hst := hst.trans hnew; simp only [List.cons_append, List.nil_append] at hst)
    | (refine wpl_at (.store 25 (.tmp 2) (.tmp 6)) rfl ?_; first | (refine L_storeA rfl rfl hst rfl (by rfl) (ev_tmp rfl) (by first | rfl | exact Dig.one _ | (simp; done)) el_api_Digest (by first | rfl | exact Dig.size _ | (simp; done)) 0 rfl (by first | rfl | exact Dig.size _ | (simp; done)) ?_; clear hst; intro WS4 hst; simp only [List.set_cons_zero, List.set_cons_succ, HB.out] at hst) | (refine L_storeA rfl rfl hst rfl (by rfl) (ev_tmp rfl) (by first | rfl | exact Dig.one _ | (simp; done)) el_api_Digest (by first | rfl | exact Dig.size _ | (simp; done)) 1 rfl (by first | rfl | exact Dig.size _ | (simp; done)) ?_; clear hst; intro WS4 hst; simp only [List.set_cons_zero, List.set_cons_succ, HB.out] at hst) | (refine L_storeM rfl rfl hst rfl (by rfl) (ev_tmp rfl) (by first | rfl | exact Dig.one _ | (simp; done)) el_api_Digest (by first | rfl | exact Dig.size _ | (simp; done)) 0 rfl (by first | exact of_decide_eq_true rfl | (simp; done)) ?_; clear hst; intro WS4 hst; simp only [List.set_cons_zero, List.set_cons_succ, HB.out] at hst)  | (refine L_storeM rfl rfl hst rfl (by rfl) (ev_tmp rfl) (by first | rfl | exact Dig.one _ | (simp; done)) el_api_Digest (by first | rfl | exact Dig.size _ | (simp; done)) 1 rfl (by first | exact of_decide_eq_true rfl | (simp; done)) ?_; clear hst; intro WS4 hst; simp only [List.set_cons_zero, List.set_cons_succ, HB.out] at hst))
    | fail)
  refine bp_cell rfl rfl rfl (hst.get 1 rfl) Tryd.underlying25 rfl el_api_Digest (by first | rfl | exact Dig.size _ | (simp; done)) ?_
  exact ⟨rfl, hst.forget⟩
set_option maxHeartbeats 1000000 in
theorem rleaf_any (b : List UInt8) (A : Option Addr) (n c : Nat) (w : World) (hx : SlR w A n c 1 (bytesL b)) (hn : n ≤ 140737488354000) :
    Calls Tryd.prog 31 #[.slice A n c] w fun e w' => e = .returned (leafBN b).v ∧ St w w' [] := by
  have hst := St.refl w
  have HB := Lib.hid (show [Value.int .u8 0] ++ bytesL b = bytesL (0 :: b) from rfl)
  go_enter Tryd.func31, Tryd.ntmps31
  go_wp2_with (first
    | (go_at_call 64; (try clear hnew); refine (rsum_any (List.cons 0 b) _ _ _ _ (by rw [← HB.out]; exact hst.sl 0 rfl) (by omega)).mono ?_; rintro e Wk2 ⟨rfl, hnew⟩; replace hst := hst.keep hnew)
    | (refine L_allocA (d := some 2) rfl rfl rfl el_api_Digest ?_; (try clear hnew); intro g2 W2 hnew; replace hst := hst.trans hnew; simp only [List.cons_append, List.nil_append] at hst)
    | (refine L_buildS (d := some 3) rfl rfl rfl [_] (bs_1 ev_const) rfl Tryd.underlying44 el_uint8 rfl (by first | (simp [Value.cells]; done) | (simp [Value.cells, Dig.size]; done)) (by decide) (by decide) ?_; (try clear hnew); intro g3 W3 hnew; replace hst := hst.trans hnew; simp only [List.cons_append, List.nil_append] at hst; simp only [List.flatMap_cons, List.flatMap_nil, List.append_nil, Value.cells, List.toList_toArray] at hst)
    | (refine L_appendO (d := some 5) rfl rfl hst rfl (by rfl) (by rfl) Tryd.underlying44 el_uint8 rfl (by decide) (by decide) 0 rfl (by first | rfl | omega) (by first | exact hst.old (by decide) hx | exact hst.sl 0 rfl | exact hst.sl 1 rfl | assumption | exact hst.old (by decide) (by assumption)) (by first | exact oneCell_bytes | (simp [Value.oneCell']; done)) (by omega) ?_; clear hst; intro A5 c5 W5 hst; simp only [List.set_cons_zero, List.set_cons_succ, List.nil_append, Nat.zero_add] at hst)
    | (refine L_appendO (d := some 5) rfl rfl hst rfl (by rfl) (by rfl) Tryd.underlying44 el_uint8 rfl (by decide) (by decide) 1 rfl (by first | rfl | omega) (by first | exact hst.old (by decide) hx | exact hst.sl 0 rfl | exact hst.sl 1 rfl | assumption | exact hst.old (by decide) (by assumption)) (by first | exact oneCell_bytes | (simp [Value.oneCell']; done)) (by omega) ?_; clear hst; intro A5 c5 W5 hst; simp only [List.set_cons_zero, List.set_cons_succ, List.nil_append, Nat.zero_add] at hst)
    | (refine L_appendF (d := some 5) rfl rfl rfl (by rfl) (by rfl) Tryd.underlying44 el_uint8 rfl (by decide) (by assumption) (by first | assumption | exact hst.old (by decide) hx | exact hst.sl 0 rfl | exact hst.sl 1 rfl | assumption | exact hst.old (by decide) (by assumption)) (by omega) (by omega) (by omega) ?_; (try clear hnew); intro A5 c5 W5 hnew; replace hst := hst.trans hnew; simp only [List.cons_append, List.nil_append] at hst)
    | (refine wpl_at (.store 25 (.tmp 2) (.tmp 6)) rfl ?_; first | (refine L_storeA rfl rfl hst rfl (by rfl) (ev_tmp rfl) (by first | rfl | exact Dig.one _ | (simp; done)) el_api_Digest (by first | rfl | exact Dig.size _ | (simp; done)) 0 rfl (by first | rfl | exact Dig.size _ | (simp; done)) ?_; clear hst; intro WS4 hst; simp only [List.set_cons_zero, List.set_cons_succ, HB.out] at hst) | (refine L_storeA rfl rfl hst rfl (by rfl) (ev_tmp rfl) (by first | rfl | exact Dig.one _ | (simp; done)) el_api_Digest (by first | rfl | exact Dig.size _ | (simp; done)) 1 rfl (by first | rfl | exact Dig.size _ | (simp; done)) ?_; clear hst; intro WS4 hst; simp only [List.set_cons_zero, List.set_cons_succ, HB.out] at hst) | (refine L_storeM rfl rfl hst rfl (by rfl) (ev_tmp rfl) (by first | rfl | exact Dig.one _ | (simp; done)) el_api_Digest (by first | rfl | exact Dig.size _ | (simp; done)) 0 rfl (by first | exact of_decide_eq_true rfl | (simp; done)) ?_; clear hst; intro WS4 hst; simp only [List.set_cons_zero, List.set_cons_succ, HB.out] at hst)  | (refine L_storeM rfl rfl hst rfl (by rfl) (ev_tmp rfl) (by first | rfl | exact Dig.one _ | (simp; done)) el_api_Digest (by first | rfl | exact Dig.size _ | (simp; done)) 1 rfl (by first | exact of_decide_eq_true rfl | (simp; done)) ?_; clear hst; intro WS4 hst; simp only [List.set_cons_zero, List.set_cons_succ, HB.out] at hst))
    | fail)
  refine bp_cell rfl rfl rfl (hst.get 1 rfl) Tryd.underlying25 rfl el_api_Digest (by first | rfl | exact Dig.size _ | (simp; done)) ?_
  exact ⟨rfl, hst.forget⟩
end Go.Proofs.YtfpppmamkmaneaaDoor
