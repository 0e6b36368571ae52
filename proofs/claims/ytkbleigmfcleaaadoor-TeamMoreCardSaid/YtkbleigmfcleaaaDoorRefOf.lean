/-
  Proved here: the contract of the reference's digest of digests. Condition: lengths that slices may have.
-/
import Derived.Test.YtkbleigmfcleaaaDoorRefSum
import Derived.Test.YtkbleigmfcleaaaDoorDigsL
import Derived.Deep.DeepCutAuto
import Derived.Deep.RegionWith
set_option maxRecDepth 20000
set_option linter.unusedSimpArgs false
set_option linter.unusedVariables false
namespace Go.Proofs.YtkbleigmfcleaaaDoor
open Go.RowKit

set_option maxHeartbeats 1000000 in
theorem rof_any (tag : UInt8) (ds : List Dig) (A : Option Addr) (n c : Nat) (w : World) (hx : SlR w A n c 32 (digsL ds)) (hm : n ≤ 1099511627776) :
    Calls Tryd.prog 101 #[byteV tag, .slice A n c] w fun e w' => e = .returned (ofN tag ds).v ∧ St w w' [] := by
  have hst := St.refl w
  have hn : ds.length = n := by
    have := hx.1
    rw [length_digsL] at this
    omega
  have Hn := Lib.hid hn
  have hcap := hx.2.1
  have hmx := hx.2.2.1
  simp only [maxLen] at hmx
  clear hn
  unfold byteV
  go_enter Tryd.func101, Tryd.ntmps101
  go_wp2_with (first
    | (refine L_allocA (d := some 4) rfl rfl rfl el_api_Digest ?_; (try clear hnew); intro g4 W4 hnew; replace hst := hst.trans hnew; simp only [List.cons_append, List.nil_append] at hst)
    | (refine L_buildS (d := some 9) rfl rfl rfl [_] (bs_1 (ev_tmp rfl)) rfl Tryd.underlying49 el_uint8 rfl (by first | (simp [Value.cells]; done) | (simp [Value.cells, Dig.size]; done)) (by decide) (by decide) ?_; (try clear hnew); intro g9 W9 hnew; replace hst := hst.trans hnew; simp only [List.cons_append, List.nil_append] at hst; simp only [List.flatMap_cons, List.flatMap_nil, List.append_nil, Value.cells, List.toList_toArray] at hst)
    | fail)
  have hst : St w W9 [.row g9 (1 + 0 * 32) 1 5 1 (bytesL (tag :: allB (ds.take 0))), .blk g4 23 zeroD.arr] := hst
  clear hnew
  go_loopg [5, 6] n (fun gk s5 s6 wr => ∃ (i : Nat) (A' : Option Addr) (c' : Nat), Hid (i + gk = n) ∧ s5 = .slice A' (1 + i * 32) c' ∧ s6 = .int .i64 (i : Int) ∧ St w wr [.row A' (1 + i * 32) c' 5 1 (bytesL (tag :: allB (ds.take i))), .blk g4 23 zeroD.arr])
  case atStart => exact ⟨0, g9, 1, Lib.hid (by omega), rfl, rfl, hst⟩
  case round =>
    clear hst
    obtain ⟨i, A', c', HI, rfl, rfl, hst⟩ := hrel
    have hi := HI.out
    by_cases hin : i < n
    · clear hi
      have hds := Lib.hid (digsL_at ds i (by rw [Hn.out]; exact hin))
      have hta := Lib.hid (allB_take ds i (by rw [Hn.out]; exact hin))
      have hgt : ∃ dd : Dig, Hid (dd = ds[i]'(by rw [Hn.out]; exact hin)) := ⟨_, Lib.hid rfl⟩
      obtain ⟨dd, hdd⟩ := hgt
      go_wp2_with (first
        | (refine L_loadM (d := some 19) rfl rfl rfl (by rfl) Tryd.underlying23 rfl el_api_Digest (cs := dd.arr) (by rw [Dig.toList, hdd.out, ← hds.out]; exact hr18) (Dig.size _) ?_)
        | (refine L_idxS (d := some 18) rfl rfl rfl (by rfl) (by rfl) Tryd.underlying74 el_api_Digest (by first | exact hs21 | exact hst.old (by decide) hx | assumption | exact hst.sl 0 rfl | exact hst.sl 1 rfl | exact hst.sl 2 rfl | exact hst.old (by decide) (by assumption)) (by omega) (by omega) ?_; intro o18 p18 ha18 hr18; (first | subst ha18 | (obtain ⟨h1, h2⟩ := some_addr ha18; subst h1; subst h2; clear ha18) | skip))
        | (first | (refine L_loadA (d := some 19) rfl rfl rfl (by rfl) Tryd.underlying23 rfl el_api_Digest (by first | exact hst.get 0 rfl | exact hst.get 1 rfl | exact hst.get 2 rfl) (by first | rfl | exact Dig.size _ | (simp; done)) ?_) | (refine L_loadM (d := some 19) rfl rfl rfl (by rfl) Tryd.underlying23 rfl el_api_Digest (by first | assumption) (by first | rfl | exact Dig.size _ | (simp; done)) ?_))
        | (refine L_allocA (d := some 7) rfl rfl rfl el_api_Digest ?_; (try clear hnew); intro g7 W7 hnew; replace hst := hst.trans hnew; simp only [List.cons_append, List.nil_append] at hst)
        | (refine wpl_at (.store 23 (.tmp 7) (.tmp 19)) rfl ?_; first | (refine L_storeA rfl rfl hst rfl (by rfl) (ev_tmp rfl) (by first | rfl | exact Dig.one _ | (simp; done)) el_api_Digest (by first | rfl | exact Dig.size _ | (simp; done)) 0 rfl (by first | rfl | exact Dig.size _ | (simp; done)) ?_; clear hst; intro WS5 hst; simp only [List.set_cons_zero, List.set_cons_succ] at hst) | (refine L_storeA rfl rfl hst rfl (by rfl) (ev_tmp rfl) (by first | rfl | exact Dig.one _ | (simp; done)) el_api_Digest (by first | rfl | exact Dig.size _ | (simp; done)) 1 rfl (by first | rfl | exact Dig.size _ | (simp; done)) ?_; clear hst; intro WS5 hst; simp only [List.set_cons_zero, List.set_cons_succ] at hst) | (refine L_storeA rfl rfl hst rfl (by rfl) (ev_tmp rfl) (by first | rfl | exact Dig.one _ | (simp; done)) el_api_Digest (by first | rfl | exact Dig.size _ | (simp; done)) 2 rfl (by first | rfl | exact Dig.size _ | (simp; done)) ?_; clear hst; intro WS5 hst; simp only [List.set_cons_zero, List.set_cons_succ] at hst) | (refine L_storeM rfl rfl hst rfl (by rfl) (ev_tmp rfl) (by first | rfl | exact Dig.one _ | (simp; done)) el_api_Digest (by first | rfl | exact Dig.size _ | (simp; done)) 0 rfl (by first | exact of_decide_eq_true rfl | (simp; done)) ?_; clear hst; intro WS5 hst; simp only [List.set_cons_zero, List.set_cons_succ] at hst)  | (refine L_storeM rfl rfl hst rfl (by rfl) (ev_tmp rfl) (by first | rfl | exact Dig.one _ | (simp; done)) el_api_Digest (by first | rfl | exact Dig.size _ | (simp; done)) 1 rfl (by first | exact of_decide_eq_true rfl | (simp; done)) ?_; clear hst; intro WS5 hst; simp only [List.set_cons_zero, List.set_cons_succ] at hst)  | (refine L_storeM rfl rfl hst rfl (by rfl) (ev_tmp rfl) (by first | rfl | exact Dig.one _ | (simp; done)) el_api_Digest (by first | rfl | exact Dig.size _ | (simp; done)) 2 rfl (by first | exact of_decide_eq_true rfl | (simp; done)) ?_; clear hst; intro WS5 hst; simp only [List.set_cons_zero, List.set_cons_succ] at hst))
        | (refine L_sliceAll (d := some 21) rfl rfl rfl (by rfl) Tryd.underlying23 el_uint8 (by first | exact hst.get 0 rfl | exact hst.get 1 rfl | exact hst.get 2 rfl) (by first | rfl | exact Dig.size _ | (simp; done)) (by decide) ?_; intro hs21)
        | (refine L_appendO (d := some 22) rfl rfl hst rfl (by rfl) (by rfl) Tryd.underlying49 el_uint8 rfl (by decide) (by decide) 0 rfl (by first | rfl | omega) (by first | exact hs21 | exact hst.old (by decide) hx | exact hst.sl 0 rfl | exact hst.sl 1 rfl | exact hst.sl 2 rfl | assumption | exact hst.old (by decide) (by assumption)) (by first | exact oneCell_bytes | (simp [Value.oneCell']; done)) (by omega) ?_; clear hst; intro A22 c22 W22 hst; simp only [List.set_cons_zero, List.set_cons_succ, List.nil_append, Nat.zero_add] at hst)
        | (refine L_appendO (d := some 22) rfl rfl hst rfl (by rfl) (by rfl) Tryd.underlying49 el_uint8 rfl (by decide) (by decide) 1 rfl (by first | rfl | omega) (by first | exact hs21 | exact hst.old (by decide) hx | exact hst.sl 0 rfl | exact hst.sl 1 rfl | exact hst.sl 2 rfl | assumption | exact hst.old (by decide) (by assumption)) (by first | exact oneCell_bytes | (simp [Value.oneCell']; done)) (by omega) ?_; clear hst; intro A22 c22 W22 hst; simp only [List.set_cons_zero, List.set_cons_succ, List.nil_append, Nat.zero_add] at hst)
        | (refine L_appendO (d := some 22) rfl rfl hst rfl (by rfl) (by rfl) Tryd.underlying49 el_uint8 rfl (by decide) (by decide) 2 rfl (by first | rfl | omega) (by first | exact hs21 | exact hst.old (by decide) hx | exact hst.sl 0 rfl | exact hst.sl 1 rfl | exact hst.sl 2 rfl | assumption | exact hst.old (by decide) (by assumption)) (by first | exact oneCell_bytes | (simp [Value.oneCell']; done)) (by omega) ?_; clear hst; intro A22 c22 W22 hst; simp only [List.set_cons_zero, List.set_cons_succ, List.nil_append, Nat.zero_add] at hst)
        | (refine L_appendF (d := some 22) rfl rfl rfl (by rfl) (by rfl) Tryd.underlying49 el_uint8 rfl (by decide) (by assumption) (by first | assumption | exact hs21 | exact hst.old (by decide) hx | exact hst.sl 0 rfl | exact hst.sl 1 rfl | exact hst.sl 2 rfl | assumption | exact hst.old (by decide) (by assumption)) (by omega) (by omega) (by omega) ?_; (try clear hnew); intro A22 c22 W22 hnew; replace hst := hst.trans hnew; simp only [List.cons_append, List.nil_append] at hst)
        | fail)
      go_roundg (gk - 1)
      case measure => have hi := HI.out; omega
      case rel =>
        have hi := HI.out
        refine ⟨i + 1, A22, c22, Lib.hid (by omega), by congr 1; omega, by go_num, ?_⟩
        rw [hta.out, ← hdd.out, ← List.cons_append, bytesL_append, show 1 + (i + 1) * 32 = 1 + i * 32 + 32 by omega]
        exact (hst.pick [1, 2] (by decide))
    · obtain rfl : i = n := by omega
      have hall : allB (ds.take i) = allB ds := by rw [List.take_of_length_le (by rw [Hn.out]; exact Nat.le_refl _)]
      rw [hall] at hst
      clear hall hi HI
      go_wp2_with (first
        | (go_at_call 38; (try clear hnew); with_reducible refine (rsum_any _ _ _ _ _ (hst.sl 0 rfl) (by omega)).mono ?_; rintro e Wk1 ⟨rfl, hnew⟩; replace hst := hst.keep hnew)
        | (refine wpl_at (.store 23 (.tmp 4) (.tmp 24)) rfl ?_; first | (refine L_storeA rfl rfl hst rfl (by rfl) (ev_tmp rfl) (by first | rfl | exact Dig.one _ | (simp; done)) el_api_Digest (by first | rfl | exact Dig.size _ | (simp; done)) 0 rfl (by first | rfl | exact Dig.size _ | (simp; done)) ?_; clear hst; intro WS2 hst; simp only [List.set_cons_zero, List.set_cons_succ] at hst) | (refine L_storeA rfl rfl hst rfl (by rfl) (ev_tmp rfl) (by first | rfl | exact Dig.one _ | (simp; done)) el_api_Digest (by first | rfl | exact Dig.size _ | (simp; done)) 1 rfl (by first | rfl | exact Dig.size _ | (simp; done)) ?_; clear hst; intro WS2 hst; simp only [List.set_cons_zero, List.set_cons_succ] at hst) | (refine L_storeA rfl rfl hst rfl (by rfl) (ev_tmp rfl) (by first | rfl | exact Dig.one _ | (simp; done)) el_api_Digest (by first | rfl | exact Dig.size _ | (simp; done)) 2 rfl (by first | rfl | exact Dig.size _ | (simp; done)) ?_; clear hst; intro WS2 hst; simp only [List.set_cons_zero, List.set_cons_succ] at hst) | (refine L_storeM rfl rfl hst rfl (by rfl) (ev_tmp rfl) (by first | rfl | exact Dig.one _ | (simp; done)) el_api_Digest (by first | rfl | exact Dig.size _ | (simp; done)) 0 rfl (by first | exact of_decide_eq_true rfl | (simp; done)) ?_; clear hst; intro WS2 hst; simp only [List.set_cons_zero, List.set_cons_succ] at hst)  | (refine L_storeM rfl rfl hst rfl (by rfl) (ev_tmp rfl) (by first | rfl | exact Dig.one _ | (simp; done)) el_api_Digest (by first | rfl | exact Dig.size _ | (simp; done)) 1 rfl (by first | exact of_decide_eq_true rfl | (simp; done)) ?_; clear hst; intro WS2 hst; simp only [List.set_cons_zero, List.set_cons_succ] at hst)  | (refine L_storeM rfl rfl hst rfl (by rfl) (ev_tmp rfl) (by first | rfl | exact Dig.one _ | (simp; done)) el_api_Digest (by first | rfl | exact Dig.size _ | (simp; done)) 2 rfl (by first | exact of_decide_eq_true rfl | (simp; done)) ?_; clear hst; intro WS2 hst; simp only [List.set_cons_zero, List.set_cons_succ] at hst))
        | fail)
      refine bp_cell rfl rfl rfl (hst.get 1 rfl) Tryd.underlying23 rfl el_api_Digest (by first | rfl | exact Dig.size _ | (simp; done)) ?_
      exact ⟨rfl, hst.forget⟩

end Go.Proofs.YtkbleigmfcleaaaDoor
