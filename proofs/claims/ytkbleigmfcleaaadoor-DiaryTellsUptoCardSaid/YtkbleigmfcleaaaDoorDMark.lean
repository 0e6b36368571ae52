/-
  Proved here: the contracts of diary.mark and bytes.Equal. Condition: lengths that slices may have.
-/
import Derived.Test.YtkbleigmfcleaaaDoorConcat
import Derived.Test.YtkbleigmfcleaaaDoorSha
import Derived.Test.YtkbleigmfcleaaaDoorDiaryPlain
import Derived.Test.YtkbleigmfcleaaaDoorShelf
set_option maxRecDepth 20000
set_option linter.unusedSimpArgs false
set_option linter.unusedVariables false
namespace Go.Proofs.YtkbleigmfcleaaaDoor
open Go.RowKit

theorem mark_slr {W : World} {g t : Nat} {fr : Nat × Nat} {last r : List UInt8} (h : W.heap[g]? = some (.cells (sha (List.cons 14 (last ++ r))).arr t fr)) : SlR W (some ⟨g, 0, none⟩) 8 32 1 (bytesL (dmark last r)) :=
  ⟨by rw [length_bytesL, length_dmark], by decide, by decide, fun _ => ⟨g, 0, rfl, rangeAt_of_cells h (fun j v hv => by
    rw [← Array.getElem?_toList, Dig.toList, Nat.zero_add]
    have hj : j < 8 := by have := (List.getElem?_eq_some_iff.1 hv).1; rwa [length_bytesL, length_dmark] at this
    rw [getElem?_bytesL] at hv ⊢
    rwa [dmark, List.getElem?_take, if_pos hj] at hv)⟩⟩

set_option maxHeartbeats 1000000 in
theorem dmark_any (last r : List UInt8) (L A : Option Addr) (m lc n c : Nat) (w : World) (hT : Tb w) (hl : SlR w L m lc 1 (bytesL last)) (hr : SlR w A n c 1 (bytesL r)) (hm : m ≤ 8) (hn : n ≤ 140737488354000) :
    Calls Tryd.prog 59 #[.slice L m lc, .slice A n c] w fun e w' => ∃ g, e = .returned (.slice (some ⟨g, 0, none⟩) 8 32) ∧ St w w' [.blk g 23 (sha (List.cons 14 (last ++ r))).arr] := by
  have hst := St.refl w
  have HT := Lib.hid hT
  clear hT
  go_enter Tryd.func59, Tryd.ntmps59
  go_wp2_with (first
    | (go_at_call 50; have h1 := hst.old (by decide) hl; have h2 := hst.old (by decide) hr; clear hnew; refine (concat3_any [14] last r _ _ _ _ _ _ _ _ _ _ _ _ (hst.sl 0 rfl) (hst.sl 1 rfl) h1 h2 (by omega)).mono ?_; rintro e W10 ⟨O10, c10, rfl, hnew⟩; replace hst := hst.trans hnew; simp only [List.cons_append, List.nil_append] at hst)
    | (go_at_call 61; (try clear hnew); refine (ssum_any (List.cons 14 (last ++ r)) _ _ _ _ (HT.out.of hst) (hst.sl 0 rfl) (by omega)).mono ?_; rintro e Wk1 ⟨rfl, hnew⟩; replace hst := hst.keep hnew)
    | (refine L_buildS (d := some 6) rfl rfl rfl [_] (bs_1 ev_const) rfl Tryd.underlying49 el_uint8 rfl (by first | (simp [Value.cells]; done) | (simp [Value.cells, Dig.size]; done)) (by decide) (by decide) ?_; (try clear hnew); intro g6 W6 hnew; replace hst := hst.trans hnew; simp only [List.cons_append, List.nil_append] at hst; simp only [List.flatMap_cons, List.flatMap_nil, List.append_nil, Value.cells, List.toList_toArray] at hst)
    | (refine L_buildS (d := some 9) rfl rfl rfl [_, _, _] (bs_3 (ev_tmp rfl) (ev_tmp rfl) (ev_tmp rfl)) rfl Tryd.underlying37 el_S_uint8 rfl (by first | (simp [Value.cells]; done) | (simp [Value.cells, Dig.size]; done)) (by decide) (by decide) ?_; (try clear hnew); intro g9 W9 hnew; replace hst := hst.trans hnew; simp only [List.cons_append, List.nil_append] at hst; simp only [List.flatMap_cons, List.flatMap_nil, List.append_nil, Value.cells, List.toList_toArray] at hst)
    | (refine L_allocA (d := some 5) rfl rfl rfl el_api_Digest ?_; (try clear hnew); intro g5 W5 hnew; replace hst := hst.trans hnew; simp only [List.cons_append, List.nil_append] at hst)
    | (refine wpl_at (.store 23 (.tmp 5) (.tmp 11)) rfl ?_; first | (refine L_storeA rfl rfl hst rfl (by rfl) (ev_tmp rfl) (by first | rfl | exact Dig.one _ | (simp; done)) el_api_Digest (by first | rfl | exact Dig.size _ | (simp; done)) 0 rfl (by first | rfl | exact Dig.size _ | (simp; done)) ?_; clear hst; intro WS7 hst; simp only [List.set_cons_zero, List.set_cons_succ] at hst) | (refine L_storeA rfl rfl hst rfl (by rfl) (ev_tmp rfl) (by first | rfl | exact Dig.one _ | (simp; done)) el_api_Digest (by first | rfl | exact Dig.size _ | (simp; done)) 1 rfl (by first | rfl | exact Dig.size _ | (simp; done)) ?_; clear hst; intro WS7 hst; simp only [List.set_cons_zero, List.set_cons_succ] at hst) | (refine L_storeA rfl rfl hst rfl (by rfl) (ev_tmp rfl) (by first | rfl | exact Dig.one _ | (simp; done)) el_api_Digest (by first | rfl | exact Dig.size _ | (simp; done)) 2 rfl (by first | rfl | exact Dig.size _ | (simp; done)) ?_; clear hst; intro WS7 hst; simp only [List.set_cons_zero, List.set_cons_succ] at hst) | (refine L_storeA rfl rfl hst rfl (by rfl) (ev_tmp rfl) (by first | rfl | exact Dig.one _ | (simp; done)) el_api_Digest (by first | rfl | exact Dig.size _ | (simp; done)) 3 rfl (by first | rfl | exact Dig.size _ | (simp; done)) ?_; clear hst; intro WS7 hst; simp only [List.set_cons_zero, List.set_cons_succ] at hst) | (refine L_storeA rfl rfl hst rfl (by rfl) (ev_tmp rfl) (by first | rfl | exact Dig.one _ | (simp; done)) el_api_Digest (by first | rfl | exact Dig.size _ | (simp; done)) 4 rfl (by first | rfl | exact Dig.size _ | (simp; done)) ?_; clear hst; intro WS7 hst; simp only [List.set_cons_zero, List.set_cons_succ] at hst) | (refine L_storeM rfl rfl hst rfl (by rfl) (ev_tmp rfl) (by first | rfl | exact Dig.one _ | (simp; done)) el_api_Digest (by first | rfl | exact Dig.size _ | (simp; done)) 0 rfl (by first | exact of_decide_eq_true rfl | (simp; done)) ?_; clear hst; intro WS7 hst; simp only [List.set_cons_zero, List.set_cons_succ] at hst)  | (refine L_storeM rfl rfl hst rfl (by rfl) (ev_tmp rfl) (by first | rfl | exact Dig.one _ | (simp; done)) el_api_Digest (by first | rfl | exact Dig.size _ | (simp; done)) 1 rfl (by first | exact of_decide_eq_true rfl | (simp; done)) ?_; clear hst; intro WS7 hst; simp only [List.set_cons_zero, List.set_cons_succ] at hst)  | (refine L_storeM rfl rfl hst rfl (by rfl) (ev_tmp rfl) (by first | rfl | exact Dig.one _ | (simp; done)) el_api_Digest (by first | rfl | exact Dig.size _ | (simp; done)) 2 rfl (by first | exact of_decide_eq_true rfl | (simp; done)) ?_; clear hst; intro WS7 hst; simp only [List.set_cons_zero, List.set_cons_succ] at hst)  | (refine L_storeM rfl rfl hst rfl (by rfl) (ev_tmp rfl) (by first | rfl | exact Dig.one _ | (simp; done)) el_api_Digest (by first | rfl | exact Dig.size _ | (simp; done)) 3 rfl (by first | exact of_decide_eq_true rfl | (simp; done)) ?_; clear hst; intro WS7 hst; simp only [List.set_cons_zero, List.set_cons_succ] at hst)  | (refine L_storeM rfl rfl hst rfl (by rfl) (ev_tmp rfl) (by first | rfl | exact Dig.one _ | (simp; done)) el_api_Digest (by first | rfl | exact Dig.size _ | (simp; done)) 4 rfl (by first | exact of_decide_eq_true rfl | (simp; done)) ?_; clear hst; intro WS7 hst; simp only [List.set_cons_zero, List.set_cons_succ] at hst))
    | fail)
  go_ret
  exact ⟨_, rfl, hst.pick [0] (by decide)⟩

/-- bytes as the library's contracts have them -/
def numsZ (l : List UInt8) : List Int := l.map fun b => (b.toNat : Int)
theorem bytesOf_numsZ (l : List UInt8) : Lib.bytesOf (numsZ l) = l := by
  unfold Lib.bytesOf numsZ
  rw [List.map_map]
  conv => rhs; rw [← List.map_id l]
  refine List.map_congr_left (fun b _ => ?_)
  simp
theorem bytesIn_of {w : World} {A : Option Addr} {n c : Nat} {l : List UInt8} (h : SlR w A n c 1 (bytesL l)) : (numsZ l).length = n ∧ Lib.BytesIn w A n (numsZ l) := by
  have hl := h.1
  rw [length_bytesL, Nat.mul_one] at hl
  refine ⟨by rw [numsZ, List.length_map]; exact hl, ?_⟩
  intro h0
  obtain ⟨b, o, rfl, hr⟩ := h.2.2.2 h0
  refine ⟨b, o, rfl, fun i hi => ?_⟩
  have hi' : i < l.length := by omega
  rw [hr i (byteV l[i]) (by rw [getElem?_bytesL, List.getElem?_eq_getElem hi']; rfl)]
  simp [byteV, numsZ, hi']
theorem equalB_any (x y : List UInt8) (A B : Option Addr) (n c m d : Nat) (w : World) (hx : SlR w A n c 1 (bytesL x)) (hy : SlR w B m d 1 (bytesL y)) :
    Calls Tryd.prog 77 #[.slice A n c, .slice B m d] w fun e w' => e = .returned (.bool (x == y)) ∧ St w w' [] := by
  have h1 := bytesIn_of hx
  have h2 := bytesIn_of hy
  refine (Tryd.bytes_Equal_all A B n c m d (numsZ x) (numsZ y) w h1.1 h2.1 h1.2 h2.2).mono ?_
  rintro e w' ⟨rfl, rfl⟩
  rw [bytesOf_numsZ, bytesOf_numsZ]
  exact ⟨rfl, St.refl _⟩
end Go.Proofs.YtkbleigmfcleaaaDoor
