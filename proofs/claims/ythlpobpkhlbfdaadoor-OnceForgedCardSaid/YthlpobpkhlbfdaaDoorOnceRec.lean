/-
  Proved here: the contract of once.Recover. Condition: the table of round constants stands.
-/
import Derived.Test.YthlpobpkhlbfdaaDoorOnceSign
import Derived.Test.YthlpobpkhlbfdaaDoorSwap
import Derived.Test.YthlpobpkhlbfdaaDoorIdxK
set_option maxRecDepth 20000
set_option linter.unusedSimpArgs false
set_option linter.unusedVariables false
namespace Go.Proofs.YthlpobpkhlbfdaaDoor
open Go.RowKit Go.Shelf
attribute [local go_sem] Oper.semAt_some

/-! ### plain: what the places tell -/
def putP (m : Dig) (gf : Nat → Dig) (ls : List Dig) (x : Pl) : List Dig := (ls.set (2 * x.val + bitN m x.val) (leafN (gf (2 * x.val)))).set (2 * x.val + 1 - bitN m x.val) (gf (2 * x.val + 1))
theorem length_putP (m : Dig) (gf : Nat → Dig) (ls : List Dig) (x : Pl) : (putP m gf ls x).length = ls.length := by simp [putP]
theorem length_fold (m : Dig) (gf : Nat → Dig) : ∀ (pre : List Pl) (ls : List Dig), (pre.foldl (putP m gf) ls).length = ls.length
  | [], _ => rfl
  | x :: pre, ls => by rw [List.foldl_cons, length_fold m gf pre, length_putP]
theorem rec_upto (m : Dig) (sg zs : List Dig) (hz : zs.length = 512) : ∀ k, k ≤ 256 → ∀ j, j < 2 * k → ((plTo k).foldl (putP m fun i => sg.getD i zeroD) zs)[j]? = some (recAt m sg j)
  | 0, _, j, h => by omega
  | k + 1, hk, j, hj => by
    have ih := rec_upto m sg zs hz k (by omega)
    have hb := bitN_lt m k
    have hl : ((plTo k).foldl (putP m fun i => sg.getD i zeroD) zs).length = 512 := by rw [length_fold, hz]
    rw [plTo_succ, List.foldl_append, List.foldl_cons, List.foldl_nil, putP, plOf_val k (by omega)]
    by_cases h1 : j = 2 * k + 1 - bitN m k
    · subst h1
      rw [List.getElem?_set_self (by rw [List.length_set, hl]; omega)]
      congr 1
      unfold recAt
      rw [show (2 * k + 1 - bitN m k) / 2 = k by omega, if_neg (by omega), show 2 * k + 1 - bitN m k - (2 * k + 1 - bitN m k) % 2 + 1 = 2 * k + 1 by omega]
    · rw [List.getElem?_set_ne (by omega)]
      by_cases h2 : j = 2 * k + bitN m k
      · subst h2
        rw [List.getElem?_set_self (by rw [hl]; omega)]
        congr 1
        unfold recAt
        rw [show (2 * k + bitN m k) / 2 = k by omega, if_pos (by omega), show 2 * k + bitN m k - (2 * k + bitN m k) % 2 = 2 * k by omega]
      · rw [List.getElem?_set_ne (by omega)]
        exact ih j (by omega)
theorem rec_fold (m : Dig) (sg zs : List Dig) (hz : zs.length = 512) : (plTo 256).foldl (putP m fun i => sg.getD i zeroD) zs = recL m sg := by
  apply List.ext_getElem?
  intro j
  by_cases hj : j < 512
  · rw [rec_upto m sg zs hz 256 (Nat.le_refl _) j (by omega), recL]
    simp [hj]
  · rw [List.getElem?_eq_none (by rw [length_fold, hz]; omega), List.getElem?_eq_none (by simp [recL]; omega)]
theorem putAt_dig (ls : List Dig) (k : Nat) (d : Dig) (hk : k < ls.length) : putAt (digsL ls).toArray (k * 32) d.arr.toList = (digsL (ls.set k d)).toArray := by
  rw [putAt, ← digsL_set ls k d hk, Array.length_toList, Dig.size]

theorem res_cell_tmp {P : Program} {W : World} {fn : Func} {p q : Tmp} {ty : TypeId} (hr : fn.results = #[.cell p ty, .tmp q]) {tmps : Array Value} {g : Nat} (hp : tmps.toList[p]? = some (.pointer (some ⟨g, 0, none⟩))) {v : Value} (hq : tmps.toList[q]? = some v) {t : TypeId} {cs : Array Value} {fr : Nat × Nat} (hg : W.heap[g]? = some (.cells cs t fr))
    {td : TypeDesc} (hu : P.underlying ty = some td) (hrow : td.isRow = true) {z : Value} {s b : Nat} (he : ElemIs P ty z s b) (hs : cs.size = s) : (results fn tmps).run P W = .ok (.tuple #[.agg cs, v]) W := by
  have hp' : tmps[p]?.getD undef = .pointer (some ⟨g, 0, none⟩) := by
    have : tmps[p]? = some (.pointer (some ⟨g, 0, none⟩)) := by simpa using hp
    simp [this]
  have hq' : tmps[q]?.getD undef = v := by
    have : tmps[q]? = some v := by simpa using hq
    simp [this]
  simp [results, hr, hp', hq', asAddr, run_loadVar_row W g t ty cs fr td hg hu (by cases td <;> simp_all [TypeDesc.isRow]) (by rw [he.size, hs])]
set_option maxRecDepth 1000000 in
theorem el_512 : ∃ zs : List Dig, zs.length = 512 ∧ ElemIs Tryd.prog 39 (.agg (digsL zs).toArray) 16384 16384 := ⟨List.replicate 512 zeroD, by simp, by unfold ElemIs; kernel_rfl⟩

set_option maxHeartbeats 1000000 in
/-- a leaf: a block is new -/
theorem leafB_any (d : Dig) (w : World) (hT : Tb w) : Calls Tryd.prog 13 #[d.v] w fun e w' => ∃ g cs, e = .returned (leafN d).v ∧ St w w' [.blk g 23 cs] := by
  have hst := St.refl w
  have HT := Lib.hid hT
  clear hT
  go_enter Tryd.func13, Tryd.ntmps13
  go_wp2_with (first
    | (go_at_call 15; (try clear hnew); refine (of_any 3 [d] _ _ _ _ (HT.out.of hst) (by rw [digsL_single]; exact hst.sl 0 rfl) (by decide)).mono ?_; rintro e W5 ⟨rfl, hnew⟩; replace hst := hst.keep hnew)
    | (refine L_boxA (d := some 1) rfl rfl rfl (ev_tmp rfl) ?_; (try clear hnew); intro g1 W1 hnew; replace hst := hst.trans hnew; simp only [List.cons_append, List.nil_append] at hst)
    | (refine L_allocA (d := some 2) rfl rfl rfl el_api_Digest ?_; (try clear hnew); intro g2 W2 hnew; replace hst := hst.trans hnew; simp only [List.cons_append, List.nil_append] at hst)
    | (first | (refine L_loadA (d := some 3) rfl rfl rfl (by rfl) Tryd.underlying23 rfl el_api_Digest (by first | exact hst.get 0 rfl | exact hst.get 1 rfl | exact hst.get 2 rfl | exact hst.get 3 rfl | exact hst.get 4 rfl | exact hst.get 5 rfl) (by first | rfl | exact Dig.size _ | (simp; done)) ?_) | (refine L_loadM (d := some 3) rfl rfl rfl (by rfl) Tryd.underlying23 rfl el_api_Digest (by first | assumption) (by first | rfl | exact Dig.size _ | (simp; done)) ?_))
    | (refine L_buildS (d := some 4) rfl rfl rfl [_] (bs_1 (ev_tmp rfl)) rfl Tryd.underlying29 el_api_Digest rfl (by first | (simp [Value.cells]; done) | (simp [Value.cells, Dig.size]; done)) (by decide) (by decide) ?_; (try clear hnew); intro g4 W4 hnew; replace hst := hst.trans hnew; simp only [List.cons_append, List.nil_append] at hst; simp only [List.flatMap_cons, List.flatMap_nil, List.append_nil, Value.cells, List.toList_toArray] at hst)
    | (refine wpl_at (.store 23 (.tmp 2) (.tmp 5)) rfl ?_; first | (refine L_storeA rfl rfl hst rfl (by rfl) (ev_tmp rfl) (by first | rfl | exact Dig.one _ | (simp; done)) el_api_Digest (by first | rfl | exact Dig.size _ | (simp; done)) 0 rfl (by first | rfl | exact Dig.size _ | (simp; done)) ?_; clear hst; intro WS3 hst; simp only [List.set_cons_zero, List.set_cons_succ] at hst) | (refine L_storeA rfl rfl hst rfl (by rfl) (ev_tmp rfl) (by first | rfl | exact Dig.one _ | (simp; done)) el_api_Digest (by first | rfl | exact Dig.size _ | (simp; done)) 1 rfl (by first | rfl | exact Dig.size _ | (simp; done)) ?_; clear hst; intro WS3 hst; simp only [List.set_cons_zero, List.set_cons_succ] at hst) | (refine L_storeA rfl rfl hst rfl (by rfl) (ev_tmp rfl) (by first | rfl | exact Dig.one _ | (simp; done)) el_api_Digest (by first | rfl | exact Dig.size _ | (simp; done)) 2 rfl (by first | rfl | exact Dig.size _ | (simp; done)) ?_; clear hst; intro WS3 hst; simp only [List.set_cons_zero, List.set_cons_succ] at hst) | (refine L_storeA rfl rfl hst rfl (by rfl) (ev_tmp rfl) (by first | rfl | exact Dig.one _ | (simp; done)) el_api_Digest (by first | rfl | exact Dig.size _ | (simp; done)) 3 rfl (by first | rfl | exact Dig.size _ | (simp; done)) ?_; clear hst; intro WS3 hst; simp only [List.set_cons_zero, List.set_cons_succ] at hst) | (refine L_storeA rfl rfl hst rfl (by rfl) (ev_tmp rfl) (by first | rfl | exact Dig.one _ | (simp; done)) el_api_Digest (by first | rfl | exact Dig.size _ | (simp; done)) 4 rfl (by first | rfl | exact Dig.size _ | (simp; done)) ?_; clear hst; intro WS3 hst; simp only [List.set_cons_zero, List.set_cons_succ] at hst) | (refine L_storeA rfl rfl hst rfl (by rfl) (ev_tmp rfl) (by first | rfl | exact Dig.one _ | (simp; done)) el_api_Digest (by first | rfl | exact Dig.size _ | (simp; done)) 5 rfl (by first | rfl | exact Dig.size _ | (simp; done)) ?_; clear hst; intro WS3 hst; simp only [List.set_cons_zero, List.set_cons_succ] at hst) | (refine L_storeM rfl rfl hst rfl (by rfl) (ev_tmp rfl) (by first | rfl | exact Dig.one _ | (simp; done)) el_api_Digest (by first | rfl | exact Dig.size _ | (simp; done)) 0 rfl (by first | exact of_decide_eq_true rfl | (simp; done)) ?_; clear hst; intro WS3 hst; simp only [List.set_cons_zero, List.set_cons_succ] at hst)  | (refine L_storeM rfl rfl hst rfl (by rfl) (ev_tmp rfl) (by first | rfl | exact Dig.one _ | (simp; done)) el_api_Digest (by first | rfl | exact Dig.size _ | (simp; done)) 1 rfl (by first | exact of_decide_eq_true rfl | (simp; done)) ?_; clear hst; intro WS3 hst; simp only [List.set_cons_zero, List.set_cons_succ] at hst)  | (refine L_storeM rfl rfl hst rfl (by rfl) (ev_tmp rfl) (by first | rfl | exact Dig.one _ | (simp; done)) el_api_Digest (by first | rfl | exact Dig.size _ | (simp; done)) 2 rfl (by first | exact of_decide_eq_true rfl | (simp; done)) ?_; clear hst; intro WS3 hst; simp only [List.set_cons_zero, List.set_cons_succ] at hst)  | (refine L_storeM rfl rfl hst rfl (by rfl) (ev_tmp rfl) (by first | rfl | exact Dig.one _ | (simp; done)) el_api_Digest (by first | rfl | exact Dig.size _ | (simp; done)) 3 rfl (by first | exact of_decide_eq_true rfl | (simp; done)) ?_; clear hst; intro WS3 hst; simp only [List.set_cons_zero, List.set_cons_succ] at hst)  | (refine L_storeM rfl rfl hst rfl (by rfl) (ev_tmp rfl) (by first | rfl | exact Dig.one _ | (simp; done)) el_api_Digest (by first | rfl | exact Dig.size _ | (simp; done)) 4 rfl (by first | exact of_decide_eq_true rfl | (simp; done)) ?_; clear hst; intro WS3 hst; simp only [List.set_cons_zero, List.set_cons_succ] at hst)  | (refine L_storeM rfl rfl hst rfl (by rfl) (ev_tmp rfl) (by first | rfl | exact Dig.one _ | (simp; done)) el_api_Digest (by first | rfl | exact Dig.size _ | (simp; done)) 5 rfl (by first | exact of_decide_eq_true rfl | (simp; done)) ?_; clear hst; intro WS3 hst; simp only [List.set_cons_zero, List.set_cons_succ] at hst))
    | fail)
  refine bp_cell rfl rfl rfl (hst.get 1 rfl) Tryd.underlying23 rfl el_api_Digest (by first | rfl | exact Dig.size _ | (simp; done)) ?_
  exact ⟨_, _, rfl, hst.pick [1] (by decide)⟩

set_option maxHeartbeats 1000000 in
theorem onceRec_no (m : Dig) (A : Option Addr) (n c : Nat) (w : World) (hn : n ≠ 512) :
    Calls Tryd.prog 6 #[m.v, .slice A n c] w fun e w' => e = .returned (.tuple #[zeroD.v, errV 3]) ∧ St w w' [] := by
  have hst := St.refl w
  have h1 : ((n : Int) != 512) = true := by rw [bne_iff_ne]; omega
  clear hn
  go_enter Tryd.func6, Tryd.ntmps6
  go_wp2_with (first
    | (refine L_boxA (d := some 2) rfl rfl rfl (ev_tmp rfl) ?_; (try clear hnew); intro g2 W2 hnew; replace hst := hst.trans hnew; simp only [List.cons_append, List.nil_append] at hst)
    | (refine L_box1 (d := some 3) rfl rfl rfl (ev_tmp rfl) rfl ?_; (try clear hnew); intro g3 W3 hnew; replace hst := hst.trans hnew; simp only [List.cons_append, List.nil_append] at hst)
    | (refine L_allocA (d := some 4) rfl rfl rfl el_api_Digest ?_; (try clear hnew); intro g4 W4 hnew; replace hst := hst.trans hnew; simp only [List.cons_append, List.nil_append] at hst)
    | (refine L_load1 (d := some 9) rfl rfl rfl (by rfl) Tryd.underlying29 rfl (by first | assumption | exact cell_of (hst.get 0 rfl) rfl | exact cell_of (hst.get 1 rfl) rfl | exact cell_of (hst.get 2 rfl) rfl) ?_)
    | (refine L_build0 (d := some 12) rfl rfl rfl Tryd.underlying23 el_uint8 el_api_Digest ?_)
    | (refine wpl_at (.store 23 (.tmp 4) (.tmp 12)) rfl ?_; first | (refine L_storeA rfl rfl hst rfl (by rfl) (ev_tmp rfl) (by first | rfl | exact Dig.one _ | (simp; done)) el_api_Digest (by first | rfl | exact Dig.size _ | (simp; done)) 0 rfl (by first | rfl | exact Dig.size _ | (simp; done)) ?_; clear hst; intro WS2 hst; simp only [List.set_cons_zero, List.set_cons_succ] at hst) | (refine L_storeA rfl rfl hst rfl (by rfl) (ev_tmp rfl) (by first | rfl | exact Dig.one _ | (simp; done)) el_api_Digest (by first | rfl | exact Dig.size _ | (simp; done)) 1 rfl (by first | rfl | exact Dig.size _ | (simp; done)) ?_; clear hst; intro WS2 hst; simp only [List.set_cons_zero, List.set_cons_succ] at hst) | (refine L_storeA rfl rfl hst rfl (by rfl) (ev_tmp rfl) (by first | rfl | exact Dig.one _ | (simp; done)) el_api_Digest (by first | rfl | exact Dig.size _ | (simp; done)) 2 rfl (by first | rfl | exact Dig.size _ | (simp; done)) ?_; clear hst; intro WS2 hst; simp only [List.set_cons_zero, List.set_cons_succ] at hst) | (refine L_storeM rfl rfl hst rfl (by rfl) (ev_tmp rfl) (by first | rfl | exact Dig.one _ | (simp; done)) el_api_Digest (by first | rfl | exact Dig.size _ | (simp; done)) 0 rfl (by first | exact of_decide_eq_true rfl | (simp; done)) ?_; clear hst; intro WS2 hst; simp only [List.set_cons_zero, List.set_cons_succ] at hst)  | (refine L_storeM rfl rfl hst rfl (by rfl) (ev_tmp rfl) (by first | rfl | exact Dig.one _ | (simp; done)) el_api_Digest (by first | rfl | exact Dig.size _ | (simp; done)) 1 rfl (by first | exact of_decide_eq_true rfl | (simp; done)) ?_; clear hst; intro WS2 hst; simp only [List.set_cons_zero, List.set_cons_succ] at hst)  | (refine L_storeM rfl rfl hst rfl (by rfl) (ev_tmp rfl) (by first | rfl | exact Dig.one _ | (simp; done)) el_api_Digest (by first | rfl | exact Dig.size _ | (simp; done)) 2 rfl (by first | exact of_decide_eq_true rfl | (simp; done)) ?_; clear hst; intro WS2 hst; simp only [List.set_cons_zero, List.set_cons_succ] at hst))
    | fail)
  refine bp_cell_tmp rfl rfl rfl rfl (hst.get 0 rfl) Tryd.underlying23 rfl el_api_Digest (by first | rfl | exact Dig.size _ | (simp; done)) ?_
  exact ⟨rfl, hst.forget⟩

set_option maxHeartbeats 4000000 in
set_option maxRecDepth 100000 in
theorem onceRec_any (m : Dig) (sg : List Dig) (S : Option Addr) (sc : Nat) (w : World) (hT : Tb w) (hl : sg.length = 512) (hx : SlR w S 512 sc 32 (digsL sg)) :
    Calls Tryd.prog 6 #[m.v, .slice S 512 sc] w fun e w' => e = .returned (.tuple #[(onceRecN m sg).v, .nilIface]) ∧ St w w' [] := by
  have hst := St.refl w
  have HT := Lib.hid hT
  obtain ⟨sb, so, rfl, _⟩ := hx.2.2.2 (by decide)
  have hget : ∀ i, i < 512 → ((digsL sg).drop (i * 32)).take 32 = (sg.getD i zeroD).arr.toList := fun i hi => by
    have := digsL_at sg i (by omega)
    rw [this, Dig.toList]
    simp [List.getD_eq_getElem?_getD, List.getElem?_eq_getElem (show i < sg.length by omega)]
  obtain ⟨zs, hzs, hel⟩ := el_512
  obtain ⟨gf, R, HG, HR, HW⟩ : ∃ (gf : Nat → Dig) (R : List Dig), Hid (∀ i, i < 512 → ((digsL sg).drop (i * 32)).take 32 = (gf i).arr.toList) ∧ Hid ((plTo 256).foldl (putP m gf) zs = R ∧ (digsL R).toArray.size = 512 * 32 ∧ R.length = 512) ∧ Hid (ofN 4 R = onceRecN m sg) := by
    refine ⟨fun i => sg.getD i zeroD, recL m sg, Lib.hid hget, Lib.hid ⟨rec_fold m sg zs hzs, ?_, ?_⟩, Lib.hid rfl⟩
    · rw [List.size_toArray, length_digsL]; simp [recL]
    · simp [recL]
  clear hT hget hl
  generalize digsL sg = lx at *
  refine (callsIn_wide (n := 5)).1 ?_
  refine callsIn_of_wp_marks Tryd.func6 rfl trivial ?_ rfl
  refine wpIn_wide.2 ?_
  simp only [Tryd.ntmps6, List.size_toArray, List.length_cons, List.length_nil, Nat.reduceAdd, Nat.reduceSub, Array.replicate_succ, Array.replicate_zero, List.push_toArray, List.append_toArray, List.nil_append, List.cons_append]
  go_upto_region 1 with (first
    | (refine L_boxA (d := some 2) rfl rfl rfl (ev_tmp rfl) ?_; (try clear hnew); intro g2 W2 hnew; replace hst := hst.trans hnew; simp only [List.cons_append, List.nil_append] at hst)
    | (refine L_box1 (d := some 3) rfl rfl rfl (ev_tmp rfl) rfl ?_; (try clear hnew); intro g3 W3 hnew; replace hst := hst.trans hnew; simp only [List.cons_append, List.nil_append] at hst)
    | (refine L_allocA (d := some 4) rfl rfl rfl el_api_Digest ?_; (try clear hnew); intro g4 W4 hnew; replace hst := hst.trans hnew; simp only [List.cons_append, List.nil_append] at hst)
    | fail)
  go_upto_region 3 with (first
    | (refine L_load1 (d := some 9) rfl rfl rfl (by rfl) Tryd.underlying29 rfl (by first | assumption | exact cell_of (hst.get 0 rfl) rfl | exact cell_of (hst.get 1 rfl) rfl | exact cell_of (hst.get 2 rfl) rfl | exact cell_of (hst.get 3 rfl) rfl | exact cell_of (hst.get 4 rfl) rfl) ?_)
    | fail)
  go_upto_region 4 with (first
    | (refine L_allocA (d := some 6) rfl rfl rfl hel ?_; (try clear hnew); intro g6 W6 hnew; replace hst := hst.trans hnew; simp only [List.cons_append, List.nil_append] at hst)
    | (refine L_allocA (d := some 6) rfl rfl rfl el_A512_api_Digest ?_; (try clear hnew); intro g6 W6 hnew; replace hst := hst.trans hnew; simp only [List.cons_append, List.nil_append] at hst)
    | fail)
  go_wp2_with (first
    | (go_at_call 16; (try clear hnew); refine (bits_any m _).mono ?_; rintro e Wk1 ⟨gb, rfl, hnew⟩; replace hst := hst.trans hnew; simp only [List.cons_append, List.nil_append] at hst)
    | (first | (refine L_loadA (d := some 14) rfl rfl rfl (by rfl) Tryd.underlying23 rfl el_api_Digest (by first | exact hst.get 0 rfl | exact hst.get 1 rfl | exact hst.get 2 rfl | exact hst.get 3 rfl | exact hst.get 4 rfl) (by first | rfl | exact Dig.size _ | (simp; done)) ?_) | (refine L_loadM (d := some 14) rfl rfl rfl (by rfl) Tryd.underlying23 rfl el_api_Digest (by first | assumption) (by first | rfl | exact Dig.size _ | (simp; done)) ?_))
    | fail)
  clear hnew hel
  have hgb := hst.get 0 rfl
  have hBw := hst.below.size
  refine (wpIn_wide (n := 4)).1 ?_
  refine wpIn_rangeFunc_ownG (w0 := Wk1) rfl (by decide) (gf := 21) (lb := #[.pointer (some ⟨gb, 0, none⟩)]) rfl trivial (enters_of Tryd.func21 (by kernel_rfl) rfl) (bits_stops m gb 3 (by decide) _ hgb) (fun h h' => h'.trans h)
    (fun W l o o' hl _ _ _ => World.putObj_heap_other (by have := (Array.getElem?_eq_some_iff.1 hgb).1; omega)) (Below.refl _ _) (fun _ => rfl)
    (fun pre W => St w W [.blk gb 23 m.arr, .blk g6 39 (digsL (pre.foldl (putP m gf) zs)).toArray, .blk g4 23 zeroD.arr, .blk g3 29 #[.slice (some ⟨sb, so, none⟩) 512 sc], .blk g2 23 m.arr])
    (fun _ _ _ => False)
    (fun s A B row hs hg hr => hs.grown rfl hg fun r e => ⟨Nat.le_trans hBw (hr r e).1, (hr r e).2⟩)
    (fun _ _ _ _ _ hs _ _ => hs.elim)
    hst
    (fun x => { tmps := #[m.v, .slice (some ⟨sb, so, none⟩) 512 sc, .pointer (some ⟨g2, 0, none⟩), .pointer (some ⟨g3, 0, none⟩), .pointer (some ⟨g4, 0, none⟩), .nilIface, .pointer (some ⟨g6, 0, none⟩), .int .i64 (x.val : Int), .int .i64 (bitN m x.val : Int), .slice (some ⟨sb, so, none⟩) 512 sc, .int .i64 512, .bool false, undef, undef, .agg m.arr, .func (.func 21) #[] #[.pointer (some ⟨gb, 0, none⟩)], .int .i64 (x.val : Int), .int .i64 (bitN m x.val : Int), undef, undef, undef, undef, undef, undef, undef, undef, undef, undef, undef, undef, undef, undef, undef, undef, undef, undef, undef, undef, undef, undef, undef, undef, undef], defers := [] }) ?assign ?body ?done ?stop
  case assign =>
    intro l x W K hK
    gi_wp2
    exact hK
  case stop =>
    intro D c pre W _ _ h _
    exact h.elim
  case done =>
    clear hst
    rintro D xs W hD hxs hst hK
    have hfin := HR.out
    rw [← hxs] at hfin
    obtain ⟨h1, h2, h3⟩ := hfin
    have H2 := Lib.hid h2
    rw [h1] at hst
    clear hxs h1 h2 h3
    have hst := hst.withObjs (B := Wk1.heap.size) rfl hBw
    have HD := Lib.hid (mem_objsOf.2 ⟨D, _, hK, hD, rfl, rfl⟩ : Res.obj D (.deferred (some [])) ∈ objsOf W Wk1.heap.size)
    generalize objsOf W Wk1.heap.size = T at hst HD
    simp only [List.cons_append, List.nil_append] at hst
    clear hK
    go_wp2_with (first
      | (go_at_call 15; (try clear hnew); refine (of_any 4 R _ _ _ _ (HT.out.of hst) (by first | exact hs41 | assumption) (by decide)).mono ?_; rintro e W42 ⟨rfl, hnew⟩; replace hst := hst.keep hnew)
      | (refine L_sliceAll (d := some 41) rfl rfl rfl (by rfl) Tryd.underlying39 el_api_Digest (by first | exact hst.get 0 rfl | exact hst.get 1 rfl | exact hst.get 2 rfl | exact hst.get 3 rfl | exact hst.get 4 rfl) (by first | rfl | exact Dig.size _ | exact H2.out | (simp; done)) (by decide) ?_; intro hs41)
      | (refine wpl_at (.store 23 (.tmp 4) (.tmp 42)) rfl ?_; first | (refine L_storeA rfl rfl hst rfl (by rfl) (ev_tmp rfl) (by first | rfl | exact Dig.one _ | (simp; done)) el_api_Digest (by first | rfl | exact Dig.size _ | exact H2.out | (simp; done)) 0 rfl (by first | rfl | exact Dig.size _ | exact H2.out | (simp; done)) ?_; clear hst; intro WS2 hst; simp only [List.set_cons_zero, List.set_cons_succ] at hst) | (refine L_storeA rfl rfl hst rfl (by rfl) (ev_tmp rfl) (by first | rfl | exact Dig.one _ | (simp; done)) el_api_Digest (by first | rfl | exact Dig.size _ | exact H2.out | (simp; done)) 1 rfl (by first | rfl | exact Dig.size _ | exact H2.out | (simp; done)) ?_; clear hst; intro WS2 hst; simp only [List.set_cons_zero, List.set_cons_succ] at hst) | (refine L_storeA rfl rfl hst rfl (by rfl) (ev_tmp rfl) (by first | rfl | exact Dig.one _ | (simp; done)) el_api_Digest (by first | rfl | exact Dig.size _ | exact H2.out | (simp; done)) 2 rfl (by first | rfl | exact Dig.size _ | exact H2.out | (simp; done)) ?_; clear hst; intro WS2 hst; simp only [List.set_cons_zero, List.set_cons_succ] at hst) | (refine L_storeA rfl rfl hst rfl (by rfl) (ev_tmp rfl) (by first | rfl | exact Dig.one _ | (simp; done)) el_api_Digest (by first | rfl | exact Dig.size _ | exact H2.out | (simp; done)) 3 rfl (by first | rfl | exact Dig.size _ | exact H2.out | (simp; done)) ?_; clear hst; intro WS2 hst; simp only [List.set_cons_zero, List.set_cons_succ] at hst) | (refine L_storeA rfl rfl hst rfl (by rfl) (ev_tmp rfl) (by first | rfl | exact Dig.one _ | (simp; done)) el_api_Digest (by first | rfl | exact Dig.size _ | exact H2.out | (simp; done)) 4 rfl (by first | rfl | exact Dig.size _ | exact H2.out | (simp; done)) ?_; clear hst; intro WS2 hst; simp only [List.set_cons_zero, List.set_cons_succ] at hst) | (refine L_storeM rfl rfl hst rfl (by rfl) (ev_tmp rfl) (by first | rfl | exact Dig.one _ | (simp; done)) el_api_Digest (by first | rfl | exact Dig.size _ | exact H2.out | (simp; done)) 0 rfl (by first | exact of_decide_eq_true rfl | (simp; done)) ?_; clear hst; intro WS2 hst; simp only [List.set_cons_zero, List.set_cons_succ] at hst)  | (refine L_storeM rfl rfl hst rfl (by rfl) (ev_tmp rfl) (by first | rfl | exact Dig.one _ | (simp; done)) el_api_Digest (by first | rfl | exact Dig.size _ | exact H2.out | (simp; done)) 1 rfl (by first | exact of_decide_eq_true rfl | (simp; done)) ?_; clear hst; intro WS2 hst; simp only [List.set_cons_zero, List.set_cons_succ] at hst)  | (refine L_storeM rfl rfl hst rfl (by rfl) (ev_tmp rfl) (by first | rfl | exact Dig.one _ | (simp; done)) el_api_Digest (by first | rfl | exact Dig.size _ | exact H2.out | (simp; done)) 2 rfl (by first | exact of_decide_eq_true rfl | (simp; done)) ?_; clear hst; intro WS2 hst; simp only [List.set_cons_zero, List.set_cons_succ] at hst)  | (refine L_storeM rfl rfl hst rfl (by rfl) (ev_tmp rfl) (by first | rfl | exact Dig.one _ | (simp; done)) el_api_Digest (by first | rfl | exact Dig.size _ | exact H2.out | (simp; done)) 3 rfl (by first | exact of_decide_eq_true rfl | (simp; done)) ?_; clear hst; intro WS2 hst; simp only [List.set_cons_zero, List.set_cons_succ] at hst)  | (refine L_storeM rfl rfl hst rfl (by rfl) (ev_tmp rfl) (by first | rfl | exact Dig.one _ | (simp; done)) el_api_Digest (by first | rfl | exact Dig.size _ | exact H2.out | (simp; done)) 4 rfl (by first | exact of_decide_eq_true rfl | (simp; done)) ?_; clear hst; intro WS2 hst; simp only [List.set_cons_zero, List.set_cons_succ] at hst))
      | fail)
    have hK := hst.res _ (List.mem_append_right [_, _, _, _, _] HD.out)
    rw [HW.out] at hst
    have hst := hst.drop (List.sublist_append_left [_, _, _, _, _] T)
    have hst := hst.grown rfl (grownBy_putObj' _ D (.deferred none)) (fun r e => by cases e; exact ⟨Nat.le_trans hBw hD, _, hK, rfl⟩)
    refine ⟨by simp, .inl ⟨_, _, rfl, run_takeDeferred hK, ?_⟩⟩
    refine ⟨_, res_cell_tmp rfl rfl rfl (hst.get 2 rfl) Tryd.underlying23 rfl el_api_Digest (Dig.size _), rfl, hst.forget⟩
  case body =>
    clear hst
    rintro l pre ⟨i, hi⟩ W hst hlen
    have hgW := hst.get 0 rfl
    have hb2 := bitN_lt m i
    have hst := hst.withObjs (B := Wk1.heap.size) rfl hBw
    obtain ⟨T, hTT⟩ : ∃ T, T = objsOf W Wk1.heap.size := ⟨_, rfl⟩
    rw [← hTT] at hst
    have HTT := Lib.hid hTT
    clear hTT
    simp only [List.cons_append, List.nil_append] at hst
    have HX := Lib.hid (show (pre ++ [(⟨i, hi⟩ : Pl)]).foldl (putP m gf) zs = ((pre.foldl (putP m gf) zs).set (2 * i + bitN m i) (leafN (gf (2 * i)))).set (2 * i + 1 - bitN m i) (gf (2 * i + 1)) by rw [List.foldl_append]; rfl)
    have hll : (pre.foldl (putP m gf) zs).length = 512 := by rw [length_fold, hzs]
    dsimp only
    generalize pre.foldl (putP m gf) zs = ls at *
    have HG1 := Lib.hid (show (lx.drop ((2 * (i : Int)).toNat * 32)).take 32 = (gf (2 * i)).arr.toList by rw [show (2 * (i : Int)).toNat = 2 * i by omega]; exact HG.out _ (by omega))
    have HG2 := Lib.hid (show (lx.drop ((2 * (i : Int) + 1).toNat * 32)).take 32 = (gf (2 * i + 1)).arr.toList by rw [show (2 * (i : Int) + 1).toNat = 2 * i + 1 by omega]; exact HG.out _ (by omega))
    generalize gf (2 * i) = x at *
    generalize gf (2 * i + 1) = y at *
    have H1 := Lib.hid (fun w hT => leafB_any x w hT)
    generalize leafN x = lf at *
    generalize bitN m i = b at *
    have j1 : (0 : Int) ≤ 2 * (i : Int) + (b : Int) := by omega
    have j2 : 2 * (i : Int) + (b : Int) < 512 := by omega
    have j3 : (0 : Int) ≤ 2 * (i : Int) + 1 - (b : Int) := by omega
    have j4 : 2 * (i : Int) + 1 - (b : Int) < 512 := by omega
    refine wpIn_block ?_
    refine wpIn_seq ?_
    refine wpIn_region_plain (by kernel_rfl) ?_
    go_wp2_with (first
      | (refine L_idxK (d := some 25) rfl rfl rfl (by rfl) (by rfl) Tryd.underlying29 el_api_Digest (hst.old (by decide) hx) (by omega) (by omega) ?_; intro hr25)
      | (refine L_loadM (d := some 26) rfl rfl rfl (by rfl) Tryd.underlying23 rfl el_api_Digest (cs := x.arr) (by rw [← HG1.out]; exact hr25) (Dig.size _) ?_)
      | (go_at_call 13; (try clear hnew); refine (H1.out _ (HT.out.of hst)).mono ?_; rintro e W27 ⟨gl, cl, rfl, hnew⟩; replace hst := hst.trans hnew; simp only [List.cons_append, List.nil_append] at hst)
      | (refine wpl_at (.store 23 (.tmp 28) (.tmp 27)) rfl ?_; refine L_storeM rfl rfl hst rfl (by rfl) (ev_tmp rfl) (Dig.one _) el_api_Digest (Dig.size _) 2 rfl (by rw [List.size_toArray, length_digsL]; first | (rw [hll]; omega) | (rw [List.length_set, hll]; omega)) ?_; clear hst; intro WS11 hst; simp only [List.set_cons_zero, List.set_cons_succ] at hst; rw [putAt_dig _ _ _ (by first | (rw [hll]; omega) | (rw [List.length_set, hll]; omega))] at hst)
      | (refine L_load1 (d := some 22) rfl rfl rfl (by rfl) Tryd.underlying29 rfl (by first | assumption | exact cell_of (hst.get 0 rfl) rfl | exact cell_of (hst.get 1 rfl) rfl | exact cell_of (hst.get 2 rfl) rfl | exact cell_of (hst.get 3 rfl) rfl | exact cell_of (hst.get 4 rfl) rfl | exact cell_of (hst.get 5 rfl) rfl) ?_)
      | (refine L_idxS (d := some 25) rfl rfl rfl (by rfl) (by rfl) Tryd.underlying29 el_api_Digest (by first | assumption | exact hst.sl 0 rfl | exact hst.sl 1 rfl | exact hst.sl 2 rfl | exact hst.sl 3 rfl | exact hst.sl 4 rfl | exact hst.sl 5 rfl | exact hst.old (by decide) (by assumption)) (by omega) (by omega) ?_; intro o25 p25 ha25 hr25; (first | subst ha25 | (obtain ⟨h1, h2⟩ := some_addr ha25; subst h1; subst h2; clear ha25) | skip))
      | (first | (refine L_loadA (d := some 26) rfl rfl rfl (by rfl) Tryd.underlying23 rfl el_api_Digest (by first | exact hst.get 0 rfl | exact hst.get 1 rfl | exact hst.get 2 rfl | exact hst.get 3 rfl | exact hst.get 4 rfl | exact hst.get 5 rfl) (by first | rfl | exact Dig.size _ | (simp; done)) ?_) | (refine L_loadM (d := some 26) rfl rfl rfl (by rfl) Tryd.underlying23 rfl el_api_Digest (by first | assumption) (by first | rfl | exact Dig.size _ | (simp; done)) ?_))
      | (refine wpl_at (.store 23 (.tmp 28) (.tmp 27)) rfl ?_; first | (refine L_storeA rfl rfl hst rfl (by rfl) (ev_tmp rfl) (by first | rfl | exact Dig.one _ | (simp; done)) el_api_Digest (by first | rfl | exact Dig.size _ | (simp; done)) 0 rfl (by first | rfl | exact Dig.size _ | (simp; done)) ?_; clear hst; intro WS11 hst; simp only [List.set_cons_zero, List.set_cons_succ] at hst) | (refine L_storeA rfl rfl hst rfl (by rfl) (ev_tmp rfl) (by first | rfl | exact Dig.one _ | (simp; done)) el_api_Digest (by first | rfl | exact Dig.size _ | (simp; done)) 1 rfl (by first | rfl | exact Dig.size _ | (simp; done)) ?_; clear hst; intro WS11 hst; simp only [List.set_cons_zero, List.set_cons_succ] at hst) | (refine L_storeA rfl rfl hst rfl (by rfl) (ev_tmp rfl) (by first | rfl | exact Dig.one _ | (simp; done)) el_api_Digest (by first | rfl | exact Dig.size _ | (simp; done)) 2 rfl (by first | rfl | exact Dig.size _ | (simp; done)) ?_; clear hst; intro WS11 hst; simp only [List.set_cons_zero, List.set_cons_succ] at hst) | (refine L_storeA rfl rfl hst rfl (by rfl) (ev_tmp rfl) (by first | rfl | exact Dig.one _ | (simp; done)) el_api_Digest (by first | rfl | exact Dig.size _ | (simp; done)) 3 rfl (by first | rfl | exact Dig.size _ | (simp; done)) ?_; clear hst; intro WS11 hst; simp only [List.set_cons_zero, List.set_cons_succ] at hst) | (refine L_storeA rfl rfl hst rfl (by rfl) (ev_tmp rfl) (by first | rfl | exact Dig.one _ | (simp; done)) el_api_Digest (by first | rfl | exact Dig.size _ | (simp; done)) 4 rfl (by first | rfl | exact Dig.size _ | (simp; done)) ?_; clear hst; intro WS11 hst; simp only [List.set_cons_zero, List.set_cons_succ] at hst) | (refine L_storeA rfl rfl hst rfl (by rfl) (ev_tmp rfl) (by first | rfl | exact Dig.one _ | (simp; done)) el_api_Digest (by first | rfl | exact Dig.size _ | (simp; done)) 5 rfl (by first | rfl | exact Dig.size _ | (simp; done)) ?_; clear hst; intro WS11 hst; simp only [List.set_cons_zero, List.set_cons_succ] at hst) | (refine L_storeM rfl rfl hst rfl (by rfl) (ev_tmp rfl) (by first | rfl | exact Dig.one _ | (simp; done)) el_api_Digest (by first | rfl | exact Dig.size _ | (simp; done)) 0 rfl (by first | exact of_decide_eq_true rfl | (simp; done)) ?_; clear hst; intro WS11 hst; simp only [List.set_cons_zero, List.set_cons_succ] at hst)  | (refine L_storeM rfl rfl hst rfl (by rfl) (ev_tmp rfl) (by first | rfl | exact Dig.one _ | (simp; done)) el_api_Digest (by first | rfl | exact Dig.size _ | (simp; done)) 1 rfl (by first | exact of_decide_eq_true rfl | (simp; done)) ?_; clear hst; intro WS11 hst; simp only [List.set_cons_zero, List.set_cons_succ] at hst)  | (refine L_storeM rfl rfl hst rfl (by rfl) (ev_tmp rfl) (by first | rfl | exact Dig.one _ | (simp; done)) el_api_Digest (by first | rfl | exact Dig.size _ | (simp; done)) 2 rfl (by first | exact of_decide_eq_true rfl | (simp; done)) ?_; clear hst; intro WS11 hst; simp only [List.set_cons_zero, List.set_cons_succ] at hst)  | (refine L_storeM rfl rfl hst rfl (by rfl) (ev_tmp rfl) (by first | rfl | exact Dig.one _ | (simp; done)) el_api_Digest (by first | rfl | exact Dig.size _ | (simp; done)) 3 rfl (by first | exact of_decide_eq_true rfl | (simp; done)) ?_; clear hst; intro WS11 hst; simp only [List.set_cons_zero, List.set_cons_succ] at hst)  | (refine L_storeM rfl rfl hst rfl (by rfl) (ev_tmp rfl) (by first | rfl | exact Dig.one _ | (simp; done)) el_api_Digest (by first | rfl | exact Dig.size _ | (simp; done)) 4 rfl (by first | exact of_decide_eq_true rfl | (simp; done)) ?_; clear hst; intro WS11 hst; simp only [List.set_cons_zero, List.set_cons_succ] at hst)  | (refine L_storeM rfl rfl hst rfl (by rfl) (ev_tmp rfl) (by first | rfl | exact Dig.one _ | (simp; done)) el_api_Digest (by first | rfl | exact Dig.size _ | (simp; done)) 5 rfl (by first | exact of_decide_eq_true rfl | (simp; done)) ?_; clear hst; intro WS11 hst; simp only [List.set_cons_zero, List.set_cons_succ] at hst))
      | fail)
    change Code.wpIn (Fence.wide.inRound l) _ _ _ _ _ _
    refine wpIn_region_plain (by kernel_rfl) ?_
    go_wp2_with (first
      | (refine L_idxK (d := some 38) rfl rfl rfl (by rfl) (by rfl) Tryd.underlying29 el_api_Digest (hst.old (by decide) hx) (by omega) (by omega) ?_; intro hr38)
      | (refine L_loadM (d := some 39) rfl rfl rfl (by rfl) Tryd.underlying23 rfl el_api_Digest (cs := y.arr) (by rw [← HG2.out]; exact hr38) (Dig.size _) ?_)
      | (refine wpl_at (.store 23 (.tmp 40) (.tmp 39)) rfl ?_; refine L_storeM rfl rfl hst rfl (by rfl) (ev_tmp rfl) (Dig.one _) el_api_Digest (Dig.size _) 2 rfl (by rw [List.size_toArray, length_digsL]; first | (rw [hll]; omega) | (rw [List.length_set, hll]; omega)) ?_; clear hst; intro WS12 hst; simp only [List.set_cons_zero, List.set_cons_succ] at hst; rw [putAt_dig _ _ _ (by first | (rw [hll]; omega) | (rw [List.length_set, hll]; omega))] at hst)
      | (refine L_load1 (d := some 34) rfl rfl rfl (by rfl) Tryd.underlying29 rfl (by first | assumption | exact cell_of (hst.get 0 rfl) rfl | exact cell_of (hst.get 1 rfl) rfl | exact cell_of (hst.get 2 rfl) rfl | exact cell_of (hst.get 3 rfl) rfl | exact cell_of (hst.get 4 rfl) rfl | exact cell_of (hst.get 5 rfl) rfl) ?_)
      | (refine L_idxS (d := some 38) rfl rfl rfl (by rfl) (by rfl) Tryd.underlying29 el_api_Digest (by first | assumption | exact hst.sl 0 rfl | exact hst.sl 1 rfl | exact hst.sl 2 rfl | exact hst.sl 3 rfl | exact hst.sl 4 rfl | exact hst.sl 5 rfl | exact hst.old (by decide) (by assumption)) (by omega) (by omega) ?_; intro o38 p38 ha38 hr38; (first | subst ha38 | (obtain ⟨h1, h2⟩ := some_addr ha38; subst h1; subst h2; clear ha38) | skip))
      | (first | (refine L_loadA (d := some 39) rfl rfl rfl (by rfl) Tryd.underlying23 rfl el_api_Digest (by first | exact hst.get 0 rfl | exact hst.get 1 rfl | exact hst.get 2 rfl | exact hst.get 3 rfl | exact hst.get 4 rfl | exact hst.get 5 rfl) (by first | rfl | exact Dig.size _ | (simp; done)) ?_) | (refine L_loadM (d := some 39) rfl rfl rfl (by rfl) Tryd.underlying23 rfl el_api_Digest (by first | assumption) (by first | rfl | exact Dig.size _ | (simp; done)) ?_))
      | (refine wpl_at (.store 23 (.tmp 40) (.tmp 39)) rfl ?_; first | (refine L_storeA rfl rfl hst rfl (by rfl) (ev_tmp rfl) (by first | rfl | exact Dig.one _ | (simp; done)) el_api_Digest (by first | rfl | exact Dig.size _ | (simp; done)) 0 rfl (by first | rfl | exact Dig.size _ | (simp; done)) ?_; clear hst; intro WS12 hst; simp only [List.set_cons_zero, List.set_cons_succ] at hst) | (refine L_storeA rfl rfl hst rfl (by rfl) (ev_tmp rfl) (by first | rfl | exact Dig.one _ | (simp; done)) el_api_Digest (by first | rfl | exact Dig.size _ | (simp; done)) 1 rfl (by first | rfl | exact Dig.size _ | (simp; done)) ?_; clear hst; intro WS12 hst; simp only [List.set_cons_zero, List.set_cons_succ] at hst) | (refine L_storeA rfl rfl hst rfl (by rfl) (ev_tmp rfl) (by first | rfl | exact Dig.one _ | (simp; done)) el_api_Digest (by first | rfl | exact Dig.size _ | (simp; done)) 2 rfl (by first | rfl | exact Dig.size _ | (simp; done)) ?_; clear hst; intro WS12 hst; simp only [List.set_cons_zero, List.set_cons_succ] at hst) | (refine L_storeA rfl rfl hst rfl (by rfl) (ev_tmp rfl) (by first | rfl | exact Dig.one _ | (simp; done)) el_api_Digest (by first | rfl | exact Dig.size _ | (simp; done)) 3 rfl (by first | rfl | exact Dig.size _ | (simp; done)) ?_; clear hst; intro WS12 hst; simp only [List.set_cons_zero, List.set_cons_succ] at hst) | (refine L_storeA rfl rfl hst rfl (by rfl) (ev_tmp rfl) (by first | rfl | exact Dig.one _ | (simp; done)) el_api_Digest (by first | rfl | exact Dig.size _ | (simp; done)) 4 rfl (by first | rfl | exact Dig.size _ | (simp; done)) ?_; clear hst; intro WS12 hst; simp only [List.set_cons_zero, List.set_cons_succ] at hst) | (refine L_storeA rfl rfl hst rfl (by rfl) (ev_tmp rfl) (by first | rfl | exact Dig.one _ | (simp; done)) el_api_Digest (by first | rfl | exact Dig.size _ | (simp; done)) 5 rfl (by first | rfl | exact Dig.size _ | (simp; done)) ?_; clear hst; intro WS12 hst; simp only [List.set_cons_zero, List.set_cons_succ] at hst) | (refine L_storeM rfl rfl hst rfl (by rfl) (ev_tmp rfl) (by first | rfl | exact Dig.one _ | (simp; done)) el_api_Digest (by first | rfl | exact Dig.size _ | (simp; done)) 0 rfl (by first | exact of_decide_eq_true rfl | (simp; done)) ?_; clear hst; intro WS12 hst; simp only [List.set_cons_zero, List.set_cons_succ] at hst)  | (refine L_storeM rfl rfl hst rfl (by rfl) (ev_tmp rfl) (by first | rfl | exact Dig.one _ | (simp; done)) el_api_Digest (by first | rfl | exact Dig.size _ | (simp; done)) 1 rfl (by first | exact of_decide_eq_true rfl | (simp; done)) ?_; clear hst; intro WS12 hst; simp only [List.set_cons_zero, List.set_cons_succ] at hst)  | (refine L_storeM rfl rfl hst rfl (by rfl) (ev_tmp rfl) (by first | rfl | exact Dig.one _ | (simp; done)) el_api_Digest (by first | rfl | exact Dig.size _ | (simp; done)) 2 rfl (by first | exact of_decide_eq_true rfl | (simp; done)) ?_; clear hst; intro WS12 hst; simp only [List.set_cons_zero, List.set_cons_succ] at hst)  | (refine L_storeM rfl rfl hst rfl (by rfl) (ev_tmp rfl) (by first | rfl | exact Dig.one _ | (simp; done)) el_api_Digest (by first | rfl | exact Dig.size _ | (simp; done)) 3 rfl (by first | exact of_decide_eq_true rfl | (simp; done)) ?_; clear hst; intro WS12 hst; simp only [List.set_cons_zero, List.set_cons_succ] at hst)  | (refine L_storeM rfl rfl hst rfl (by rfl) (ev_tmp rfl) (by first | rfl | exact Dig.one _ | (simp; done)) el_api_Digest (by first | rfl | exact Dig.size _ | (simp; done)) 4 rfl (by first | exact of_decide_eq_true rfl | (simp; done)) ?_; clear hst; intro WS12 hst; simp only [List.set_cons_zero, List.set_cons_succ] at hst)  | (refine L_storeM rfl rfl hst rfl (by rfl) (ev_tmp rfl) (by first | rfl | exact Dig.one _ | (simp; done)) el_api_Digest (by first | rfl | exact Dig.size _ | (simp; done)) 5 rfl (by first | exact of_decide_eq_true rfl | (simp; done)) ?_; clear hst; intro WS12 hst; simp only [List.set_cons_zero, List.set_cons_succ] at hst))
      | fail)
    have hsz := St.size_of_blk hnew hst 0 rfl
    rw [HTT.out] at hst
    refine ⟨St.keepsFrom (L := [_, _, _, _, _, _]) hst hsz, (hst.get 1 rfl).trans hgW.symm, ?_⟩
    have hst := hst.drop (List.sublist_append_left [_, _, _, _, _, _] (objsOf W Wk1.heap.size))
    show St w _ _
    rw [HX.out]
    exact hst.pick [1, 2, 3, 4, 5] (by decide)
end Go.Proofs.YthlpobpkhlbfdaaDoor
