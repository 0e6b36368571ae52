/-
  Proved here: PinForks: the law returns true for every input, and leaves its arguments as they were.
-/
import Derived.Test.YtaebeemnipafbaaDoorPkLookY
import Derived.Test.YtaebeemnipafbaaDoorSkip
import Derived.Test.YtaebeemnipafbaaDoorPkPinHonestA
import Derived.Test.YtaebeemnipafbaaDoorPkPinHonestB
import Derived.Deep.LoopGhost
import Derived.Test.YtaebeemnipafbaaDoorForkM
import Derived.Test.YtaebeemnipafbaaDoorLawF
import Derived.Test.YtaebeemnipafbaaDoorDrawT
import Derived.Test.YtaebeemnipafbaaDoorLawC
import Derived.Test.YtaebeemnipafbaaDoorPick
import Derived.Test.YtaebeemnipafbaaDoorDigsL
import Derived.Test.YtaebeemnipafbaaDoorOpenB
import Derived.Test.YtaebeemnipafbaaDoorCards
import Derived.Test.YtaebeemnipafbaaDoorTie
import Derived.Deep.DeepHandedRow
import Derived.ProofKit
import Derived.OpenShut
set_option maxRecDepth 20000
set_option linter.unusedSimpArgs false
set_option linter.unusedVariables false
namespace Go.Proofs.YtaebeemnipafbaaDoor
open Go.RowKit
attribute [local simp] ntArr_size
def qlArr (K : Option Addr) (m mc : Nat) (A : Option Addr) (n c : Nat) : Array Value := #[.slice K m mc, .slice A n c]
section
variable {K : Option Addr} {m mc : Nat} {A : Option Addr} {n c : Nat}
theorem qlArr_0 : (qlArr K m mc A n c)[0]? = some (.slice K m mc) := rfl
theorem qlArr_1 : (qlArr K m mc A n c)[1]? = some (.slice A n c) := rfl
theorem qlArr_s1 (A' : Option Addr) (n' c' : Nat) : (qlArr K m mc A n c).setIfInBounds 1 (.slice A' n' c') = qlArr K m mc A' n' c' := rfl
end
theorem qlArr_size (K : Option Addr) (m mc : Nat) (A : Option Addr) (n c : Nat) : (qlArr K m mc A n c).size = 2 := rfl
theorem qlArr_all (K : Option Addr) (m mc : Nat) (A : Option Addr) (n c : Nat) : (qlArr K m mc A n c).all (·.oneCell') = true := by simp [qlArr, Value.oneCell']
theorem el_oathbookref3_Log : ElemIs Tryd.prog 39 (.agg (qlArr none 0 0 none 0 0)) 2 48 := by unfold ElemIs; kernel_rfl
section
variable {ops : Array Oper} {rest : List Oper} {o : Oper} {a : Act} {W : World} {Q : Exit → Act → World → Prop} {d : Option Tmp}
theorem L_buildQ0 (hd : o.dst = d) (hw : Region.wanted o (yielded ops a.tmps) = true) {x : Operand} (ho : o.op = .build 39 #[(0, x)]) {K : Option Addr} {m mc : Nat} (hx : a.eval x = .slice K m mc)
  (h : wpList Tryd.prog ops Q rest (a.put d (.agg (qlArr K m mc none 0 0))) W) : wpList Tryd.prog ops Q (o :: rest) a W :=
 L_buildT hd hw ho Tryd.underlying39 el_oathbookref3_Log [(0, 1), (1, 1)] (by kernel_rfl) (ps := [(0, .slice K m mc)]) (by simp [hx]) (qs := [(0, [.slice K m mc])]) ⟨rfl, rfl, by simp [qlArr_size], trivial⟩ rfl h
theorem L_buildQ1 (hd : o.dst = d) (hw : Region.wanted o (yielded ops a.tmps) = true) {x : Operand} (ho : o.op = .build 39 #[(1, x)]) {A : Option Addr} {n c : Nat} (hx : a.eval x = .slice A n c)
  (h : wpList Tryd.prog ops Q rest (a.put d (.agg (qlArr none 0 0 A n c))) W) : wpList Tryd.prog ops Q (o :: rest) a W :=
 L_buildT hd hw ho Tryd.underlying39 el_oathbookref3_Log [(0, 1), (1, 1)] (by kernel_rfl) (ps := [(1, .slice A n c)]) (by simp [hx]) (qs := [(1, [.slice A n c])]) ⟨rfl, rfl, by simp [qlArr_size], trivial⟩ rfl h
end
def lastZ (ns : List NoteN) (s : List UInt8) : Int := match lastI ns s with | some j => (j : Int) | none => -1
theorem lastI_take {ns : List NoteN} {j : Nat} (h : j < ns.length) (s : List UInt8) : lastI (ns.take (j + 1)) s = if ns[j].name = s then some j else lastI (ns.take j) s := by
 rw [List.take_succ_eq_append_getElem h, lastI_snoc, List.length_take, Nat.min_eq_left (by omega)]
set_option maxHeartbeats 2000000 in
theorem rlast_any (K : Option Addr) (m mc : Nat) (ns : List NoteN) (s : List UInt8) (A : Option Addr) (n c : Nat) (w : World) (hx : SlR w A n c 34 (notesL ns)) (hn : n ≤ 1000000) :
  Calls Tryd.prog 81 #[.agg (qlArr K m mc A n c), .string (bsOf s)] w fun e w' => e = .returned (.int .i64 (lastZ ns s)) ∧ St w w' [] := by
 have hst := St.refl w
 have hl : ns.length = n := by have := hx.1; rw [length_notesL] at this; omega
 have HL := Lib.hid hl
 have HX := Lib.hid hx
 clear hl hx
 go_enter Tryd.func81, Tryd.ntmps81
 go_upto_region 1 with (go_big_may; (refine L_boxA (d := some 2) rfl rfl rfl (ev_tmp rfl) ?_; (try clear hnew); intro g2 W2 hnew; replace hst := hst.trans hnew; simp only [List.cons_append, List.nil_append] at hst))
 go_wp2_with ((refine L_load1 (d := some 7) rfl rfl rfl (by rfl) Tryd.underlying23 rfl (by (exact cell_of (hst.get 0 rfl) qlArr_1)) ?_))
 go_loopg [5] n (fun gk s5 wr => ∃ k : Nat, Hid (k = gk ∧ k ≤ n ∧ lastI (ns.take k) s = lastI ns s) ∧ s5 = .int .i64 ((k : Int) - 1) ∧ St w wr [.blk g2 39 (qlArr K m mc A n c)])
 case atStart => exact ⟨n, Lib.hid ⟨rfl, Nat.le_refl _, by rw [List.take_of_length_le (by rw [HL.out]; exact Nat.le_refl _)]⟩, by go_num, hst⟩
 case round =>
  clear hst
  obtain ⟨k, HK, rfl, hst⟩ := hrel
  have hk := HK.out.2.1
  cases k with
  | zero =>
   have HE := Lib.hid (show lastZ ns s = -1 by unfold lastZ; rw [← HK.out.2.2]; rfl)
   clear HK
   go_upto_region 6 with (go_big_may; fail)
   go_wp2_with (fail)
   go_ret
   exact ⟨by rw [HE.out]; rfl, hst.forget⟩
  | succ j =>
   rw [show (((j + 1 : Nat) : Int) - 1) = (j : Int) by omega]
   have hj : j < ns.length := by rw [HL.out]; omega
   have HC := Lib.hid (fun (W : World) (g off : Nat) h => note_name (W := W) (g := g) (off := off) (i := j) (ns := ns) h hj)
   have ht := lastI_take hj s
   obtain ⟨u, hu⟩ : ∃ u, u = ns[j].name := ⟨_, rfl⟩
   rw [← hu] at ht HC
   have hjn : j < n := by omega
   clear hu hj hk
   by_cases hus : u = s
   ·rw [if_pos hus] at ht
    have HE := Lib.hid (show lastZ ns s = (j : Int) by unfold lastZ; rw [← HK.out.2.2, ht])
    have HS := Lib.hid (show decide (u = s) = true from decide_eq_true hus)
    clear HK ht hus
    go_upto_region 4 with (go_big_may; fail)
    go_upto_region 5 with (go_big_may; first | (refine L_load1 (d := some 19) rfl rfl rfl (by rfl) Tryd.underlying9 rfl (HC.out _ _ _ hr17) ?_) | (refine L_load1 (d := some 15) rfl rfl rfl (by rfl) Tryd.underlying23 rfl (by (exact cell_of (hst.get 0 rfl) qlArr_1)) ?_) | (refine L_idxS (d := some 17) rfl rfl rfl (by rfl) (by rfl) Tryd.underlying23 el_api_Note (by (exact hst.old (by decide) HX.out)) (by omega) (by omega) ?_; intro o17 p17 ha17 hr17; ((subst ha17))) | (refine L_eqStr (d := some 21) rfl rfl rfl eqG_str Tryd.underlying9 (ev_tmp rfl) (ev_tmp rfl) ?_; (try rw [HS.out])))
    go_wp2_with (fail)
    go_ret
    exact ⟨by rw [HE.out]; rfl, hst.forget⟩
   ·rw [if_neg hus] at ht
    have HS := Lib.hid (show decide (u = s) = false from decide_eq_false hus)
    have HT := Lib.hid ht
    clear ht hus
    go_upto_region 4 with (go_big_may; fail)
    go_upto_region 3 with (go_big_may; first | (refine L_load1 (d := some 19) rfl rfl rfl (by rfl) Tryd.underlying9 rfl (HC.out _ _ _ hr17) ?_) | (refine L_load1 (d := some 15) rfl rfl rfl (by rfl) Tryd.underlying23 rfl (by (exact cell_of (hst.get 0 rfl) qlArr_1)) ?_) | (refine L_idxS (d := some 17) rfl rfl rfl (by rfl) (by rfl) Tryd.underlying23 el_api_Note (by (exact hst.old (by decide) HX.out)) (by omega) (by omega) ?_; intro o17 p17 ha17 hr17; ((subst ha17))) | (refine L_eqStr (d := some 21) rfl rfl rfl eqG_str Tryd.underlying9 (ev_tmp rfl) (ev_tmp rfl) ?_; (try rw [HS.out])))
    go_wp2_with (fail)
    go_roundg j
    case measure => have := HK.out.1; omega
    case rel => exact ⟨j, Lib.hid ⟨rfl, by omega, by rw [← HT.out]; exact HK.out.2.2⟩, by go_num, hst⟩
set_option maxHeartbeats 4000000 in
set_option maxRecDepth 100000 in
theorem rleaves_any (K : Option Addr) (m mc : Nat) (ns : List NoteN) (A : Option Addr) (n c : Nat) (w : World) (hx : SlR w A n c 34 (notesL ns)) (hok : ∀ x ∈ ns, noteOk x = true) (hn : n ≤ 256) :
  Calls Tryd.prog 15 #[.agg (qlArr K m mc A n c)] w fun e w' => ∃ O oc, e = .returned (.slice O n oc) ∧ St w w' [.row O n oc 30 32 (digsL (lvN ns))] := by
 have hst := St.refl w
 have hl : ns.length = n := by have := hx.1; rw [length_notesL] at this; omega
 have HL := Lib.hid hl
 have HX := Lib.hid hx
 have HOk := Lib.hid (fun (i : Nat) (h : i < ns.length) => hok ns[i] (List.getElem_mem h))
 clear hl hx hok
 go_enter Tryd.func15, Tryd.ntmps15
 go_upto_region 1 with (go_big_may; (refine L_boxA (d := some 1) rfl rfl rfl (ev_tmp rfl) ?_; (try clear hnew); intro g1 W1 hnew; replace hst := hst.trans hnew; simp only [List.cons_append, List.nil_append] at hst))
 go_upto_region 2 with (go_big_may; fail)
 go_wp2_with (fail)
 replace hst := hst.nilRow 30 32
 go_loopg [3, 4] n (fun gk s3 s4 wr => ∃ (i : Nat) (O : Option Addr) (oc : Nat), Hid (i + gk = n) ∧ s3 = .slice O i oc ∧ s4 = .int .i64 (i : Int) ∧ St w wr [.row O i oc 30 32 (digsL (lvN (ns.take i))), .blk g1 39 (qlArr K m mc A n c)])
 case atStart => exact ⟨0, none, 0, Lib.hid (by omega), rfl, rfl, hst⟩
 case round =>
  clear hst
  obtain ⟨i, O, oc, HI, rfl, rfl, hst⟩ := hrel
  have hi := HI.out
  by_cases hin : i < n
  ·have hil : i < ns.length := by rw [HL.out]; exact hin
   have HC := Lib.hid (fun (W : World) (g off : Nat) h => note_cells (W := W) (g := g) (off := off) (i := i) (ns := ns) h hil)
   have HW := Lib.hid (fun w => rnoteB_any ns[i] w (HOk.out i hil))
   have HE := Lib.hid (show digsL (lvN (ns.take i)) ++ (ntLeaf ns[i]).arr.toList = digsL (lvN (ns.take (i + 1))) by
    unfold lvN digsL
    rw [List.take_succ_eq_append_getElem hil, List.map_append, List.flatMap_append, Dig.toList]
    simp only [List.map_cons, List.map_nil, List.flatMap_cons, List.flatMap_nil, List.append_nil])
   have HLf := Lib.hid (show ntLeaf ns[i] = leafBN (noteB ns[i]) from rfl)
   have hlb : (noteB ns[i]).length ≤ 67 := by
    have := HOk.out i hil
    unfold noteOk at this
    rw [Bool.and_eq_true] at this
    have := isNm_len this.1
    rw [length_noteB]
    omega
   unfold NoteN.arr at HC
   obtain ⟨x, hx⟩ : ∃ x, x = ns[i] := ⟨_, rfl⟩
   rw [← hx] at HC HW HE HLf hlb
   clear hx hil hi
   generalize noteB x = bs at *
   generalize ntLeaf x = lf at *
   go_upto_region 5 with (go_big_may; (refine L_load1 (d := some 9) rfl rfl rfl (by rfl) Tryd.underlying23 rfl (by (exact cell_of (hst.get 1 rfl) qlArr_1)) ?_))
   go_upto_region 6 with (go_big_may; first | (refine L_loadM (d := some 19) rfl rfl rfl (by rfl) Tryd.underlying35 rfl el_api_Note (HC.out _ _ _ hr18) (ntArr_size _ _ _) ?_) | (go_at_call 46; (try clear hnew); refine (HW.out _).mono ?_; rintro e Wn ⟨On, on, rfl, hnew⟩; replace hst := hst.trans hnew; simp only [List.cons_append, List.nil_append] at hst) | (refine L_load1 (d := some 16) rfl rfl rfl (by rfl) Tryd.underlying23 rfl (by (exact cell_of (hst.get 1 rfl) qlArr_1)) ?_) | (refine L_idxS (d := some 18) rfl rfl rfl (by rfl) (by rfl) Tryd.underlying23 el_api_Note (by (exact hst.old (by decide) HX.out)) (by omega) (by omega) ?_; intro o18 p18 ha18 hr18; ((subst ha18))))
   go_upto_region 4 with (go_big_may; first | (go_at_call 47; (try clear hnew); refine (rleaf_any bs _ _ _ _ (hst.sl 0 rfl) (by omega)).mono ?_; rintro e Wk1 ⟨rfl, hnew⟩; replace hst := hst.keep hnew) | (refine L_buildS (d := some 26) rfl rfl rfl [_] (bs_1 (ev_tmp rfl)) rfl Tryd.underlying36 el_api_Digest rfl (by (simp [Value.cells, Dig.size]; done)) (by decide) (by decide) ?_; (try clear hnew); intro g26 W26 hnew; replace hst := hst.trans hnew; simp only [List.cons_append, List.nil_append] at hst; simp only [List.flatMap_cons, List.flatMap_nil, List.append_nil, Value.cells, List.toList_toArray] at hst) | (refine L_appendO (d := some 27) rfl rfl hst rfl (by rfl) (by rfl) Tryd.underlying36 el_api_Digest rfl (by decide) (by decide) 2 rfl (by (rfl)) (by (exact hst.sl 0 rfl)) (by (exact oneCell_bytes)) (by omega) ?_; clear hst; intro A27 c27 W27 hst; simp only [List.set_cons_zero, List.set_cons_succ, List.nil_append, Nat.zero_add] at hst))
   go_wp2_with (fail)
   rw [← HLf.out, HE.out] at hst
   go_roundg (gk - 1)
   case measure => have := HI.out; omega
   case rel => exact ⟨i + 1, _, _, Lib.hid (by have := HI.out; omega), rfl, by go_num, hst.pick [2, 3] (by decide)⟩
  ·obtain rfl : i = n := by omega
   have HE := Lib.hid (show ns.take i = ns from List.take_of_length_le (by rw [HL.out]; exact Nat.le_refl _))
   rw [HE.out] at hst
   clear hi HI HE
   go_upto_region 7 with (go_big_may; (refine L_load1 (d := some 9) rfl rfl rfl (by rfl) Tryd.underlying23 rfl (by (exact cell_of (hst.get 1 rfl) qlArr_1)) ?_))
   go_wp2_with (fail)
   go_ret
   exact ⟨_, _, rfl, hst.pick [0] (by decide)⟩
def cN (ns : List NoteN) (i : Nat) : Nat := ((List.range i).filter fun i => decide ((ns[i]?.bind fun n => lastI ns n.name) = some i)).length
theorem cN_all (ns : List NoteN) : cN ns ns.length = namesC ns := rfl
theorem cN_le (ns : List NoteN) (i : Nat) : cN ns i ≤ i := by
 have := List.length_filter_le (fun i => decide ((ns[i]?.bind fun n => lastI ns n.name) = some i)) (List.range i)
 rw [List.length_range] at this
 exact this
theorem lastZ_iff (ns : List NoteN) (s : List UInt8) (i : Nat) : lastZ ns s = (i : Int) ↔ lastI ns s = some i := by
 unfold lastZ
 cases lastI ns s with
 | none => simp
 | some j => simp; omega
theorem cN_s {ns : List NoteN} {i : Nat} (h : i < ns.length) : cN ns (i + 1) = if lastZ ns ns[i].name = (i : Int) then cN ns i + 1 else cN ns i := by
 have e : (ns[i]?.bind fun n => lastI ns n.name) = lastI ns ns[i].name := by rw [List.getElem?_eq_getElem h]; rfl
 unfold cN
 rw [List.range_succ, List.filter_append, List.length_append]
 by_cases hc : lastZ ns ns[i].name = (i : Int)
 ·rw [if_pos hc]
  rw [lastZ_iff] at hc
  simp [List.filter_cons, e, hc]
 ·rw [if_neg hc]
  rw [lastZ_iff] at hc
  simp [List.filter_cons, e, hc]
end Go.Proofs.YtaebeemnipafbaaDoor

set_option maxRecDepth 20000
set_option linter.unusedSimpArgs false
set_option linter.unusedVariables false
namespace Go.Proofs.YtaebeemnipafbaaDoor
open Go.RowKit
attribute [local simp] ntArr_size
theorem el_S_api_Note : ElemIs Tryd.prog 23 (.slice none 0 0) 1 24 := by unfold ElemIs; kernel_rfl
theorem nt_ones (ns : List NoteN) : ∀ u ∈ notesL ns, u.oneCell' = true := by
 intro u hu
 obtain ⟨n, -, hn⟩ := List.mem_flatMap.1 hu
 exact ntArr_one _ _ _ u hn
section
variable {P : Program} {a : Act} {W : World}
theorem bp_cellQ2 {fn : Func} {R : Ending → World → Prop} {p q q' : Tmp} {ty : TypeId} (hr : fn.results = #[.cell p ty, .tmp q, .tmp q']) (hd : a.defers = []) {g : Nat} (hp : a.tmps.toList[p]? = some (.pointer (some ⟨g, 0, none⟩))) {v v' : Value} (hq : a.tmps.toList[q]? = some v) (hq2 : a.tmps.toList[q']? = some v') {t : TypeId} {cs : Array Value} {fr : Nat × Nat} (hg : W.heap[g]? = some (.cells cs t fr))
  {td : TypeDesc} (hu : P.underlying ty = some td) (hrow : td.isRow = true) {z : Value} {s b : Nat} (he : ElemIs P ty z s b) (hs : cs.size = s) (hR : R (.returned (.tuple #[.agg cs, v, v'])) W) : bodyPost P fn R .ret a W := by
 have hp' : a.tmps[p]?.getD undef = .pointer (some ⟨g, 0, none⟩) := by
  have : a.tmps[p]? = some (.pointer (some ⟨g, 0, none⟩)) := by simpa using hp
  simp [this]
 have hq' : a.tmps[q]?.getD undef = v := by
  have : a.tmps[q]? = some v := by simpa using hq
  simp [this]
 have hq3 : a.tmps[q']?.getD undef = v' := by
  have : a.tmps[q']? = some v' := by simpa using hq2
  simp [this]
 refine bodyPost_ret ?_ hd hR
 simp [results, hr, hp', hq', hq3, asAddr, run_loadVar_row W g t ty cs fr td hg hu (by cases td <;> simp_all [TypeDesc.isRow]) (by rw [he.size, hs])]
end
theorem addE_1 {ns : List NoteN} {s : List UInt8} (h : isNm s = false) : addE ns s = 1 := by unfold addE; rw [if_neg (by rw [h]; decide)]
theorem addE_4 {ns : List NoteN} {s : List UInt8} (h : isNm s = true) (hf : 256 ≤ ns.length ∨ lastI ns s = none ∧ 64 ≤ namesC ns) : addE ns s = 4 := by unfold addE; rw [if_pos h, if_pos hf]
theorem addE_7 {ns : List NoteN} {s : List UInt8} (h : isNm s = true) (hf : ¬ (256 ≤ ns.length ∨ lastI ns s = none ∧ 64 ≤ namesC ns)) (ht : takenN ns s = true) : addE ns s = 7 := by unfold addE; rw [if_pos h, if_neg hf, if_pos ht]
theorem addE_0 {ns : List NoteN} {s : List UInt8} (h : isNm s = true) (hf : ¬ (256 ≤ ns.length ∨ lastI ns s = none ∧ 64 ≤ namesC ns)) (ht : takenN ns s = false) : addE ns s = 0 := by unfold addE; rw [if_pos h, if_neg hf, if_neg (by rw [ht]; decide)]
theorem takenN_s {ns : List NoteN} {i : Nat} (h : i < ns.length) (s : List UInt8) : takenN (ns.take (i + 1)) s = (takenN (ns.take i) s || decide (ns[i].name ≠ s ∧ idxN ns[i].name = idxN s)) := by
 unfold takenN
 rw [List.take_succ_eq_append_getElem h, List.any_append]
 simp
set_option maxHeartbeats 200000000 in
set_option maxRecDepth 100000 in
theorem radded_gen (K : Option Addr) (m mc : Nat) (ns : List NoteN) (s : List UInt8) (k : Dig) (A : Option Addr) (n c : Nat) (w : World) (hx : SlR w A n c 34 (notesL ns)) (hg : Logged ns) (hs0 : s.length ≤ 140737488351232) (Q : Ending → World → Prop)
  (hok : addE ns s = 0 → ∀ (w' : World) (O : Option Addr) (oc : Nat), St w w' [.row O (n + 1) oc 35 34 (notesL (ns ++ [newN ns s k]))] → Q (.returned (.tuple #[.agg (qlArr K m mc O (n + 1) oc), .int .i64 (n : Int), .int .i64 0])) w')
  (hno : ∀ r : Nat, addE ns s = r → r ≠ 0 → ∀ w' : World, St w w' [] → Q (.returned (.tuple #[.agg (qlArr K m mc A n c), .int .i64 0, .int .i64 (r : Int)])) w') :
  Calls Tryd.prog 41 #[.agg (qlArr K m mc A n c), .string (bsOf s), k.v] w Q := by
 have hst := St.refl w
 have hl : ns.length = n := by have := hx.1; rw [length_notesL] at this; omega
 have hn : n ≤ 256 := by have := hg.len; omega
 have HL := Lib.hid hl
 have HX := Lib.hid hx
 have HOk := Lib.hid hok
 have HNo := Lib.hid hno
 have HIs := Lib.hid (fun w' => rindex_any s w' (by omega))
 have HNm := Lib.hid (fun w' => risname_any s w' (by omega))
 have HLs := Lib.hid (fun (w' : World) (u : List UInt8) h => rlast_any K m mc ns u A n c w' h (by omega))
 have htl := hg.turn_le s
 have HNN := Lib.hid (show newN ns s k = ⟨s, k, turnN ns s⟩ from rfl)
 have HU := Lib.hid (fun x (h : x ∈ ns) => (isNm_len (hg.nm x h)).2)
 clear hl hx hg hok hno
 go_enter Tryd.func41, Tryd.ntmps41
 by_cases hnm : isNm s = true
 case neg =>
  have hnm' : isNm s = false := by simpa using hnm
  have HR := Lib.hid (HNo.out 1 (addE_1 hnm') (by decide))
  rw [hnm'] at HNm
  clear hnm hnm' HOk HNo HLs HIs HU HNN htl hs0
  go_upto_region 1 with (go_big_may; first | (refine L_boxA (d := some 3) rfl rfl rfl (ev_tmp rfl) ?_; (try clear hnew); intro g3 W3 hnew; replace hst := hst.trans hnew; simp only [List.cons_append, List.nil_append] at hst) | (refine L_boxA (d := some 5) rfl rfl rfl (ev_tmp rfl) ?_; (try clear hnew); intro g5 W5 hnew; replace hst := hst.trans hnew; simp only [List.cons_append, List.nil_append] at hst) | (refine L_allocA (d := some 6) rfl rfl rfl el_oathbookref3_Log ?_; (try clear hnew); intro g6 W6 hnew; replace hst := hst.trans hnew; simp only [List.cons_append, List.nil_append] at hst))
  go_upto_region 2 with (go_big_may; (go_at_call 31; refine (HNm.out _).mono ?_; rintro e Wn ⟨rfl, hnew⟩; replace hst := hst.keep hnew; clear hnew))
  go_wp2_with (first | ((refine L_loadA (d := some 19) rfl rfl rfl (by rfl) Tryd.underlying39 rfl el_oathbookref3_Log (by (exact hst.get 2 rfl)) (by (exact qlArr_size _ _ _ _ _ _)) ?_)) | (refine wpl_at (.store 39 (.tmp 6) (.tmp 19)) rfl ?_; (refine L_storeA rfl rfl hst rfl (by rfl) (ev_tmp rfl) (by (exact qlArr_all _ _ _ _ _ _)) el_oathbookref3_Log (by (rfl)) 0 rfl (by (rfl)) ?_; clear hst; intro WS1 hst; simp only [List.set_cons_zero, List.set_cons_succ] at hst)))
  refine bp_cellQ2 rfl rfl rfl rfl rfl (hst.get 0 rfl) Tryd.underlying39 rfl el_oathbookref3_Log (qlArr_size _ _ _ _ _ _) ?_
  exact HR.out _ hst.forget
 have HNm1 := Lib.hid hnm
 rw [hnm] at HNm
 clear hnm
 go_upto_region 1 with (go_big_may; first | (refine L_boxA (d := some 3) rfl rfl rfl (ev_tmp rfl) ?_; (try clear hnew); intro g3 W3 hnew; replace hst := hst.trans hnew; simp only [List.cons_append, List.nil_append] at hst) | (refine L_boxA (d := some 5) rfl rfl rfl (ev_tmp rfl) ?_; (try clear hnew); intro g5 W5 hnew; replace hst := hst.trans hnew; simp only [List.cons_append, List.nil_append] at hst) | (refine L_allocA (d := some 6) rfl rfl rfl el_oathbookref3_Log ?_; (try clear hnew); intro g6 W6 hnew; replace hst := hst.trans hnew; simp only [List.cons_append, List.nil_append] at hst))
 go_upto_region 3 with (go_big_may; (go_at_call 31; refine (HNm.out _).mono ?_; rintro e Wn ⟨rfl, hnew⟩; replace hst := hst.keep hnew; clear hnew))
 go_upto_region 4 with (go_big_may; first | (go_at_call 81; refine (HLs.out _ s (hst.old (by decide) HX.out)).mono ?_; rintro e Wn ⟨rfl, hnew⟩; replace hst := hst.keep hnew; clear hnew) | ((refine L_loadA (d := some 20) rfl rfl rfl (by rfl) Tryd.underlying39 rfl el_oathbookref3_Log (by (exact hst.get 2 rfl)) (by (exact qlArr_size _ _ _ _ _ _)) ?_)))
 go_upto_region 5 with (go_big_may; fail)
 go_upto_region 6 with (go_big_may; fail)
 go_wp2_with (fail)
 generalize hz : lastZ ns s = z
 have HZ := Lib.hid hz
 clear hz
 go_loopg [10, 11, 12] n (fun gk s10 s11 s12 wr => ∃ (i : Nat) (t : Bool), Hid (gk + i = n) ∧ Hid (t = takenN (ns.take i) s) ∧ s10 = .int .i64 (cN ns i : Int) ∧ s11 = .bool t ∧ s12 = .int .i64 (i : Int) ∧ St w wr [.blk g6 39 (qlArr none 0 0 none 0 0), .blk g5 30 k.arr, .blk g3 39 (qlArr K m mc A n c)])
 case atStart => exact ⟨0, false, Lib.hid rfl, Lib.hid rfl, rfl, rfl, rfl, hst⟩
 case round =>
  clear hst
  obtain ⟨i, t, HI, HTk, rfl, rfl, rfl, hst⟩ := hrel
  have hi := HI.out
  by_cases hin : i < n
  ·obtain ⟨g, rfl⟩ : ∃ g, gk = g + 1 := ⟨gk - 1, by omega⟩
   have hil : i < ns.length := by rw [HL.out]; exact hin
   have HC := Lib.hid (fun (W : World) (g off : Nat) h => note_name (W := W) (g := g) (off := off) (i := i) (ns := ns) h hil)
   have hcs := cN_s hil
   have hcl := cN_le ns i
   have hul : ns[i].name.length ≤ 67 := by have := HU.out ns[i] (List.getElem_mem hil); omega
   have hts := takenN_s hil s
   rw [← HTk.out] at hts
   generalize ns[i].name = u at HC hcs hul hts
   have HLu := Lib.hid (fun (w' : World) h => HLs.out w' u h)
   have HIu := Lib.hid (fun w' => rindex_any u w' (by omega))
   generalize lastZ ns u = zu at hcs HLu
   generalize idxN u = iu at hts HIu
   generalize hgc : cN ns (i + 1) = c1 at hcs
   generalize cN ns i = c0 at hcs hcl
   generalize hgi : idxN s = is at hts
   have HIs' := Lib.hid (fun w' => by have := HIs.out w'; rw [hgi] at this; exact this)
   have HTS := Lib.hid hts
   have HCS := Lib.hid hcs
   have HGC := Lib.hid hgc
   clear hil hul hgi hts hcs hgc HTk
   go_upto_region 9 with (go_big_may; (refine L_load1 (d := some 25) rfl rfl rfl (by rfl) Tryd.underlying23 rfl (by (exact cell_of (hst.get 2 rfl) qlArr_1)) ?_))
   go_upto_region 10 with (go_big_may; first | (refine L_load1 (d := some 35) rfl rfl rfl (by rfl) Tryd.underlying9 rfl (HC.out _ _ _ hr33) ?_) | (refine L_load1 (d := some 31) rfl rfl rfl (by rfl) Tryd.underlying23 rfl (by (exact cell_of (hst.get 2 rfl) qlArr_1)) ?_) | (refine L_idxS (d := some 33) rfl rfl rfl (by rfl) (by rfl) Tryd.underlying23 el_api_Note (by (exact hst.old (by decide) HX.out)) (by omega) (by omega) ?_; intro o33 p33 ha33 hr33; ((subst ha33))))
   go_upto_if 40 with (go_big_may; first | (go_at_call 81; refine (HLu.out _ (hst.old (by decide) HX.out)).mono ?_; rintro e Wn ⟨rfl, hnew⟩; replace hst := hst.keep hnew; clear hnew) | ((refine L_loadA (d := some 36) rfl rfl rfl (by rfl) Tryd.underlying39 rfl el_oathbookref3_Log (by (exact hst.get 2 rfl)) (by (rfl)) ?_)))
   go_cut [10] (fun s10 wx => s10 = .int .i64 (c1 : Int) ∧ St w wx [.blk g6 39 (qlArr none 0 0 none 0 0), .blk g5 30 k.arr, .blk g3 39 (qlArr K m mc (some ⟨o33, p33, none⟩) n c)])
   case first =>
    by_cases hzu : zu = (i : Int)
    ·have hx1 : (zu == (i : Int)) = true := by simp [hzu]
     have hcs := HCS.out
     rw [if_pos hzu] at hcs
     clear hzu
     go_wp2_with (go_big_may; fail)
     go_meet
     case rel => exact ⟨by rw [hcs]; go_num, hst⟩
    ·have hx1 : (zu == (i : Int)) = false := by simp [hzu]
     have hcs := HCS.out
     rw [if_neg hzu] at hcs
     clear hzu
     go_wp2_with fail
     go_meet
     case rel => exact ⟨by rw [hcs], hst⟩
   case rest =>
    obtain ⟨rfl, hst⟩ := hcut
    clear HCS HLu
    by_cases hus : u = s
    ·have HS := Lib.hid (show (!decide (u = s)) = false by simp [hus])
     have HT2 := Lib.hid (show t = takenN (ns.take (i + 1)) s by rw [HTS.out]; simp [hus])
     clear hus
     go_upto_region 8 with (first | (with_reducible refine L_pass (t := 47) rfl (by kernel_rfl) ?_) | (with_reducible refine L_pass (t := 48) rfl (by kernel_rfl) ?_) | (with_reducible refine L_pass (t := 49) rfl (by kernel_rfl) ?_) | (with_reducible refine L_pass (t := 50) rfl (by kernel_rfl) ?_) | (with_reducible refine L_pass (t := 51) rfl (by kernel_rfl) ?_) | (go_big_may; (refine L_neStr (d := some 45) rfl rfl rfl eqG_str Tryd.underlying9 (ev_tmp rfl) (ev_tmp rfl) ?_; (try rw [HS.out]))))
     go_wp2_with (fail)
     go_roundg g
     case measure => omega
     case rel => exact ⟨i + 1, t, Lib.hid (by have := HI.out; omega), HT2, by rw [HGC.out], rfl, by go_num, hst⟩
    ·have HS := Lib.hid (show (!decide (u = s)) = true by simp [hus])
     by_cases hii : iu = is
     ·have hx2 : ((iu : Int) == (is : Int)) = true := by simp [hii]
      have HT2 := Lib.hid (show true = takenN (ns.take (i + 1)) s by rw [HTS.out]; simp [hus, hii])
      clear hus hii
      go_upto_region 13 with (go_big_may; first | (go_at_call_of 21 (Value.string (bsOf u)); refine (HIu.out _).mono ?_; rintro e Wn ⟨rfl, hnew⟩; replace hst := hst.keep hnew; clear hnew) | (go_at_call_of 21 (Value.string (bsOf s)); refine (HIs'.out _).mono ?_; rintro e Wn ⟨rfl, hnew⟩; replace hst := hst.keep hnew; clear hnew) | (refine L_neStr (d := some 45) rfl rfl rfl eqG_str Tryd.underlying9 (ev_tmp rfl) (ev_tmp rfl) ?_; (try rw [HS.out])))
      go_upto_region 8 with (go_big_may; fail)
      go_wp2_with (fail)
      go_roundg g
      case measure => omega
      case rel => exact ⟨i + 1, true, Lib.hid (by have := HI.out; omega), HT2, by rw [HGC.out], rfl, by go_num, hst⟩
     ·have hx2 : ((iu : Int) == (is : Int)) = false := beq_eq_false_iff_ne.2 (fun e => hii (by omega))
      have HT2 := Lib.hid (show t = takenN (ns.take (i + 1)) s by rw [HTS.out]; simp [hii])
      clear hus hii
      go_upto_region 8 with (go_big_may; first | (go_at_call_of 21 (Value.string (bsOf u)); refine (HIu.out _).mono ?_; rintro e Wn ⟨rfl, hnew⟩; replace hst := hst.keep hnew; clear hnew) | (go_at_call_of 21 (Value.string (bsOf s)); refine (HIs'.out _).mono ?_; rintro e Wn ⟨rfl, hnew⟩; replace hst := hst.keep hnew; clear hnew) | (refine L_neStr (d := some 45) rfl rfl rfl eqG_str Tryd.underlying9 (ev_tmp rfl) (ev_tmp rfl) ?_; (try rw [HS.out])))
      go_wp2_with (fail)
      go_roundg g
      case measure => omega
      case rel => exact ⟨i + 1, t, Lib.hid (by have := HI.out; omega), HT2, by rw [HGC.out], rfl, by go_num, hst⟩
  ·obtain rfl : gk = 0 := by omega
   obtain rfl : i = n := by omega
   have HTA := Lib.hid (show t = takenN ns s by have := HTk.out; rwa [← HL.out, List.take_length] at this)
   have HCA := Lib.hid (show cN ns i = namesC ns by rw [← HL.out]; exact cN_all ns)
   clear hi hin HI HTk HLs HIs HNm HU
   go_upto_region 14 with (go_big_may; (refine L_load1 (d := some 25) rfl rfl rfl (by rfl) Tryd.underlying23 rfl (by (exact cell_of (hst.get 2 rfl) qlArr_1)) ?_))
   go_simp
   go_cut [64] (fun s64 wx => ∃ fB : Bool, Hid (fB = decide (256 ≤ ns.length ∨ lastI ns s = none ∧ 64 ≤ namesC ns)) ∧ s64 = .bool fB ∧ St w wx [.blk g6 39 (qlArr none 0 0 none 0 0), .blk g5 30 k.arr, .blk g3 39 (qlArr K m mc A i c)])
   case first =>
    by_cases hz256 : (256 : Int) ≤ (i : Int)
    ·have HB := Lib.hid (show true = decide (256 ≤ ns.length ∨ lastI ns s = none ∧ 64 ≤ namesC ns) from (decide_eq_true (.inl (by rw [HL.out]; omega))).symm)
     clear hn hs0 htl
     generalize cN ns i = c0 at *
     go_wp2_with ((refine L_load1 (d := some 54) rfl rfl rfl (by rfl) Tryd.underlying23 rfl (by (exact cell_of (hst.get 2 rfl) qlArr_1)) ?_))
     go_meet
     case rel => exact ⟨true, HB, rfl, hst⟩
    cases hla : lastI ns s with
    | none =>
     obtain rfl : z = -1 := by rw [← HZ.out]; unfold lastZ; rw [hla]
     have HB := Lib.hid (show decide ((64 : Int) ≤ (cN ns i : Int)) = decide (256 ≤ ns.length ∨ lastI ns s = none ∧ 64 ≤ namesC ns) by
      rw [hla, ← HCA.out, HL.out]
      by_cases hc : 64 ≤ cN ns i
      ·rw [decide_eq_true (by omega), decide_eq_true (.inr ⟨rfl, hc⟩)]
      ·rw [decide_eq_false (by omega), decide_eq_false]
       rintro (h | h)
       ·omega
       ·exact hc h.2)
     generalize cN ns i = c0 at *
     clear hla hn hs0 htl
     go_wp2_with ((refine L_load1 (d := some 54) rfl rfl rfl (by rfl) Tryd.underlying23 rfl (by (exact cell_of (hst.get 2 rfl) qlArr_1)) ?_))
     go_meet
     case rel => exact ⟨_, HB, rfl, hst⟩
    | some j =>
     obtain rfl : z = (j : Int) := by rw [← HZ.out]; unfold lastZ; rw [hla]
     have HB := Lib.hid (show false = decide (256 ≤ ns.length ∨ lastI ns s = none ∧ 64 ≤ namesC ns) from (decide_eq_false (by
      rintro (h | h)
      ·rw [HL.out] at h; omega
      ·rw [hla] at h; cases h.1)).symm)
     have hj0 : ¬ (j : Int) < 0 := by omega
     generalize cN ns i = c0 at *
     clear hla hn hs0 htl
     go_wp2_with ((refine L_load1 (d := some 54) rfl rfl rfl (by rfl) Tryd.underlying23 rfl (by (exact cell_of (hst.get 2 rfl) qlArr_1)) ?_))
     go_meet
     case rel => exact ⟨false, HB, rfl, hst⟩
   case rest =>
    obtain ⟨fB, HB, rfl, hst⟩ := hcut
    clear HCA
    generalize cN ns i = c0 at *
    cases fB with
    | true =>
     have HR := Lib.hid (HNo.out 4 (addE_4 HNm1.out (of_decide_eq_true HB.out.symm)) (by decide))
     clear HOk HNo HNN htl hs0 hn HB
     go_wp2_with (first | ((refine L_loadA (d := some 65) rfl rfl rfl (by rfl) Tryd.underlying39 rfl el_oathbookref3_Log (by (exact hst.get 2 rfl)) (by (exact qlArr_size _ _ _ _ _ _)) ?_)) | (refine wpl_at (.store 39 (.tmp 6) (.tmp 65)) rfl ?_; (refine L_storeA rfl rfl hst rfl (by rfl) (ev_tmp rfl) (by (exact qlArr_all _ _ _ _ _ _)) el_oathbookref3_Log (by (rfl)) 0 rfl (by (rfl)) ?_; clear hst; intro WS1 hst; simp only [List.set_cons_zero, List.set_cons_succ] at hst)))
     refine bp_cellQ2 rfl rfl rfl rfl rfl (hst.get 0 rfl) Tryd.underlying39 rfl el_oathbookref3_Log (qlArr_size _ _ _ _ _ _) ?_
     exact HR.out _ hst.forget
    | false =>
     have hnf := of_decide_eq_false HB.out.symm
     cases t with
     | true =>
      have HR := Lib.hid (HNo.out 7 (addE_7 HNm1.out hnf HTA.out.symm) (by decide))
      clear HOk HNo HNN htl hs0 hn HB hnf HTA
      go_upto_region 17 with (go_big_may; fail)
      go_wp2_with (first | ((refine L_loadA (d := some 67) rfl rfl rfl (by rfl) Tryd.underlying39 rfl el_oathbookref3_Log (by (exact hst.get 2 rfl)) (by (exact qlArr_size _ _ _ _ _ _)) ?_)) | (refine wpl_at (.store 39 (.tmp 6) (.tmp 67)) rfl ?_; (refine L_storeA rfl rfl hst rfl (by rfl) (ev_tmp rfl) (by (exact qlArr_all _ _ _ _ _ _)) el_oathbookref3_Log (by (rfl)) 0 rfl (by (rfl)) ?_; clear hst; intro WS1 hst; simp only [List.set_cons_zero, List.set_cons_succ] at hst)))
      refine bp_cellQ2 rfl rfl rfl rfl rfl (hst.get 0 rfl) Tryd.underlying39 rfl el_oathbookref3_Log (qlArr_size _ _ _ _ _ _) ?_
      exact HR.out _ hst.forget
     | false =>
      have hle := Nat.lt_of_not_le (fun h => hnf (.inl h))
      rewrite [HL.out] at hle
      obtain ⟨tt, htt⟩ : ∃ tt, tt = turnN ns s := ⟨_, rfl⟩
      rewrite [← htt] at HNN htl
      have HTT := Lib.hid htt
      have HNL := Lib.hid (show notesL ns ++ (ntArr s k tt).toList = notesL (ns ++ [newN ns s k]) by rw [HNN.out, notesL, notesL, List.flatMap_append]; simp [NoteN.arr])
      have hE0 := addE_0 HNm1.out hnf HTA.out.symm
      have HOk1 := Lib.hid (fun w' O oc hs => HOk.out hE0 w' O oc hs)
      generalize hgl : notesL (ns ++ [newN ns s k]) = NL at HNL HOk1
      have ht1 : 0 ≤ tt := htl.1
      have ht2 : tt ≤ 256 := by have := htl.2; rw [HL.out] at this; omega
      clear HNo HOk HNN htl hs0 HB hnf HTA hgl hE0 htt
      go_upto_region 18 with (go_big_may; fail)
      go_upto_region 19 with (go_big_may; first | (refine L_buildN (d := some 70) rfl rfl rfl (ev_tmp rfl) (ev_tmp rfl) ?_) | ((refine L_loadA (d := some 69) rfl rfl rfl (by rfl) Tryd.underlying30 rfl el_api_Digest (by (exact hst.get 1 rfl)) (by (exact Dig.size _)) ?_)) | (refine L_allocA (d := some 14) rfl rfl rfl el_api_Note ?_; (try clear hnew); intro g14 W14 hnew; replace hst := hst.trans hnew; simp only [List.cons_append, List.nil_append] at hst) | (refine wpl_at (.store 35 (.tmp 14) (.tmp 70)) rfl ?_; (refine L_storeA rfl rfl hst rfl (by rfl) (ev_tmp rfl) (by (exact ntArr_all _ _ _)) el_api_Note (by (exact ntArr_size _ _ _)) 0 rfl (by (rfl)) ?_; clear hst; intro WS4 hst; simp only [List.set_cons_zero, List.set_cons_succ] at hst)))
      go_upto_if 72 with (go_big_may; fail)
      (try clear hnew)
      go_simp
      go_cut [] (fun wx => St w wx [.blk g14 35 (ntArr s k tt), .blk g6 39 (qlArr none 0 0 none 0 0), .blk g5 30 k.arr, .blk g3 39 (qlArr K m mc A i c)])
      case first =>
       cases hla : lastI ns s with
       | none =>
        obtain rfl : z = -1 := by rw [← HZ.out]; unfold lastZ; rw [hla]
        have HT0 := Lib.hid (show ntArr s k tt = ntArr s k 0 by rw [HTT.out]; unfold turnN lastN?; rw [hla]; rfl)
        clear hla HTT HNL HOk1
        go_wp2_with fail
        go_meet
        case rel => rw [HT0.out]; exact hst
       | some j =>
        obtain rfl : z = (j : Int) := by rw [← HZ.out]; unfold lastZ; rw [hla]
        have hjl := lastI_lt hla
        have hji : j < i := by rw [← HL.out]; exact hjl
        have HTe := Lib.hid (show tt = ns[j].turn + 1 by rw [HTT.out]; unfold turnN lastN?; rw [hla]; simp only [Option.bind_some, List.getElem?_eq_getElem hjl])
        have HCt := Lib.hid (fun (W : World) (g off : Nat) h => show W.cell? ⟨g, off + (j : Int).toNat * 34 + 33, none⟩ = some (.int .i64 ns[j].turn) from note_cells (W := W) (g := g) (off := off) (i := j) (ns := ns) h hjl 33 _ (by unfold NoteN.arr; rw [Array.getElem?_toList]; exact ntArr_33))
        generalize ns[j].turn = t0 at HCt HTe
        have hj1 : (0 : Int) ≤ (j : Int) := by omega
        have hb1 : -1 ≤ t0 := by have := HTe.out; omega
        have hb2 : t0 ≤ 255 := by have := HTe.out; omega
        clear hla HTT HNL HOk1 hjl ht1 ht2
        go_wp2_with (first | (refine L_load1 (d := some 78) rfl rfl rfl (by rfl) Tryd.underlying3 rfl (HCt.out _ _ _ hr76) ?_) | (refine L_load1 (d := some 74) rfl rfl rfl (by rfl) Tryd.underlying23 rfl (by (exact cell_of (hst.get 3 rfl) qlArr_1)) ?_) | (refine L_idxS (d := some 76) rfl rfl rfl (by rfl) (by rfl) Tryd.underlying23 el_api_Note (by (exact hst.old (by decide) HX.out)) (by omega) (by omega) ?_; intro o76 p76 ha76 hr76; ((subst ha76))) | (refine wpl_at (.store 3 (.tmp 80) (.tmp 79)) rfl ?_; (refine L_store1 rfl rfl hst rfl (by rfl) (ev_tmp rfl) rfl el_int 0 rfl (by (rw [ntArr_size _ _ _]; decide)) ?_; clear hst; intro WS8 hst; simp only [List.set_cons_zero, List.set_cons_succ, ntArr_turn _ _ _ _] at hst)))
        go_meet
        case rel => rw [HTe.out]; exact hst
      case rest =>
       have hst := hcut
       clear hcut HTT HZ
       go_upto_region 22 with (go_big_may; first | (refine L_buildQ0 (d := some 83) rfl rfl rfl (ev_tmp rfl) ?_) | (refine L_load1 (d := some 82) rfl rfl rfl (by rfl) Tryd.underlying22 rfl (by (exact cell_of (hst.get 3 rfl) qlArr_0)) ?_) | (refine L_allocA (d := some 15) rfl rfl rfl el_oathbookref3_Log ?_; (try clear hnew); intro g15 W15 hnew; replace hst := hst.trans hnew; simp only [List.cons_append, List.nil_append] at hst) | (refine wpl_at (.store 39 (.tmp 15) (.tmp 83)) rfl ?_; (refine L_storeA rfl rfl hst rfl (by rfl) (ev_tmp rfl) (by (exact qlArr_all _ _ _ _ _ _)) el_oathbookref3_Log (by (rfl)) 0 rfl (by (rfl)) ?_; clear hst; intro WS4 hst; simp only [List.set_cons_zero, List.set_cons_succ] at hst)))
       go_simp
       go_cut [] (fun wx => ∃ (O : Option Addr) (oc : Nat), St w wx [.blk g15 39 (qlArr K m mc O (i + 1) oc), .blk g6 39 (qlArr none 0 0 none 0 0), .blk g3 39 (qlArr K m mc A i c), .row O (i + 1) oc 35 34 NL])
       case first =>
        refine wp_region_pm (.one 1 0 (.one 2 0 (.two 0 2 (.two 3 1 (.one 4 2 (.one 5 2 (.one 6 1 (.one 7 2 (.one 8 1 .nil))))) 4 2 (.two 3 1 (.one 5 2 (.one 6 1 (.one 7 2 (.one 8 1 .nil)))) 5 2 (.one 3 1 (.one 6 1 (.one 7 2 (.one 8 1 .nil)))))) 4 2 (.two 0 2 (.two 3 1 (.one 5 2 (.one 6 1 (.one 7 2 (.one 8 1 .nil)))) 5 2 (.one 3 1 (.one 6 1 (.one 7 2 (.one 8 1 .nil))))) 5 2 (.one 0 2 (.one 3 1 (.one 6 1 (.one 7 2 (.one 8 1 .nil))))))))) (by kernel_rfl) (by kernel_rfl) ?_
        replace hst := hst.drew
        refine pm_qf rfl rfl (by kernel_rfl) ?_; go_wp2_with fail
        refine pm_q rfl rfl ?_; go_wp2_with ((refine L_load1 (d := some 86) rfl rfl rfl (by rfl) Tryd.underlying23 rfl (by (exact cell_of (hst.get 4 rfl) qlArr_1)) ?_))
        refine pm_two (ki := 2) (kj := 2) rfl rfl ?_ ?_
        ·go_wp2_with ((refine L_buildS (d := some 84) rfl rfl rfl [] (bs_0 ) rfl Tryd.underlying23 el_api_Note rfl (by (simp [Value.cells]; done)) (by decide) (by decide) ?_; (try clear hnew); intro g84 W84 hnew; replace hst := hst.trans hnew; simp only [List.cons_append, List.nil_append] at hst; simp only [List.flatMap_cons, List.flatMap_nil, List.append_nil, Value.cells, List.toList_toArray] at hst)); refine ⟨fun _ => (by (exact hnew.below)), ?_⟩
         refine pm_two (ki := 1) (kj := 2) rfl rfl ?_ ?_
         ·go_wp2_with ((refine L_appendO (d := some 87) rfl rfl hst rfl (by rfl) (by rfl) Tryd.underlying23 el_api_Note rfl (by decide) (by decide) 0 rfl (by (rfl)) (by (exact hst.old (by decide) HX.out)) (by (exact nt_ones _)) (by omega) ?_; clear hst; intro A87 c87 W87 hst; simp only [List.set_cons_zero, List.set_cons_succ, List.nil_append, Nat.zero_add] at hst)); refine ⟨fun h => absurd h (by decide), ?_⟩
          refine pm_g rfl ?_; go_wp2_with (((refine L_loadA (d := some 88) rfl rfl rfl (by rfl) Tryd.underlying35 rfl el_api_Note (by (exact hst.get 2 rfl)) (by (exact ntArr_size _ _ _)) ?_))); refine ⟨by (exact Below.refl _ _), ?_⟩
          refine pm_g rfl ?_; go_wp2_with ((refine L_buildS (d := some 89) rfl rfl rfl [_] (bs_1 (ev_tmp rfl)) rfl Tryd.underlying23 el_api_Note rfl (by (simp [Value.cells]; done)) (by decide) (by decide) ?_; (try clear hnew); intro g89 W89 hnew; replace hst := hst.trans hnew; simp only [List.cons_append, List.nil_append] at hst; simp only [List.flatMap_cons, List.flatMap_nil, List.append_nil, Value.cells, List.toList_toArray] at hst)); refine ⟨by (exact hnew.below), ?_⟩
          refine pm_e rfl ?_; go_wp2_with ((refine L_appendO (d := some 90) rfl rfl hst rfl (by rfl) (by rfl) Tryd.underlying23 el_api_Note rfl (by decide) (by decide) 1 rfl (by (omega)) (by (exact hst.sl 0 rfl)) (by (exact ntArr_one _ _ _)) (by omega) ?_; clear hst; intro A90 c90 W90 hst; simp only [List.set_cons_zero, List.set_cons_succ, List.nil_append, Nat.zero_add] at hst))
          refine pm_g rfl ?_; go_wp2_with fail; refine ⟨by (exact Below.refl _ _), ?_⟩
          refine pm_e rfl ?_; go_wp2_with ((refine wpl_at (.store 23 (.tmp 91) (.tmp 90)) rfl ?_; (refine L_store1 rfl rfl hst rfl (by rfl) (ev_tmp rfl) rfl el_S_api_Note 2 rfl (by (exact of_decide_eq_true rfl)) ?_; clear hst; intro WS8 hst; simp only [List.set_cons_zero, List.set_cons_succ, qlArr_s1 _ _ _] at hst)))
          refine pm_nil ?_
          go_wp2_with fail
          go_meet
          case rel => rewrite [HNL.out] at hst; (exact ⟨_, _, hst.pick [2, 4, 6, 1] (by decide)⟩)
         ·go_wp2_with (((refine L_loadA (d := some 88) rfl rfl rfl (by rfl) Tryd.underlying35 rfl el_api_Note (by (exact hst.get 2 rfl)) (by (exact ntArr_size _ _ _)) ?_))); refine ⟨fun _ => (by (exact Below.refl _ _)), ?_⟩
          refine pm_two (ki := 1) (kj := 2) rfl rfl ?_ ?_
          ·go_wp2_with ((refine L_appendO (d := some 87) rfl rfl hst rfl (by rfl) (by rfl) Tryd.underlying23 el_api_Note rfl (by decide) (by decide) 0 rfl (by (rfl)) (by (exact hst.old (by decide) HX.out)) (by (exact nt_ones _)) (by omega) ?_; clear hst; intro A87 c87 W87 hst; simp only [List.set_cons_zero, List.set_cons_succ, List.nil_append, Nat.zero_add] at hst)); refine ⟨fun h => absurd h (by decide), ?_⟩
           refine pm_g rfl ?_; go_wp2_with ((refine L_buildS (d := some 89) rfl rfl rfl [_] (bs_1 (ev_tmp rfl)) rfl Tryd.underlying23 el_api_Note rfl (by (simp [Value.cells]; done)) (by decide) (by decide) ?_; (try clear hnew); intro g89 W89 hnew; replace hst := hst.trans hnew; simp only [List.cons_append, List.nil_append] at hst; simp only [List.flatMap_cons, List.flatMap_nil, List.append_nil, Value.cells, List.toList_toArray] at hst)); refine ⟨by (exact hnew.below), ?_⟩
           refine pm_e rfl ?_; go_wp2_with ((refine L_appendO (d := some 90) rfl rfl hst rfl (by rfl) (by rfl) Tryd.underlying23 el_api_Note rfl (by decide) (by decide) 1 rfl (by (omega)) (by (exact hst.sl 0 rfl)) (by (exact ntArr_one _ _ _)) (by omega) ?_; clear hst; intro A90 c90 W90 hst; simp only [List.set_cons_zero, List.set_cons_succ, List.nil_append, Nat.zero_add] at hst))
           refine pm_g rfl ?_; go_wp2_with fail; refine ⟨by (exact Below.refl _ _), ?_⟩
           refine pm_e rfl ?_; go_wp2_with ((refine wpl_at (.store 23 (.tmp 91) (.tmp 90)) rfl ?_; (refine L_store1 rfl rfl hst rfl (by rfl) (ev_tmp rfl) rfl el_S_api_Note 2 rfl (by (exact of_decide_eq_true rfl)) ?_; clear hst; intro WS8 hst; simp only [List.set_cons_zero, List.set_cons_succ, qlArr_s1 _ _ _] at hst)))
           refine pm_nil ?_
           go_wp2_with fail
           go_meet
           case rel => rewrite [HNL.out] at hst; (exact ⟨_, _, hst.pick [2, 4, 6, 1] (by decide)⟩)
          ·go_wp2_with ((refine L_buildS (d := some 89) rfl rfl rfl [_] (bs_1 (ev_tmp rfl)) rfl Tryd.underlying23 el_api_Note rfl (by (simp [Value.cells]; done)) (by decide) (by decide) ?_; (try clear hnew); intro g89 W89 hnew; replace hst := hst.trans hnew; simp only [List.cons_append, List.nil_append] at hst; simp only [List.flatMap_cons, List.flatMap_nil, List.append_nil, Value.cells, List.toList_toArray] at hst)); refine ⟨fun _ => (by (exact hnew.below)), ?_⟩
           refine pm_e rfl ?_; go_wp2_with ((refine L_appendO (d := some 87) rfl rfl hst rfl (by rfl) (by rfl) Tryd.underlying23 el_api_Note rfl (by decide) (by decide) 1 rfl (by (rfl)) (by (exact hst.old (by decide) HX.out)) (by (exact nt_ones _)) (by omega) ?_; clear hst; intro A87 c87 W87 hst; simp only [List.set_cons_zero, List.set_cons_succ, List.nil_append, Nat.zero_add] at hst))
           refine pm_e rfl ?_; go_wp2_with ((refine L_appendO (d := some 90) rfl rfl hst rfl (by rfl) (by rfl) Tryd.underlying23 el_api_Note rfl (by decide) (by decide) 1 rfl (by (omega)) (by (exact hst.sl 0 rfl)) (by (exact ntArr_one _ _ _)) (by omega) ?_; clear hst; intro A90 c90 W90 hst; simp only [List.set_cons_zero, List.set_cons_succ, List.nil_append, Nat.zero_add] at hst))
           refine pm_g rfl ?_; go_wp2_with fail; refine ⟨by (exact Below.refl _ _), ?_⟩
           refine pm_e rfl ?_; go_wp2_with ((refine wpl_at (.store 23 (.tmp 91) (.tmp 90)) rfl ?_; (refine L_store1 rfl rfl hst rfl (by rfl) (ev_tmp rfl) rfl el_S_api_Note 2 rfl (by (exact of_decide_eq_true rfl)) ?_; clear hst; intro WS8 hst; simp only [List.set_cons_zero, List.set_cons_succ, qlArr_s1 _ _ _] at hst)))
           refine pm_nil ?_
           go_wp2_with fail
           go_meet
           case rel => rewrite [HNL.out] at hst; (exact ⟨_, _, hst.pick [2, 4, 6, 1] (by decide)⟩)
        ·go_wp2_with (((refine L_loadA (d := some 88) rfl rfl rfl (by rfl) Tryd.underlying35 rfl el_api_Note (by (exact hst.get 1 rfl)) (by (exact ntArr_size _ _ _)) ?_))); refine ⟨fun _ => (by (exact Below.refl _ _)), ?_⟩
         refine pm_two (ki := 2) (kj := 2) rfl rfl ?_ ?_
         ·go_wp2_with ((refine L_buildS (d := some 84) rfl rfl rfl [] (bs_0 ) rfl Tryd.underlying23 el_api_Note rfl (by (simp [Value.cells]; done)) (by decide) (by decide) ?_; (try clear hnew); intro g84 W84 hnew; replace hst := hst.trans hnew; simp only [List.cons_append, List.nil_append] at hst; simp only [List.flatMap_cons, List.flatMap_nil, List.append_nil, Value.cells, List.toList_toArray] at hst)); refine ⟨fun _ => (by (exact hnew.below)), ?_⟩
          refine pm_two (ki := 1) (kj := 2) rfl rfl ?_ ?_
          ·go_wp2_with ((refine L_appendO (d := some 87) rfl rfl hst rfl (by rfl) (by rfl) Tryd.underlying23 el_api_Note rfl (by decide) (by decide) 0 rfl (by (rfl)) (by (exact hst.old (by decide) HX.out)) (by (exact nt_ones _)) (by omega) ?_; clear hst; intro A87 c87 W87 hst; simp only [List.set_cons_zero, List.set_cons_succ, List.nil_append, Nat.zero_add] at hst)); refine ⟨fun h => absurd h (by decide), ?_⟩
           refine pm_g rfl ?_; go_wp2_with ((refine L_buildS (d := some 89) rfl rfl rfl [_] (bs_1 (ev_tmp rfl)) rfl Tryd.underlying23 el_api_Note rfl (by (simp [Value.cells]; done)) (by decide) (by decide) ?_; (try clear hnew); intro g89 W89 hnew; replace hst := hst.trans hnew; simp only [List.cons_append, List.nil_append] at hst; simp only [List.flatMap_cons, List.flatMap_nil, List.append_nil, Value.cells, List.toList_toArray] at hst)); refine ⟨by (exact hnew.below), ?_⟩
           refine pm_e rfl ?_; go_wp2_with ((refine L_appendO (d := some 90) rfl rfl hst rfl (by rfl) (by rfl) Tryd.underlying23 el_api_Note rfl (by decide) (by decide) 1 rfl (by (omega)) (by (exact hst.sl 0 rfl)) (by (exact ntArr_one _ _ _)) (by omega) ?_; clear hst; intro A90 c90 W90 hst; simp only [List.set_cons_zero, List.set_cons_succ, List.nil_append, Nat.zero_add] at hst))
           refine pm_g rfl ?_; go_wp2_with fail; refine ⟨by (exact Below.refl _ _), ?_⟩
           refine pm_e rfl ?_; go_wp2_with ((refine wpl_at (.store 23 (.tmp 91) (.tmp 90)) rfl ?_; (refine L_store1 rfl rfl hst rfl (by rfl) (ev_tmp rfl) rfl el_S_api_Note 2 rfl (by (exact of_decide_eq_true rfl)) ?_; clear hst; intro WS8 hst; simp only [List.set_cons_zero, List.set_cons_succ, qlArr_s1 _ _ _] at hst)))
           refine pm_nil ?_
           go_wp2_with fail
           go_meet
           case rel => rewrite [HNL.out] at hst; (exact ⟨_, _, hst.pick [2, 4, 6, 1] (by decide)⟩)
          ·go_wp2_with ((refine L_buildS (d := some 89) rfl rfl rfl [_] (bs_1 (ev_tmp rfl)) rfl Tryd.underlying23 el_api_Note rfl (by (simp [Value.cells]; done)) (by decide) (by decide) ?_; (try clear hnew); intro g89 W89 hnew; replace hst := hst.trans hnew; simp only [List.cons_append, List.nil_append] at hst; simp only [List.flatMap_cons, List.flatMap_nil, List.append_nil, Value.cells, List.toList_toArray] at hst)); refine ⟨fun _ => (by (exact hnew.below)), ?_⟩
           refine pm_e rfl ?_; go_wp2_with ((refine L_appendO (d := some 87) rfl rfl hst rfl (by rfl) (by rfl) Tryd.underlying23 el_api_Note rfl (by decide) (by decide) 1 rfl (by (rfl)) (by (exact hst.old (by decide) HX.out)) (by (exact nt_ones _)) (by omega) ?_; clear hst; intro A87 c87 W87 hst; simp only [List.set_cons_zero, List.set_cons_succ, List.nil_append, Nat.zero_add] at hst))
           refine pm_e rfl ?_; go_wp2_with ((refine L_appendO (d := some 90) rfl rfl hst rfl (by rfl) (by rfl) Tryd.underlying23 el_api_Note rfl (by decide) (by decide) 1 rfl (by (omega)) (by (exact hst.sl 0 rfl)) (by (exact ntArr_one _ _ _)) (by omega) ?_; clear hst; intro A90 c90 W90 hst; simp only [List.set_cons_zero, List.set_cons_succ, List.nil_append, Nat.zero_add] at hst))
           refine pm_g rfl ?_; go_wp2_with fail; refine ⟨by (exact Below.refl _ _), ?_⟩
           refine pm_e rfl ?_; go_wp2_with ((refine wpl_at (.store 23 (.tmp 91) (.tmp 90)) rfl ?_; (refine L_store1 rfl rfl hst rfl (by rfl) (ev_tmp rfl) rfl el_S_api_Note 2 rfl (by (exact of_decide_eq_true rfl)) ?_; clear hst; intro WS8 hst; simp only [List.set_cons_zero, List.set_cons_succ, qlArr_s1 _ _ _] at hst)))
           refine pm_nil ?_
           go_wp2_with fail
           go_meet
           case rel => rewrite [HNL.out] at hst; (exact ⟨_, _, hst.pick [2, 4, 6, 1] (by decide)⟩)
         ·go_wp2_with ((refine L_buildS (d := some 89) rfl rfl rfl [_] (bs_1 (ev_tmp rfl)) rfl Tryd.underlying23 el_api_Note rfl (by (simp [Value.cells]; done)) (by decide) (by decide) ?_; (try clear hnew); intro g89 W89 hnew; replace hst := hst.trans hnew; simp only [List.cons_append, List.nil_append] at hst; simp only [List.flatMap_cons, List.flatMap_nil, List.append_nil, Value.cells, List.toList_toArray] at hst)); refine ⟨fun _ => (by (exact hnew.below)), ?_⟩
          refine pm_g rfl ?_; go_wp2_with ((refine L_buildS (d := some 84) rfl rfl rfl [] (bs_0 ) rfl Tryd.underlying23 el_api_Note rfl (by (simp [Value.cells]; done)) (by decide) (by decide) ?_; (try clear hnew); intro g84 W84 hnew; replace hst := hst.trans hnew; simp only [List.cons_append, List.nil_append] at hst; simp only [List.flatMap_cons, List.flatMap_nil, List.append_nil, Value.cells, List.toList_toArray] at hst)); refine ⟨by (exact hnew.below), ?_⟩
          refine pm_e rfl ?_; go_wp2_with ((refine L_appendO (d := some 87) rfl rfl hst rfl (by rfl) (by rfl) Tryd.underlying23 el_api_Note rfl (by decide) (by decide) 0 rfl (by (rfl)) (by (exact hst.old (by decide) HX.out)) (by (exact nt_ones _)) (by omega) ?_; clear hst; intro A87 c87 W87 hst; simp only [List.set_cons_zero, List.set_cons_succ, List.nil_append, Nat.zero_add] at hst))
          refine pm_e rfl ?_; go_wp2_with ((refine L_appendO (d := some 90) rfl rfl hst rfl (by rfl) (by rfl) Tryd.underlying23 el_api_Note rfl (by decide) (by decide) 0 rfl (by (omega)) (by (exact hst.sl 1 rfl)) (by (exact ntArr_one _ _ _)) (by omega) ?_; clear hst; intro A90 c90 W90 hst; simp only [List.set_cons_zero, List.set_cons_succ, List.nil_append, Nat.zero_add] at hst))
          refine pm_g rfl ?_; go_wp2_with fail; refine ⟨by (exact Below.refl _ _), ?_⟩
          refine pm_e rfl ?_; go_wp2_with ((refine wpl_at (.store 23 (.tmp 91) (.tmp 90)) rfl ?_; (refine L_store1 rfl rfl hst rfl (by rfl) (ev_tmp rfl) rfl el_S_api_Note 2 rfl (by (exact of_decide_eq_true rfl)) ?_; clear hst; intro WS8 hst; simp only [List.set_cons_zero, List.set_cons_succ, qlArr_s1 _ _ _] at hst)))
          refine pm_nil ?_
          go_wp2_with fail
          go_meet
          case rel => rewrite [HNL.out] at hst; (exact ⟨_, _, hst.pick [2, 4, 6, 0] (by decide)⟩)
       case rest =>
        obtain ⟨O, oc, hst⟩ := hcut
        go_wp2_with fail
        refine wp_region_pm (.one 0 0 (.two 1 2 (.two 2 2 (.two 3 2 (.one 4 1 (.one 5 2 (.one 6 2 .nil))) 4 1 (.one 3 2 (.one 5 2 (.one 6 2 .nil)))) 4 1 (.one 2 2 (.one 3 2 (.one 5 2 (.one 6 2 .nil))))) 4 1 (.one 1 2 (.one 2 2 (.one 3 2 (.one 5 2 (.one 6 2 .nil))))))) (by kernel_rfl) (by kernel_rfl) ?_
        replace hst := hst.drew
        refine pm_q rfl rfl ?_; go_wp2_with (((refine L_loadA (d := some 92) rfl rfl rfl (by rfl) Tryd.underlying39 rfl el_oathbookref3_Log (by (exact hst.get 0 rfl)) (by (exact qlArr_size _ _ _ _ _ _)) ?_)))
        refine pm_two (ki := 2) (kj := 1) rfl rfl ?_ ?_
        ·go_wp2_with fail; refine ⟨fun _ => (by (exact Below.refl _ _)), ?_⟩
         refine pm_two (ki := 2) (kj := 1) rfl rfl ?_ ?_
         ·go_wp2_with ((refine L_load1 (d := some 94) rfl rfl rfl (by rfl) Tryd.underlying23 rfl (by (exact cell_of (hst.get 2 rfl) qlArr_1)) ?_)); refine ⟨fun _ => (by (exact Below.refl _ _)), ?_⟩
          refine pm_two (ki := 2) (kj := 1) rfl rfl ?_ ?_
          ·go_wp2_with fail; refine ⟨fun _ => (by (exact Below.refl _ _)), ?_⟩
           refine pm_e rfl ?_; go_wp2_with ((refine wpl_at (.store 39 (.tmp 6) (.tmp 92)) rfl ?_; (refine L_storeA rfl rfl hst rfl (by rfl) (ev_tmp rfl) (by (exact qlArr_all _ _ _ _ _ _)) el_oathbookref3_Log (by (rfl)) 1 rfl (by (rfl)) ?_; clear hst; intro WS4 hst; simp only [List.set_cons_zero, List.set_cons_succ] at hst)))
           refine pm_g rfl ?_; go_wp2_with fail; refine ⟨by (exact Below.refl _ _), ?_⟩
           refine pm_g rfl ?_; go_wp2_with fail; refine ⟨by (exact Below.refl _ _), ?_⟩
           refine pm_nil ?_
           go_wp2_with fail
           refine bp_cellQ2 rfl rfl rfl rfl rfl (hst.get 1 rfl) Tryd.underlying39 rfl el_oathbookref3_Log (qlArr_size _ _ _ _ _ _) ?_
           exact HOk1.out _ _ _ (hst.pick [3] (by decide))
          ·go_wp2_with ((refine wpl_at (.store 39 (.tmp 6) (.tmp 92)) rfl ?_; (refine L_storeA rfl rfl hst rfl (by rfl) (ev_tmp rfl) (by (exact qlArr_all _ _ _ _ _ _)) el_oathbookref3_Log (by (rfl)) 1 rfl (by (rfl)) ?_; clear hst; intro WS4 hst; simp only [List.set_cons_zero, List.set_cons_succ] at hst))); refine ⟨fun h => absurd h (by decide), ?_⟩
           refine pm_g rfl ?_; go_wp2_with fail; refine ⟨by (exact Below.refl _ _), ?_⟩
           refine pm_g rfl ?_; go_wp2_with fail; refine ⟨by (exact Below.refl _ _), ?_⟩
           refine pm_g rfl ?_; go_wp2_with fail; refine ⟨by (exact Below.refl _ _), ?_⟩
           refine pm_nil ?_
           go_wp2_with fail
           refine bp_cellQ2 rfl rfl rfl rfl rfl (hst.get 1 rfl) Tryd.underlying39 rfl el_oathbookref3_Log (qlArr_size _ _ _ _ _ _) ?_
           exact HOk1.out _ _ _ (hst.pick [3] (by decide))
         ·go_wp2_with ((refine wpl_at (.store 39 (.tmp 6) (.tmp 92)) rfl ?_; (refine L_storeA rfl rfl hst rfl (by rfl) (ev_tmp rfl) (by (exact qlArr_all _ _ _ _ _ _)) el_oathbookref3_Log (by (rfl)) 1 rfl (by (rfl)) ?_; clear hst; intro WS4 hst; simp only [List.set_cons_zero, List.set_cons_succ] at hst))); refine ⟨fun h => absurd h (by decide), ?_⟩
          refine pm_g rfl ?_; go_wp2_with ((refine L_load1 (d := some 94) rfl rfl rfl (by rfl) Tryd.underlying23 rfl (by (exact cell_of (hst.get 2 rfl) qlArr_1)) ?_)); refine ⟨by (exact Below.refl _ _), ?_⟩
          refine pm_g rfl ?_; go_wp2_with fail; refine ⟨by (exact Below.refl _ _), ?_⟩
          refine pm_g rfl ?_; go_wp2_with fail; refine ⟨by (exact Below.refl _ _), ?_⟩
          refine pm_g rfl ?_; go_wp2_with fail; refine ⟨by (exact Below.refl _ _), ?_⟩
          refine pm_nil ?_
          go_wp2_with fail
          refine bp_cellQ2 rfl rfl rfl rfl rfl (hst.get 1 rfl) Tryd.underlying39 rfl el_oathbookref3_Log (qlArr_size _ _ _ _ _ _) ?_
          exact HOk1.out _ _ _ (hst.pick [3] (by decide))
        ·go_wp2_with ((refine wpl_at (.store 39 (.tmp 6) (.tmp 92)) rfl ?_; (refine L_storeA rfl rfl hst rfl (by rfl) (ev_tmp rfl) (by (exact qlArr_all _ _ _ _ _ _)) el_oathbookref3_Log (by (rfl)) 1 rfl (by (rfl)) ?_; clear hst; intro WS4 hst; simp only [List.set_cons_zero, List.set_cons_succ] at hst))); refine ⟨fun h => absurd h (by decide), ?_⟩
         refine pm_g rfl ?_; go_wp2_with fail; refine ⟨by (exact Below.refl _ _), ?_⟩
         refine pm_g rfl ?_; go_wp2_with ((refine L_load1 (d := some 94) rfl rfl rfl (by rfl) Tryd.underlying23 rfl (by (exact cell_of (hst.get 2 rfl) qlArr_1)) ?_)); refine ⟨by (exact Below.refl _ _), ?_⟩
         refine pm_g rfl ?_; go_wp2_with fail; refine ⟨by (exact Below.refl _ _), ?_⟩
         refine pm_g rfl ?_; go_wp2_with fail; refine ⟨by (exact Below.refl _ _), ?_⟩
         refine pm_g rfl ?_; go_wp2_with fail; refine ⟨by (exact Below.refl _ _), ?_⟩
         refine pm_nil ?_
         go_wp2_with fail
         refine bp_cellQ2 rfl rfl rfl rfl rfl (hst.get 1 rfl) Tryd.underlying39 rfl el_oathbookref3_Log (qlArr_size _ _ _ _ _ _) ?_
         exact HOk1.out _ _ _ (hst.pick [3] (by decide))
theorem radded_any (K : Option Addr) (m mc : Nat) (ns : List NoteN) (s : List UInt8) (k : Dig) (A : Option Addr) (n c : Nat) (w : World) (hx : SlR w A n c 34 (notesL ns)) (hg : Logged ns) (h0 : addE ns s = 0) :
  Calls Tryd.prog 41 #[.agg (qlArr K m mc A n c), .string (bsOf s), k.v] w fun e w' => ∃ O oc, e = .returned (.tuple #[.agg (qlArr K m mc O (n + 1) oc), .int .i64 (n : Int), .int .i64 0]) ∧ St w w' [.row O (n + 1) oc 35 34 (notesL (ns ++ [newN ns s k]))] :=
 radded_gen K m mc ns s k A n c w hx hg (by have := (isNm_len (addE_zero h0).1).2; omega) _ (fun _ _ O oc h => ⟨O, oc, rfl, h⟩) (fun r h hr => absurd (h.symm.trans h0) hr)
end Go.Proofs.YtaebeemnipafbaaDoor

set_option linter.unusedSimpArgs false
set_option linter.unusedVariables false
namespace Go.Proofs.YtaebeemnipafbaaDoor
open Go.RowKit
attribute [local simp] ntArr_size
set_option maxHeartbeats 8000000 in
set_option maxRecDepth 100000 in
theorem logged_any (w : World) (hT : Tb w) (key : List UInt8) (K : Option Addr) (m mc : Nat) (hk : SlR w K m mc 1 (bytesL key)) (hm : m ≤ 140737488355000) (ns : List NoteN) (A : Option Addr) (n nc : Nat) (hx : SlR w A n nc 34 (notesL ns)) (hn : n ≤ 256) :
  Calls Tryd.prog 12 #[.slice K m mc, .slice A n nc] w fun e w' => ∃ (p : LgP) (N : List NoteN) (O : Option Addr) (oc : Nat), e = .returned (.tuple #[.pointer (some ⟨p.g, 0, none⟩), .slice O N.length oc]) ∧
   Logged N ∧ MapsOf N p.nm p.am ∧ p.m = m ∧ St w w' (lgL p key N ++ [.row O N.length oc 35 34 (notesL N)]) := by
 have hst := St.refl w
 have HT := Lib.hid hT
 have hl : ns.length = n := by have := hx.1; rw [length_notesL] at this; omega
 have HX := Lib.hid hx
 have HK := Lib.hid hk
 have HL := Lib.hid hl
 have HG := Lib.hid (fun w' (h : SlR w' K m mc 1 (bytesL key)) => lnew_any key K m mc w' h (by omega))
 clear hT hx hk hl
 go_enter Tryd.func12, Tryd.ntmps12
 go_upto_region 1 with (go_big_may; fail)
 go_upto_region 2 with (go_big_may; (go_at_call 22; refine (HG.out _ (hst.old (by decide) HK.out)).mono ?_; rintro e Wl ⟨p, rfl, hpm, hmp, hnew⟩; replace hst := hst.trans hnew; clear hnew))
 go_upto_region 3 with (go_big_may; fail)
 go_upto_region 5 with (go_big_may; fail)
 go_upto_region 6 with (go_big_may; first | (refine L_buildQ0 (d := some 20) rfl rfl rfl (ev_tmp rfl) ?_) | (refine L_allocA (d := some 8) rfl rfl rfl el_oathbookref3_Log ?_; (try clear hnew); intro g8 W8 hnew; replace hst := hst.trans hnew; simp only [List.cons_append, List.nil_append] at hst) | (refine wpl_at (.store 39 (.tmp 8) (.tmp 20)) rfl ?_; (refine L_storeA rfl rfl hst rfl (by rfl) (ev_tmp rfl) (by (exact qlArr_all _ _ _ _ _ _)) el_oathbookref3_Log (by (rfl)) 0 rfl (by (rfl)) ?_; clear hst; intro WS3 hst; simp only [List.set_cons_zero, List.set_cons_succ] at hst)))
 go_wp2_with (fail)
 clear HG
 obtain ⟨gl, hgl⟩ : ∃ g, g = p.g := ⟨_, rfl⟩
 rw [← hgl]
 replace hst := hst.nilRow 35 34
 go_loopg [9] n (fun gk s9 wr => ∃ (i : Nat) (N : List NoteN) (q : LgP) (O : Option Addr) (oc : Nat), Hid (gk + i = n) ∧ Hid (Logged N ∧ MapsOf N q.nm q.am ∧ q.g = gl ∧ q.m = m) ∧ s9 = .int .i64 (i : Int) ∧ St w wr (.blk g8 39 (qlArr K m mc O N.length oc) :: .row O N.length oc 35 34 (notesL N) :: lgL q key N))
 case atStart => exact ⟨0, [], p, none, 0, Lib.hid rfl, Lib.hid ⟨.nil, hmp, hgl.symm, hpm⟩, rfl, hst.pick [1, 0, 2, 3, 4, 5, 6] (by decide)⟩
 case round =>
  clear hst hmp hpm hgl
  obtain ⟨i, N, q, O, oc, HI, HV, rfl, hst⟩ := hrel
  have hi := HI.out
  by_cases hlt : i < n
  ·obtain ⟨g, rfl⟩ : ∃ g, gk = g + 1 := ⟨gk - 1, by omega⟩
   have hil : i < ns.length := by rw [HL.out]; exact hlt
   have HC := Lib.hid (fun (W : World) (g off : Nat) h => note_name (W := W) (g := g) (off := off) (i := i) (ns := ns) h hil)
   have HC2 := Lib.hid (fun (W : World) (g off : Nat) h => note_key (W := W) (g := g) (off := off) (i := i) (ns := ns) h hil)
   obtain ⟨s, hs⟩ : ∃ q, q = ns[i].name := ⟨_, rfl⟩
   obtain ⟨k, hkk⟩ : ∃ q, q = ns[i].key := ⟨_, rfl⟩
   rw [← hs] at HC
   rw [← hkk] at HC2
   clear hs hkk hil
   obtain ⟨v3, v4, v5, v6⟩ := HV.out
   have HA := Lib.hid (fun (w' : World) (L : List Res) h => addU_any key N s k q w w' L HT.out h v4 v3)
   rw [v5, v6] at HA
   have v3' := v3.addL s k
   have HAd := Lib.hid (fun (w' : World) h0 h => radded_any K m mc N s k O N.length oc w' h v3 h0)
   replace hst := St.swap (X := [_, _]) (Y := lgL q key N) (L := []) (by rw [List.append_nil]; exact hst)
   by_cases h0 : addE N s = 0
   ·simp only [h0, if_true] at HA
    have hN1 : addL N s k = N ++ [newN N s k] := if_pos h0
    have HAe := Lib.hid (fun w' h => HAd.out w' h0 h)
    rw [← hN1] at HAe
    have hlen : (addL N s k).length = N.length + 1 := by rw [hN1]; simp
    generalize addL N s k = N1 at *
    rw [← hlen] at HAe
    clear h0 v3 v4 v5 v6 hi HAd hN1 hlen
    go_upto_region 9 with (go_big_may; fail)
    refine wp_region_idxT [(0, 0), (1, 0), (2, 0), (3, 0), (4, 0), (5, 0), (6, 0), (7, 2), (8, 2), (9, 2), (10, 2), (11, 1), (12, 2), (13, 0), (14, 0), (15, 2), (16, 2)] (by kernel_rfl) (by kernel_rfl) ?_
    replace hst := hst.drew
    refine idx_q rfl rfl ?_; go_wp2_with fail
    refine idx_q rfl rfl ?_; go_wp2_with fail
    refine idx_q rfl rfl ?_; go_wp2_with fail
    refine idx_q rfl rfl ?_; go_wp2_with ((refine L_idxS (d := some 31) rfl rfl rfl (by rfl) (by rfl) Tryd.underlying23 el_api_Note (by (exact hst.old (by decide) HX.out)) (by omega) (by omega) ?_; intro o31 p31 ha31 hr31; ((subst ha31))))
    refine idx_qf rfl rfl (by kernel_rfl) ?_; go_wp2_with fail
    refine idx_q rfl rfl ?_; go_wp2_with ((refine L_load1 (d := some 33) rfl rfl rfl (by rfl) Tryd.underlying9 rfl (HC.out _ _ _ hr31) ?_))
    refine idx_q rfl rfl ?_; go_wp2_with fail
    refine idx_g rfl ?_; go_wp2_with fail; refine ⟨by (exact Below.refl _ _), ?_⟩
    refine idx_g rfl ?_; go_wp2_with ((refine L_idxS (d := some 36) rfl rfl rfl (by rfl) (by rfl) Tryd.underlying23 el_api_Note (by (exact hst.old (by decide) HX.out)) (by omega) (by omega) ?_; intro o36 p36 ha36 hr36; ((obtain ⟨h1, h2⟩ := some_addr ha36; subst h1; subst h2; clear ha36)))); refine ⟨by (exact Below.refl _ _), ?_⟩
    refine idx_g rfl ?_; go_wp2_with fail; refine ⟨by (exact Below.refl _ _), ?_⟩
    refine idx_g rfl ?_; go_wp2_with ((refine L_loadM (d := some 38) rfl rfl rfl (by rfl) Tryd.underlying30 rfl el_api_Digest (HC2.out _ _ _ hr36) (Dig.size _) ?_)); refine ⟨by (exact Below.refl _ _), ?_⟩
    refine idx_e rfl ?_; go_wp2_with ((go_at_call 24; refine (HA.out _ _ hst).mono ?_; rintro e Wa ⟨rfl, q1, u1, u2, u3, hst'⟩; clear hst; have hst := hst'; clear hst'))
    refine idx_g rfl ?_; go_wp2_with fail; refine ⟨by (exact Below.refl _ _), ?_⟩
    refine idx_q rfl rfl ?_; go_wp2_with fail
    refine idx_q rfl rfl ?_; go_wp2_with fail
    refine idx_g rfl ?_; go_wp2_with fail; refine ⟨by (exact Below.refl _ _), ?_⟩
    refine idx_g rfl ?_; go_wp2_with fail; refine ⟨by (exact Below.refl _ _), ?_⟩
    refine idx_nil ?_
    go_upto_region 11 with (go_big_may; fail)
    simp only [lgL, List.cons_append, List.nil_append, List.append_nil] at hst
    go_simp
    go_cut [12] (fun s12 wx => ∃ (g12 : Nat) (O1 : Option Addr) (o1 : Nat), s12 = .pointer (some ⟨g12, 0, none⟩) ∧ St w wx (.blk g12 39 (qlArr K m mc O1 N1.length o1) :: .blk g8 39 (qlArr K m mc O N.length oc) :: .row O1 N1.length o1 35 34 (notesL N1) :: lgL q1 key N1))
    case first =>
     refine wp_region_pm (.one 1 3 (.one 2 3 (.one 6 3 (.one 7 3 (.one 0 0 (.one 3 0 (.one 4 0 (.one 5 0 (.one 8 0 (.one 9 0 (.one 10 0 (.two 11 2 (.one 12 3 (.one 13 3 (.one 14 3 (.one 15 3 (.one 16 2 (.one 17 1 (.one 18 2 (.one 19 2 .nil)))))))) 16 2 (.one 11 2 (.one 12 2 (.one 13 3 (.one 14 3 (.one 15 3 (.one 17 1 (.one 18 2 (.one 19 2 .nil)))))))))))))))))))) (by kernel_rfl) (by kernel_rfl) ?_
     replace hst := hst.drew
     refine pm_p rfl rfl ?_; go_wp2_with fail
     refine pm_p rfl rfl ?_; go_wp2_with fail
     refine pm_p rfl rfl ?_; go_wp2_with fail
     refine pm_p rfl rfl ?_; go_wp2_with fail
     refine pm_q rfl rfl ?_; go_wp2_with (((refine L_loadA (d := some 45) rfl rfl rfl (by rfl) Tryd.underlying39 rfl el_oathbookref3_Log (by (exact hst.get 5 rfl)) (by (exact qlArr_size _ _ _ _ _ _)) ?_)))
     refine pm_q rfl rfl ?_; go_wp2_with ((refine L_idxS (d := some 48) rfl rfl rfl (by rfl) (by rfl) Tryd.underlying23 el_api_Note (by (exact hst.old (by decide) HX.out)) (by omega) (by omega) ?_; intro o48 p48 ha48 hr48; ((obtain ⟨h1, h2⟩ := some_addr ha48; subst h1; subst h2; clear ha48))))
     refine pm_qf rfl rfl (by kernel_rfl) ?_; go_wp2_with fail
     refine pm_q rfl rfl ?_; go_wp2_with ((refine L_load1 (d := some 50) rfl rfl rfl (by rfl) Tryd.underlying9 rfl (HC.out _ _ _ hr48) ?_))
     refine pm_q rfl rfl ?_; go_wp2_with ((refine L_idxS (d := some 53) rfl rfl rfl (by rfl) (by rfl) Tryd.underlying23 el_api_Note (by (exact hst.old (by decide) HX.out)) (by omega) (by omega) ?_; intro o53 p53 ha53 hr53; ((obtain ⟨h1, h2⟩ := some_addr ha53; subst h1; subst h2; clear ha53))))
     refine pm_qf rfl rfl (by kernel_rfl) ?_; go_wp2_with fail
     refine pm_q rfl rfl ?_; go_wp2_with ((refine L_loadM (d := some 55) rfl rfl rfl (by rfl) Tryd.underlying30 rfl el_api_Digest (HC2.out _ _ _ hr53) (Dig.size _) ?_))
     refine pm_two (ki := 2) (kj := 2) rfl rfl ?_ ?_
     ·go_wp2_with ((go_at_call 41; (try clear hnew); refine (HAe.out _ (by (exact hst.sl 6 rfl))).mono ?_; rintro e Wd ⟨O1, o1, rfl, hnew⟩; replace hst := hst.trans hnew; simp only [List.cons_append, List.nil_append] at hst)); refine ⟨fun _ => (by (exact hnew.below)), ?_⟩
      refine pm_p rfl rfl ?_; go_wp2_with fail
      refine pm_p rfl rfl ?_; go_wp2_with fail
      refine pm_p rfl rfl ?_; go_wp2_with fail
      refine pm_p rfl rfl ?_; go_wp2_with fail
      refine pm_g rfl ?_; go_wp2_with ((refine L_allocA (d := some 12) rfl rfl rfl el_oathbookref3_Log ?_; (try clear hnew); intro g12 W12 hnew; replace hst := hst.trans hnew; simp only [List.cons_append, List.nil_append] at hst)); refine ⟨by (exact hnew.below), ?_⟩
      refine pm_e rfl ?_; go_wp2_with ((refine wpl_at (.store 39 (.tmp 12) (.tmp 57)) rfl ?_; (refine L_storeA rfl rfl hst rfl (by rfl) (ev_tmp rfl) (by (exact qlArr_all _ _ _ _ _ _)) el_oathbookref3_Log (by (rfl)) 0 rfl (by (rfl)) ?_; clear hst; intro WS17 hst; simp only [List.set_cons_zero, List.set_cons_succ] at hst)))
      refine pm_g rfl ?_; go_wp2_with fail; refine ⟨by (exact Below.refl _ _), ?_⟩
      refine pm_g rfl ?_; go_wp2_with fail; refine ⟨by (exact Below.refl _ _), ?_⟩
      refine pm_nil ?_
      go_wp2_with fail
      go_meet
      case rel => (exact ⟨_, _, _, rfl, hst.pick [0, 7, 1, 2, 3, 4, 5, 6] (by decide)⟩)
     ·go_wp2_with ((refine L_allocA (d := some 12) rfl rfl rfl el_oathbookref3_Log ?_; (try clear hnew); intro g12 W12 hnew; replace hst := hst.trans hnew; simp only [List.cons_append, List.nil_append] at hst)); refine ⟨fun _ => (by (exact hnew.below)), ?_⟩
      refine pm_g rfl ?_; go_wp2_with ((go_at_call 41; (try clear hnew); refine (HAe.out _ (by (exact hst.sl 7 rfl))).mono ?_; rintro e Wd ⟨O1, o1, rfl, hnew⟩; replace hst := hst.trans hnew; simp only [List.cons_append, List.nil_append] at hst)); refine ⟨by (exact hnew.below), ?_⟩
      refine pm_g rfl ?_; go_wp2_with fail; refine ⟨by (exact Below.refl _ _), ?_⟩
      refine pm_p rfl rfl ?_; go_wp2_with fail
      refine pm_p rfl rfl ?_; go_wp2_with fail
      refine pm_p rfl rfl ?_; go_wp2_with fail
      refine pm_e rfl ?_; go_wp2_with ((refine wpl_at (.store 39 (.tmp 12) (.tmp 57)) rfl ?_; (refine L_storeA rfl rfl hst rfl (by rfl) (ev_tmp rfl) (by (exact qlArr_all _ _ _ _ _ _)) el_oathbookref3_Log (by (rfl)) 1 rfl (by (rfl)) ?_; clear hst; intro WS17 hst; simp only [List.set_cons_zero, List.set_cons_succ] at hst)))
      refine pm_g rfl ?_; go_wp2_with fail; refine ⟨by (exact Below.refl _ _), ?_⟩
      refine pm_g rfl ?_; go_wp2_with fail; refine ⟨by (exact Below.refl _ _), ?_⟩
      refine pm_nil ?_
      go_wp2_with fail
      go_meet
      case rel => (exact ⟨_, _, _, rfl, hst.pick [1, 7, 0, 2, 3, 4, 5, 6] (by decide)⟩)
    case rest =>
     obtain ⟨g12, O1, o1, rfl, hst⟩ := hcut
     go_upto_region 8 with (go_big_may; first | ((refine L_loadA (d := some 60) rfl rfl rfl (by rfl) Tryd.underlying39 rfl el_oathbookref3_Log (by (exact hst.get 0 rfl)) (by (exact qlArr_size _ _ _ _ _ _)) ?_)) | (refine wpl_at (.store 39 (.tmp 8) (.tmp 60)) rfl ?_; (refine L_storeA rfl rfl hst rfl (by rfl) (ev_tmp rfl) (by (exact qlArr_all _ _ _ _ _ _)) el_oathbookref3_Log (by (rfl)) 1 rfl (by (rfl)) ?_; clear hst; intro WS1 hst; simp only [List.set_cons_zero, List.set_cons_succ] at hst)))
     go_wp2_with (fail)
     go_roundg g
     case measure => omega
     case rel => exact ⟨i + 1, N1, q1, O1, o1, Lib.hid (by have := HI.out; omega), Lib.hid ⟨v3', u3, u1, u2⟩, by go_num, hst.tail⟩
   ·have hL1 : addL N s k = N := by unfold addL; rw [if_neg h0]
    rw [hL1] at HA v3'
    simp only [h0, if_false, errV] at HA
    generalize addE N s = rr at *
    clear h0 hL1 v3 v4 v5 v6 hi HAd
    go_upto_region 9 with (go_big_may; fail)
    refine wp_region_idxT [(0, 0), (1, 0), (2, 0), (3, 0), (4, 0), (5, 0), (6, 0), (7, 2), (8, 2), (9, 2), (10, 2), (11, 1), (12, 2), (13, 0), (14, 0), (15, 2), (16, 2)] (by kernel_rfl) (by kernel_rfl) ?_
    replace hst := hst.drew
    refine idx_q rfl rfl ?_; go_wp2_with fail
    refine idx_q rfl rfl ?_; go_wp2_with fail
    refine idx_q rfl rfl ?_; go_wp2_with fail
    refine idx_q rfl rfl ?_; go_wp2_with ((refine L_idxS (d := some 31) rfl rfl rfl (by rfl) (by rfl) Tryd.underlying23 el_api_Note (by (exact hst.old (by decide) HX.out)) (by omega) (by omega) ?_; intro o31 p31 ha31 hr31; ((subst ha31))))
    refine idx_qf rfl rfl (by kernel_rfl) ?_; go_wp2_with fail
    refine idx_q rfl rfl ?_; go_wp2_with ((refine L_load1 (d := some 33) rfl rfl rfl (by rfl) Tryd.underlying9 rfl (HC.out _ _ _ hr31) ?_))
    refine idx_q rfl rfl ?_; go_wp2_with fail
    refine idx_g rfl ?_; go_wp2_with fail; refine ⟨by (exact Below.refl _ _), ?_⟩
    refine idx_g rfl ?_; go_wp2_with ((refine L_idxS (d := some 36) rfl rfl rfl (by rfl) (by rfl) Tryd.underlying23 el_api_Note (by (exact hst.old (by decide) HX.out)) (by omega) (by omega) ?_; intro o36 p36 ha36 hr36; ((obtain ⟨h1, h2⟩ := some_addr ha36; subst h1; subst h2; clear ha36)))); refine ⟨by (exact Below.refl _ _), ?_⟩
    refine idx_g rfl ?_; go_wp2_with fail; refine ⟨by (exact Below.refl _ _), ?_⟩
    refine idx_g rfl ?_; go_wp2_with ((refine L_loadM (d := some 38) rfl rfl rfl (by rfl) Tryd.underlying30 rfl el_api_Digest (HC2.out _ _ _ hr36) (Dig.size _) ?_)); refine ⟨by (exact Below.refl _ _), ?_⟩
    refine idx_e rfl ?_; go_wp2_with ((go_at_call 24; refine (HA.out _ _ hst).mono ?_; rintro e Wa ⟨rfl, q1, u1, u2, u3, hst'⟩; clear hst; have hst := hst'; clear hst'))
    refine idx_g rfl ?_; go_wp2_with fail; refine ⟨by (exact Below.refl _ _), ?_⟩
    refine idx_q rfl rfl ?_; go_wp2_with fail
    refine idx_q rfl rfl ?_; go_wp2_with fail
    refine idx_g rfl ?_; go_wp2_with fail; refine ⟨by (exact Below.refl _ _), ?_⟩
    refine idx_g rfl ?_; go_wp2_with fail; refine ⟨by (exact Below.refl _ _), ?_⟩
    refine idx_nil ?_
    replace hst := St.swap (X := lgL q1 key N) (Y := [_, _]) (L := []) hst
    simp only [List.cons_append, List.nil_append, List.append_nil] at hst
    go_upto_region 8 with (go_big_may; fail)
    go_wp2_with (fail)
    go_roundg g
    case measure => omega
    case rel => exact ⟨i + 1, N, q1, O, oc, Lib.hid (by have := HI.out; omega), Lib.hid ⟨v3', u3, u1, u2⟩, by go_num, hst⟩
  ·obtain rfl : gk = 0 := by omega
   obtain rfl : i = n := by omega
   clear hi
   simp only [lgL] at hst
   go_upto_region 13 with (go_big_may; fail)
   go_upto_region 14 with (go_big_may; (refine L_load1 (d := some 62) rfl rfl rfl (by rfl) Tryd.underlying23 rfl (by (exact cell_of (hst.get 0 rfl) qlArr_1)) ?_))
   go_wp2_with (fail)
   go_ret2
   obtain ⟨v3, v4, v5, v6⟩ := HV.out
   exact ⟨q, N, O, oc, by rw [v5]; rfl, v3, v4, v6, hst.pick [2, 3, 4, 5, 6, 1] (by decide)⟩
end Go.Proofs.YtaebeemnipafbaaDoor

set_option maxRecDepth 20000
set_option linter.unusedSimpArgs false
set_option linter.unusedVariables false
namespace Go.Proofs.YtaebeemnipafbaaDoor
open Go.RowKit
set_option maxHeartbeats 1000000 in
theorem told_tag_any (key : List UInt8) (K : Option Addr) (m mc : Nat) (n : Int) (x y z : Dig) (w : World) (hn1 : -9223372036854775808 ≤ n) (hn2 : n ≤ 9223372036854775807) (hT : Tb w) (hk : SlR w K m mc 1 (bytesL key)) (hm : m ≤ 140737488355000) :
  Calls Tryd.prog 42 #[.slice K m mc, .agg (hdArr n x y z)] w fun e w' => e = .returned (.bool (decide (z = tagN key n x y))) ∧ St w w' [] := by
 have hst := St.refl w
 have HC := Lib.hid (fun (w' : World) (ht : Tb w') (h1 : SlR w' K m mc 1 (bytesL key)) => tag_any key K m mc n x y z w' hn1 hn2 ht h1 hm)
 generalize tagN key n x y = tg at *
 have HT := Lib.hid hT
 clear hT hn1 hn2 hm
 go_enter Tryd.func42, Tryd.ntmps42
 go_upto_region 1 with (first
  | (refine L_boxA (d := some 3) rfl rfl rfl (ev_tmp rfl) ?_; (try clear hnew); intro g3 W3 hnew; replace hst := hst.trans hnew; simp only [List.cons_append, List.nil_append] at hst)
  | fail)
 refine wp_region_pm (.one 2 3 (.one 0 0 (.one 1 0 (.one 3 2 (.one 4 2 (.one 5 2 (.one 6 2 .nil))))))) (by kernel_rfl) (by kernel_rfl) ?_
 replace hst := hst.drew
 refine pm_p rfl rfl ?_; go_wp2_with fail
 refine pm_qf rfl rfl (by kernel_rfl) ?_; go_wp2_with fail
 refine pm_q rfl rfl ?_; go_wp2_with (first | (first | (refine L_loadA (d := some 6) rfl rfl rfl (by rfl) Tryd.underlying30 rfl el_api_Digest (by first | exact hst.get 0 rfl) (by first | exact Dig.size _ | exact hdArr_size _ _ _ _ | rfl | (simp; done)) ?_) | (refine L_loadM (d := some 6) rfl rfl rfl (by rfl) Tryd.underlying30 rfl el_api_Digest (by first | assumption | exact hdArr_tag (hst.get 0 rfl)) (by first | exact Dig.size _ | exact hdArr_size _ _ _ _ | rfl | (simp; done)) ?_)) | fail)
 refine pm_g rfl ?_; go_wp2_with (first | (first | (refine L_loadA (d := some 8) rfl rfl rfl (by rfl) Tryd.underlying32 rfl el_api_Head (by first | exact hst.get 0 rfl) (by first | exact Dig.size _ | exact hdArr_size _ _ _ _ | rfl | (simp; done)) ?_) | (refine L_loadM (d := some 8) rfl rfl rfl (by rfl) Tryd.underlying32 rfl el_api_Head (by first | assumption | exact hdArr_tag (hst.get 0 rfl)) (by first | exact Dig.size _ | exact hdArr_size _ _ _ _ | rfl | (simp; done)) ?_)) | fail); refine ⟨by first | exact Below.refl _ _ | exact hnew.below, ?_⟩
 refine pm_g rfl ?_; go_wp2_with (first | (go_at_call 29; refine (HC.out _ (HT.out.of hst) (hst.old (by decide) hk)).mono ?_; rintro e Wt ⟨rfl, hnew⟩; replace hst := hst.keep hnew) | fail); refine ⟨by first | exact Below.refl _ _ | exact hnew.below, ?_⟩
 refine pm_g rfl ?_; go_wp2_with (first | (go_at_call 29; refine (HC.out _ (HT.out.of hst) (hst.old (by decide) hk)).mono ?_; rintro e Wt ⟨rfl, hnew⟩; replace hst := hst.keep hnew) | (refine L_eqD (d := some 10) rfl rfl rfl Tryd.underlying30 Tryd.underlying5 el_uint8 eqG_D (ev_tmp rfl) (ev_tmp rfl) ?_) | fail); refine ⟨by first | exact Below.refl _ _ | exact hnew.below, ?_⟩
 refine pm_g rfl ?_; go_wp2_with fail; refine ⟨by first | exact Below.refl _ _ | exact hnew.below, ?_⟩
 refine pm_nil ?_
 go_wp2_with fail
 go_ret
 exact ⟨rfl, hst.forget⟩
end Go.Proofs.YtaebeemnipafbaaDoor

set_option maxRecDepth 20000
set_option linter.unusedSimpArgs false
set_option linter.unusedVariables false
namespace Go.Proofs.YtaebeemnipafbaaDoor
open Go.RowKit
attribute [local simp] hdArr_size
def forkB (n1 : Int) (x1 y1 : Dig) (n2 : Int) (x2 y2 : Dig) : Bool := decide (n1 = n2) && (!decide (x1 = x2) || !decide (y1 = y2))
theorem forkB_ne {n1 n2 : Int} (h : n1 ≠ n2) (x1 y1 x2 y2 : Dig) : forkB n1 x1 y1 n2 x2 y2 = false := by unfold forkB; rw [decide_eq_false h]; rfl
theorem forkB_self (n : Int) (x y : Dig) : forkB n x y n x y = false := by unfold forkB; simp
theorem forkB_x {x1 x2 : Dig} (h : x1 ≠ x2) (n : Int) (y1 y2 : Dig) : forkB n x1 y1 n x2 y2 = true := by unfold forkB; rw [decide_eq_false h]; simp
theorem forkB_y {y1 y2 : Dig} (h : y1 ≠ y2) (n : Int) (x1 x2 : Dig) : forkB n x1 y1 n x2 y2 = true := by unfold forkB; rw [decide_eq_false h]; simp
theorem forkB_no {n : Int} {x1 y1 x2 y2 : Dig} (h : forkB n x1 y1 n x2 y2 = false) : x1 = x2 ∧ y1 = y2 := by
 by_cases h1 : x1 = x2
 ·by_cases h2 : y1 = y2
  ·exact ⟨h1, h2⟩
  ·rw [forkB_y h2] at h; cases h
 ·rw [forkB_x h1] at h; cases h
set_option maxHeartbeats 8000000 in
theorem fork_any (key : List UInt8) (K : Option Addr) (m mc : Nat) (n1 : Int) (x1 y1 : Dig) (n2 : Int) (x2 y2 : Dig) (w : World) (a1 : -9223372036854775808 ≤ n1) (a2 : n1 ≤ 9223372036854775807) (b1 : -9223372036854775808 ≤ n2) (b2 : n2 ≤ 9223372036854775807) (hT : Tb w) (hk : SlR w K m mc 1 (bytesL key)) (hm : m ≤ 140737488355000) :
  Calls Tryd.prog 13 #[.slice K m mc, .agg (hdArr n1 x1 y1 (tagN key n1 x1 y1)), .agg (hdArr n2 x2 y2 (tagN key n2 x2 y2))] w fun e w' => e = .returned (.bool (forkB n1 x1 y1 n2 x2 y2)) ∧ St w w' [] := by
 have hst := St.refl w
 obtain ⟨z1, hz1⟩ : ∃ z, z = tagN key n1 x1 y1 := ⟨_, rfl⟩
 obtain ⟨z2, hz2⟩ : ∃ z, z = tagN key n2 x2 y2 := ⟨_, rfl⟩
 have HA := Lib.hid (fun (w' : World) (ht : Tb w') (h1 : SlR w' K m mc 1 (bytesL key)) => by
  have := told_tag_any key K m mc n1 x1 y1 z1 w' a1 a2 ht h1 hm
  rw [decide_eq_true hz1] at this
  exact this)
 have HB := Lib.hid (fun (w' : World) (ht : Tb w') (h1 : SlR w' K m mc 1 (bytesL key)) => by
  have := told_tag_any key K m mc n2 x2 y2 z2 w' b1 b2 ht h1 hm
  rw [decide_eq_true hz2] at this
  exact this)
 rw [← hz1, ← hz2]
 have HT := Lib.hid hT
 clear hz1 hz2 hT hm a1 a2 b1 b2
 obtain ⟨r, hr⟩ : ∃ r, r = forkB n1 x1 y1 n2 x2 y2 := ⟨_, rfl⟩
 rw [← hr]
 go_enter Tryd.func13, Tryd.ntmps13
 by_cases hn : n1 = n2
 case neg =>
  have hx1 : (n1 == n2) = false := by simp [hn]
  have HR := Lib.hid (hr.trans (forkB_ne hn x1 y1 x2 y2))
  clear hr hn
  go_upto_region 1 with (go_big_may; first | (refine L_boxA (d := some 4) rfl rfl rfl (ev_tmp rfl) ?_; (try clear hnew); intro g4 W4 hnew; replace hst := hst.trans hnew; simp only [List.cons_append, List.nil_append] at hst) | (refine L_boxA (d := some 5) rfl rfl rfl (ev_tmp rfl) ?_; (try clear hnew); intro g5 W5 hnew; replace hst := hst.trans hnew; simp only [List.cons_append, List.nil_append] at hst))
  go_wp2_with (first | (with_reducible refine L_pass (t := 23) rfl (by kernel_rfl) ?_) | (with_reducible refine L_pass (t := 24) rfl (by kernel_rfl) ?_) | (with_reducible refine L_pass (t := 25) rfl (by kernel_rfl) ?_) | (with_reducible refine L_pass (t := 26) rfl (by kernel_rfl) ?_) | (with_reducible refine L_pass (t := 27) rfl (by kernel_rfl) ?_) | (with_reducible refine L_pass (t := 29) rfl (by kernel_rfl) ?_) | (with_reducible refine L_pass (t := 30) rfl (by kernel_rfl) ?_) | (with_reducible refine L_pass (t := 31) rfl (by kernel_rfl) ?_) | (with_reducible refine L_pass (t := 32) rfl (by kernel_rfl) ?_) | (with_reducible refine L_pass (t := 33) rfl (by kernel_rfl) ?_) | (go_at_call_of 42 (Value.agg (hdArr n1 x1 y1 z1)); refine (HA.out _ (HT.out.of hst) (hst.old (by decide) hk)).mono ?_; rintro e Wt ⟨rfl, hnew⟩; replace hst := hst.keep hnew) | (go_at_call_of 42 (Value.agg (hdArr n2 x2 y2 z2)); (try clear hnew); refine (HB.out _ (HT.out.of hst) (hst.old (by decide) hk)).mono ?_; rintro e Wt ⟨rfl, hnew⟩; replace hst := hst.keep hnew) | ((refine L_loadA (d := some 8) rfl rfl rfl (by rfl) Tryd.underlying32 rfl el_api_Head (by (exact hst.get 1 rfl)) (by (exact hdArr_size _ _ _ _)) ?_)) | ((refine L_loadA (d := some 12) rfl rfl rfl (by rfl) Tryd.underlying32 rfl el_api_Head (by (exact hst.get 0 rfl)) (by (exact hdArr_size _ _ _ _)) ?_)) | (refine L_load1 (d := some 17) rfl rfl rfl (by rfl) Tryd.underlying3 rfl (by (exact cell_of (hst.get 1 rfl) hdArr_0)) ?_) | (refine L_load1 (d := some 19) rfl rfl rfl (by rfl) Tryd.underlying3 rfl (by (exact cell_of (hst.get 0 rfl) hdArr_0)) ?_))
  go_ret
  exact ⟨by rw [HR.out]; rfl, hst.forget⟩
 have hx1 : (n1 == n2) = true := by simp [hn]
 by_cases hxx : x1 = x2
 case neg =>
  have H1 := Lib.hid (show (!decide (x1 = x2)) = true by simp [hxx])
  have HR := Lib.hid (show r = true by rw [hr, hn]; exact forkB_x hxx _ _ _)
  clear hr hn hxx
  go_upto_region 1 with (go_big_may; first | (refine L_boxA (d := some 4) rfl rfl rfl (ev_tmp rfl) ?_; (try clear hnew); intro g4 W4 hnew; replace hst := hst.trans hnew; simp only [List.cons_append, List.nil_append] at hst) | (refine L_boxA (d := some 5) rfl rfl rfl (ev_tmp rfl) ?_; (try clear hnew); intro g5 W5 hnew; replace hst := hst.trans hnew; simp only [List.cons_append, List.nil_append] at hst))
  go_wp2_with (first | (with_reducible refine L_pass (t := 29) rfl (by kernel_rfl) ?_) | (with_reducible refine L_pass (t := 30) rfl (by kernel_rfl) ?_) | (with_reducible refine L_pass (t := 31) rfl (by kernel_rfl) ?_) | (with_reducible refine L_pass (t := 32) rfl (by kernel_rfl) ?_) | (with_reducible refine L_pass (t := 33) rfl (by kernel_rfl) ?_) | (go_at_call_of 42 (Value.agg (hdArr n1 x1 y1 z1)); refine (HA.out _ (HT.out.of hst) (hst.old (by decide) hk)).mono ?_; rintro e Wt ⟨rfl, hnew⟩; replace hst := hst.keep hnew) | (go_at_call_of 42 (Value.agg (hdArr n2 x2 y2 z2)); (try clear hnew); refine (HB.out _ (HT.out.of hst) (hst.old (by decide) hk)).mono ?_; rintro e Wt ⟨rfl, hnew⟩; replace hst := hst.keep hnew) | ((refine L_loadA (d := some 8) rfl rfl rfl (by rfl) Tryd.underlying32 rfl el_api_Head (by (exact hst.get 1 rfl)) (by (exact hdArr_size _ _ _ _)) ?_)) | ((refine L_loadA (d := some 12) rfl rfl rfl (by rfl) Tryd.underlying32 rfl el_api_Head (by (exact hst.get 0 rfl)) (by (exact hdArr_size _ _ _ _)) ?_)) | (refine L_load1 (d := some 17) rfl rfl rfl (by rfl) Tryd.underlying3 rfl (by (exact cell_of (hst.get 1 rfl) hdArr_0)) ?_) | (refine L_load1 (d := some 19) rfl rfl rfl (by rfl) Tryd.underlying3 rfl (by (exact cell_of (hst.get 0 rfl) hdArr_0)) ?_) | ((refine L_loadM (d := some 24) rfl rfl rfl (by rfl) Tryd.underlying30 rfl el_api_Digest (by (exact hdArr_root (hst.get 1 rfl))) (by (exact Dig.size _)) ?_)) | ((refine L_loadM (d := some 26) rfl rfl rfl (by rfl) Tryd.underlying30 rfl el_api_Digest (by (exact hdArr_root (hst.get 0 rfl))) (by (exact Dig.size _)) ?_)) | (refine L_neD (d := some 27) rfl rfl rfl Tryd.underlying30 Tryd.underlying5 el_uint8 eqG_D (ev_tmp rfl) (ev_tmp rfl) ?_; (try rw [H1.out])))
  go_ret
  exact ⟨by rw [HR.out]; rfl, hst.forget⟩
 have H1 := Lib.hid (show (!decide (x1 = x2)) = false by simp [hxx])
 have HR := Lib.hid (show r = !decide (y1 = y2) by rw [hr, hn, hxx]; unfold forkB; simp)
 clear hr hn hxx
 go_upto_region 1 with (go_big_may; first | (refine L_boxA (d := some 4) rfl rfl rfl (ev_tmp rfl) ?_; (try clear hnew); intro g4 W4 hnew; replace hst := hst.trans hnew; simp only [List.cons_append, List.nil_append] at hst) | (refine L_boxA (d := some 5) rfl rfl rfl (ev_tmp rfl) ?_; (try clear hnew); intro g5 W5 hnew; replace hst := hst.trans hnew; simp only [List.cons_append, List.nil_append] at hst))
 go_wp2_with (first | (go_at_call_of 42 (Value.agg (hdArr n1 x1 y1 z1)); refine (HA.out _ (HT.out.of hst) (hst.old (by decide) hk)).mono ?_; rintro e Wt ⟨rfl, hnew⟩; replace hst := hst.keep hnew) | (go_at_call_of 42 (Value.agg (hdArr n2 x2 y2 z2)); (try clear hnew); refine (HB.out _ (HT.out.of hst) (hst.old (by decide) hk)).mono ?_; rintro e Wt ⟨rfl, hnew⟩; replace hst := hst.keep hnew) | ((refine L_loadA (d := some 8) rfl rfl rfl (by rfl) Tryd.underlying32 rfl el_api_Head (by (exact hst.get 1 rfl)) (by (exact hdArr_size _ _ _ _)) ?_)) | ((refine L_loadA (d := some 12) rfl rfl rfl (by rfl) Tryd.underlying32 rfl el_api_Head (by (exact hst.get 0 rfl)) (by (exact hdArr_size _ _ _ _)) ?_)) | (refine L_load1 (d := some 17) rfl rfl rfl (by rfl) Tryd.underlying3 rfl (by (exact cell_of (hst.get 1 rfl) hdArr_0)) ?_) | (refine L_load1 (d := some 19) rfl rfl rfl (by rfl) Tryd.underlying3 rfl (by (exact cell_of (hst.get 0 rfl) hdArr_0)) ?_) | ((refine L_loadM (d := some 24) rfl rfl rfl (by rfl) Tryd.underlying30 rfl el_api_Digest (by (exact hdArr_root (hst.get 1 rfl))) (by (exact Dig.size _)) ?_)) | ((refine L_loadM (d := some 26) rfl rfl rfl (by rfl) Tryd.underlying30 rfl el_api_Digest (by (exact hdArr_root (hst.get 0 rfl))) (by (exact Dig.size _)) ?_)) | (refine L_neD (d := some 27) rfl rfl rfl Tryd.underlying30 Tryd.underlying5 el_uint8 eqG_D (ev_tmp rfl) (ev_tmp rfl) ?_; (try rw [H1.out])) | ((refine L_loadM (d := some 30) rfl rfl rfl (by rfl) Tryd.underlying30 rfl el_api_Digest (by (exact hdArr_map (hst.get 1 rfl))) (by (exact Dig.size _)) ?_)) | ((refine L_loadM (d := some 32) rfl rfl rfl (by rfl) Tryd.underlying30 rfl el_api_Digest (by (exact hdArr_map (hst.get 0 rfl))) (by (exact Dig.size _)) ?_)) | (refine L_neD (d := some 33) rfl rfl rfl Tryd.underlying30 Tryd.underlying5 el_uint8 eqG_D (ev_tmp rfl) (ev_tmp rfl) ?_))
 go_ret
 exact ⟨by rw [HR.out]; rfl, hst.forget⟩
end Go.Proofs.YtaebeemnipafbaaDoor

set_option maxRecDepth 20000
set_option linter.unusedSimpArgs false
set_option linter.unusedVariables false
namespace Go.Proofs.YtaebeemnipafbaaDoor
open Go.RowKit
set_option maxHeartbeats 1000000 in
theorem rnode_any (l r : Dig) (w : World) : Calls Tryd.prog 50 #[l.v, r.v] w fun e w' => e = .returned (nodeN l r).v ∧ St w w' [] := by
 have hst := St.refl w
 have HD := Lib.hid (show digsL [l, r] = l.arr.toList ++ r.arr.toList by simp [digsL, Dig.toList])
 go_enter Tryd.func50, Tryd.ntmps50
 go_wp2_with (first | (go_at_call 86; (try clear hnew); refine (rof_any 1 [l, r] _ _ _ _ (by rw [HD.out]; exact hst.sl 0 rfl) (by decide)).mono ?_; rintro e Wk1 ⟨rfl, hnew⟩; replace hst := hst.keep hnew) | (refine L_boxA (d := some 2) rfl rfl rfl (ev_tmp rfl) ?_; (try clear hnew); intro g2 W2 hnew; replace hst := hst.trans hnew; simp only [List.cons_append, List.nil_append] at hst) | (refine L_boxA (d := some 3) rfl rfl rfl (ev_tmp rfl) ?_; (try clear hnew); intro g3 W3 hnew; replace hst := hst.trans hnew; simp only [List.cons_append, List.nil_append] at hst) | (refine L_allocA (d := some 4) rfl rfl rfl el_api_Digest ?_; (try clear hnew); intro g4 W4 hnew; replace hst := hst.trans hnew; simp only [List.cons_append, List.nil_append] at hst) | ((refine L_loadA (d := some 5) rfl rfl rfl (by rfl) Tryd.underlying30 rfl el_api_Digest (by (exact hst.get 2 rfl)) (by (exact Dig.size _)) ?_)) | ((refine L_loadA (d := some 6) rfl rfl rfl (by rfl) Tryd.underlying30 rfl el_api_Digest (by (exact hst.get 1 rfl)) (by (exact Dig.size _)) ?_)) | (refine L_buildS (d := some 7) rfl rfl rfl [_, _] (bs_2 (ev_tmp rfl) (ev_tmp rfl)) rfl Tryd.underlying36 el_api_Digest rfl (by (simp [Value.cells, Dig.size]; done)) (by decide) (by decide) ?_; (try clear hnew); intro g7 W7 hnew; replace hst := hst.trans hnew; simp only [List.cons_append, List.nil_append] at hst; simp only [List.flatMap_cons, List.flatMap_nil, List.append_nil, Value.cells, List.toList_toArray] at hst) | (refine wpl_at (.store 30 (.tmp 4) (.tmp 8)) rfl ?_; (refine L_storeA rfl rfl hst rfl (by rfl) (ev_tmp rfl) (by (exact Dig.one _)) el_api_Digest (by (rfl)) 1 rfl (by (rfl)) ?_; clear hst; intro WS4 hst; simp only [List.set_cons_zero, List.set_cons_succ] at hst)))
 refine bp_cell rfl rfl rfl (hst.get 1 rfl) Tryd.underlying30 rfl el_api_Digest (by (rfl)) ?_
 exact ⟨rfl, hst.forget⟩
set_option maxHeartbeats 1000000 in
theorem rhalf_any (n : Nat) (h2 : 2 ≤ n) (hn : n ≤ 256) (w : World) : Calls Tryd.prog 48 #[.int .i64 (n : Int)] w fun e w' => e = .returned (.int .i64 (halfN n : Int)) ∧ St w w' [] := by
 have hst := St.refl w
 go_enter Tryd.func48, Tryd.ntmps48
 go_wp2_with (fail)
 go_loopg [3] (n - 1) (fun gk s3 wr => ∃ (k j : Nat), Hid (k + gk = n) ∧ Hid (k = 2 ^ j) ∧ k < n ∧ 0 < k ∧ s3 = .int .i64 (k : Int) ∧ St w wr [])
 case atStart => exact ⟨1, 0, Lib.hid (by omega), Lib.hid rfl, by omega, by omega, rfl, hst⟩
 case round =>
  clear hst
  obtain ⟨k, j, HI, HJ, hkn, hk0, rfl, hst⟩ := hrel
  have hi := HI.out
  by_cases hin : 2 * k < n
  ·clear hi
   go_wp2_with (fail)
   go_roundg (n - 2 * k)
   case measure => have hi := HI.out; omega
   case rel =>
    have hi := HI.out
    exact ⟨2 * k, j + 1, Lib.hid (by omega), Lib.hid (by rw [HJ.out, Nat.pow_succ]; omega), hin, by omega, by go_num, hst⟩
  ·have hh := halfN_of j HJ.out hkn (by omega)
   have HH := Lib.hid hh
   clear hi HI hh HJ
   go_wp2_with (fail)
   go_ret
   exact ⟨by rw [HH.out]; rfl, hst⟩
theorem longN_le : ∀ (n i : Nat), longN i n ≤ n := by
 intro n
 induction n using Nat.strongRecOn with
 | ind n ih =>
 intro i
 by_cases h : n < 2
 ·rw [longN_one i h]; exact Nat.zero_le _
 ·have h1 := halfN_lt n (by omega)
  have h2 := halfN_pos n
  by_cases hi : i < halfN n
  ·rw [longN_left (by omega) hi]; have := ih _ h1 i; omega
  ·rw [longN_right (by omega) hi]; have := ih (n - halfN n) (by omega) (i - halfN n); omega
theorem path_last (path : List Dig) (m : Nat) (hl : path.length = m + 1) : ∃ rest p, path = rest ++ [p] ∧ rest.length = m ∧ ((digsL path).drop (m * 32)).take 32 = p.arr.toList ∧ ((digsL path).drop (0 * 32)).take ((m - 0) * 32) = digsL rest := by
 refine ⟨path.take m, path[m]'(by omega), ?_, by rw [List.length_take]; omega, by rw [Dig.toList]; exact digsL_at path m (by omega), ?_⟩
 ·have := List.take_succ_eq_append_getElem (l := path) (i := m) (by omega)
  rw [← this, List.take_of_length_le (by omega)]
 ·rw [digsL_cut]
  rfl
set_option maxHeartbeats 4000000 in
theorem rfolded_any : ∀ (n : Nat) (l : Dig) (path : List Dig) (A : Option Addr) (m c i : Nat) (w : World), SlR w A m c 32 (digsL path) → m = longN i n → i < n → n ≤ 256 →
  Calls Tryd.prog 49 #[l.v, .int .i64 (i : Int), .int .i64 (n : Int), .slice A m c] w fun e w' => e = .returned (foldedN l i n path).v ∧ St w w' [] := by
 intro n
 induction n using Nat.strongRecOn with
 | ind n ih =>
 intro l path A m c i w hx hm hin hn
 have hst := St.refl w
 have hl : path.length = m := by have := hx.1; rw [length_digsL] at this; omega
 have hcap := hx.2.1
 have hmax := hx.2.2.1
 simp only [maxLen] at hmax
 by_cases h1 : n = 1
 ·subst h1
  rw [foldedN_one l i (by omega)]
  clear hm hl
  go_enter Tryd.func49, Tryd.ntmps49
  go_wp2_with (first | (refine L_boxA (d := some 4) rfl rfl rfl (ev_tmp rfl) ?_; (try clear hnew); intro g4 W4 hnew; replace hst := hst.trans hnew; simp only [List.cons_append, List.nil_append] at hst) | (refine L_allocA (d := some 8) rfl rfl rfl el_api_Digest ?_; (try clear hnew); intro g8 W8 hnew; replace hst := hst.trans hnew; simp only [List.cons_append, List.nil_append] at hst) | ((refine L_loadA (d := some 14) rfl rfl rfl (by rfl) Tryd.underlying30 rfl el_api_Digest (by (exact hst.get 1 rfl)) (by (exact Dig.size _)) ?_)) | (refine wpl_at (.store 30 (.tmp 8) (.tmp 14)) rfl ?_; (refine L_storeA rfl rfl hst rfl (by rfl) (ev_tmp rfl) (by (exact Dig.one _)) el_api_Digest (by (exact Dig.size _)) 0 rfl (by (rfl)) ?_; clear hst; intro WS1 hst; simp only [List.set_cons_zero, List.set_cons_succ] at hst)))
  refine bp_cell rfl rfl rfl (hst.get 0 rfl) Tryd.underlying30 rfl el_api_Digest (by (exact Dig.size _)) ?_
  exact ⟨rfl, hst.forget⟩
 ·have hlt := halfN_lt n (by omega)
  have hps := halfN_pos n
  have h1' : ¬ (n : Int) = 1 := by omega
  have HF := Lib.hid (fun w => rhalf_any n (by omega) (by omega) w)
  by_cases hk : i < halfN n
  ·rw [longN_left (by omega) hk] at hm
   obtain ⟨rest, p, rfl, hr, hp, hc⟩ := path_last path (longN i (halfN n)) (by omega)
   rw [foldedN_left l (by omega) hk rest p hr]
   obtain ⟨r, hr'⟩ : ∃ r, r = longN i (halfN n) := ⟨_, rfl⟩
   rw [← hr'] at hm hp hc
   subst hm
   have HP := Lib.hid (show ((digsL (rest ++ [p])).drop ((r : Int).toNat * 32)).take 32 = p.arr.toList from hp)
   have HC := Lib.hid hc
   have HI := Lib.hid (fun A c w hs => ih (halfN n) hlt l rest A r c i w hs hr' hk (by omega))
   clear hr hr' hp hc hl ih
   generalize foldedN l i (halfN n) rest = u at *
   generalize halfN n = k at *
   go_enter Tryd.func49, Tryd.ntmps49
   go_wp2_with (first | (go_at_call 48; (try clear hnew); refine (HF.out _).mono ?_; rintro e Wk2 ⟨rfl, hnew⟩; replace hst := hst.keep hnew) | (refine L_loadM (d := some 22) rfl rfl rfl (by rfl) Tryd.underlying30 rfl el_api_Digest (cs := p.arr) (by rw [← HP.out]; exact hr21) (Dig.size _) ?_) | (refine L_boxA (d := some 4) rfl rfl rfl (ev_tmp rfl) ?_; (try clear hnew); intro g4 W4 hnew; replace hst := hst.trans hnew; simp only [List.cons_append, List.nil_append] at hst) | (refine L_allocA (d := some 8) rfl rfl rfl el_api_Digest ?_; (try clear hnew); intro g8 W8 hnew; replace hst := hst.trans hnew; simp only [List.cons_append, List.nil_append] at hst) | (refine L_idxS (d := some 21) rfl rfl rfl (by rfl) (by rfl) Tryd.underlying36 el_api_Digest (by (exact hst.old (by decide) hx)) (by omega) (by omega) ?_; intro o21 p21 ha21 hr21; ((subst ha21))) | (refine L_allocA (d := some 10) rfl rfl rfl el_api_Digest ?_; (try clear hnew); intro g10 W10 hnew; replace hst := hst.trans hnew; simp only [List.cons_append, List.nil_append] at hst) | (refine wpl_at (.store 30 (.tmp 10) (.tmp 22)) rfl ?_; (refine L_storeA rfl rfl hst rfl (by rfl) (ev_tmp rfl) (by (exact Dig.one _)) el_api_Digest (by (exact Dig.size _)) 0 rfl (by (rfl)) ?_; clear hst; intro WS7 hst; simp only [List.set_cons_zero, List.set_cons_succ] at hst)) | ((refine L_cutV (d := some 27) rfl rfl rfl (by rfl) Tryd.underlying36 el_api_Digest (by decide) hx 0 r _ (Or.inl ⟨rfl, rfl⟩) (Or.inr ⟨_, _, rfl, by (exact ev_tmp rfl)⟩) (Or.inl ⟨rfl, rfl⟩) (by omega) (by omega) (by omega) (by omega) ?_; intro A27 c27 hs27)))
   (try clear hnew)
   refine wp_region_idx [(0, 0), (1, 0), (2, 0), (3, 0), (5, 0), (4, 2), (6, 2), (7, 1)] (by kernel_rfl) (by kernel_rfl) ?_
   replace hst := hst.drew
   refine idx_q rfl rfl ?_; go_wp2_with (((refine L_loadA (d := some 31) rfl rfl rfl (by rfl) Tryd.underlying30 rfl el_api_Digest (by (exact hst.get 2 rfl)) (by (exact Dig.size _)) ?_)))
   refine idx_q rfl rfl ?_; go_wp2_with fail
   refine idx_q rfl rfl ?_; go_wp2_with fail
   refine idx_q rfl rfl ?_; go_wp2_with fail
   refine idx_q rfl rfl ?_; go_wp2_with (((refine L_loadA (d := some 36) rfl rfl rfl (by rfl) Tryd.underlying30 rfl el_api_Digest (by (exact hst.get 0 rfl)) (by (exact Dig.size _)) ?_)))
   refine idx_g rfl ?_; go_wp2_with ((go_at_call 49; (try clear hnew); refine (HI.out A27 c27 _ (by rw [← HC.out]; exact hst.old (by decide) hs27)).mono ?_; rintro e Wk3 ⟨rfl, hnew⟩; replace hst := hst.keep hnew)); refine ⟨by (exact hnew.below), ?_⟩
   refine idx_g rfl ?_; go_wp2_with ((go_at_call 50; (try clear hnew); with_reducible refine (rnode_any _ _ _).mono ?_; rintro e Wk4 ⟨rfl, hnew⟩; replace hst := hst.keep hnew)); refine ⟨by (exact hnew.below), ?_⟩
   refine idx_e rfl ?_; go_wp2_with ((refine wpl_at (.store 30 (.tmp 8) (.tmp 37)) rfl ?_; (refine L_storeA rfl rfl hst rfl (by rfl) (ev_tmp rfl) (by (exact Dig.one _)) el_api_Digest (by (rfl)) 1 rfl (by (rfl)) ?_; clear hst; intro WS7 hst; simp only [List.set_cons_zero, List.set_cons_succ] at hst)))
   refine idx_nil ?_
   go_wp2_with fail
   refine bp_cell rfl rfl rfl (hst.get 1 rfl) Tryd.underlying30 rfl el_api_Digest (by (rfl)) ?_
   exact ⟨rfl, hst.forget⟩
  ·rw [longN_right (by omega) hk] at hm
   obtain ⟨rest, p, rfl, hr, hp, hc⟩ := path_last path (longN (i - halfN n) (n - halfN n)) (by omega)
   rw [foldedN_right l (by omega) hk rest p hr]
   obtain ⟨r, hr'⟩ : ∃ r, r = longN (i - halfN n) (n - halfN n) := ⟨_, rfl⟩
   rw [← hr'] at hm hp hc
   subst hm
   have HP := Lib.hid (show ((digsL (rest ++ [p])).drop ((r : Int).toNat * 32)).take 32 = p.arr.toList from hp)
   have HC := Lib.hid hc
   have HI := Lib.hid (fun A c w hs => ih (n - halfN n) (by omega) l rest A r c (i - halfN n) w hs hr' (by omega) (by omega))
   have e1 : (((i - halfN n : Nat)) : Int) = (i : Int) - (halfN n : Int) := by omega
   have e2 : (((n - halfN n : Nat)) : Int) = (n : Int) - (halfN n : Int) := by omega
   rw [e1, e2] at HI
   clear hr hr' hp hc hl ih e1 e2
   generalize foldedN l (i - halfN n) (n - halfN n) rest = u at *
   generalize halfN n = k at *
   go_enter Tryd.func49, Tryd.ntmps49
   go_wp2_with (first | (go_at_call 48; (try clear hnew); refine (HF.out _).mono ?_; rintro e Wk5 ⟨rfl, hnew⟩; replace hst := hst.keep hnew) | (refine L_loadM (d := some 22) rfl rfl rfl (by rfl) Tryd.underlying30 rfl el_api_Digest (cs := p.arr) (by rw [← HP.out]; exact hr21) (Dig.size _) ?_) | (refine L_boxA (d := some 4) rfl rfl rfl (ev_tmp rfl) ?_; (try clear hnew); intro g4 W4 hnew; replace hst := hst.trans hnew; simp only [List.cons_append, List.nil_append] at hst) | (refine L_allocA (d := some 8) rfl rfl rfl el_api_Digest ?_; (try clear hnew); intro g8 W8 hnew; replace hst := hst.trans hnew; simp only [List.cons_append, List.nil_append] at hst) | (refine L_idxS (d := some 21) rfl rfl rfl (by rfl) (by rfl) Tryd.underlying36 el_api_Digest (by (exact hst.old (by decide) hx)) (by omega) (by omega) ?_; intro o21 p21 ha21 hr21; ((subst ha21))) | (refine L_allocA (d := some 10) rfl rfl rfl el_api_Digest ?_; (try clear hnew); intro g10 W10 hnew; replace hst := hst.trans hnew; simp only [List.cons_append, List.nil_append] at hst) | (refine wpl_at (.store 30 (.tmp 10) (.tmp 22)) rfl ?_; (refine L_storeA rfl rfl hst rfl (by rfl) (ev_tmp rfl) (by (exact Dig.one _)) el_api_Digest (by (exact Dig.size _)) 0 rfl (by (rfl)) ?_; clear hst; intro WS7 hst; simp only [List.set_cons_zero, List.set_cons_succ] at hst)) | ((refine L_cutV (d := some 27) rfl rfl rfl (by rfl) Tryd.underlying36 el_api_Digest (by decide) hx 0 r _ (Or.inl ⟨rfl, rfl⟩) (Or.inr ⟨_, _, rfl, by (exact ev_tmp rfl)⟩) (Or.inl ⟨rfl, rfl⟩) (by omega) (by omega) (by omega) (by omega) ?_; intro A27 c27 hs27)))
   (try clear hnew)
   refine wp_region_idx [(0, 0), (1, 0), (2, 0), (3, 0), (4, 0), (5, 0), (6, 0), (7, 0), (8, 2), (9, 2), (10, 2), (11, 1)] (by kernel_rfl) (by kernel_rfl) ?_
   replace hst := hst.drew
   refine idx_q rfl rfl ?_; go_wp2_with (((refine L_loadA (d := some 38) rfl rfl rfl (by rfl) Tryd.underlying30 rfl el_api_Digest (by (exact hst.get 0 rfl)) (by (exact Dig.size _)) ?_)))
   refine idx_q rfl rfl ?_; go_wp2_with (((refine L_loadA (d := some 39) rfl rfl rfl (by rfl) Tryd.underlying30 rfl el_api_Digest (by (exact hst.get 2 rfl)) (by (exact Dig.size _)) ?_)))
   refine idx_q rfl rfl ?_; go_wp2_with fail
   refine idx_q rfl rfl ?_; go_wp2_with fail
   refine idx_q rfl rfl ?_; go_wp2_with fail
   refine idx_q rfl rfl ?_; go_wp2_with fail
   refine idx_q rfl rfl ?_; go_wp2_with fail
   refine idx_q rfl rfl ?_; go_wp2_with fail
   refine idx_g rfl ?_; go_wp2_with fail; refine ⟨by (exact Below.refl _ _), ?_⟩
   refine idx_g rfl ?_; go_wp2_with ((go_at_call 49; (try clear hnew); refine (HI.out A27 c27 _ (by rw [← HC.out]; exact hst.old (by decide) hs27)).mono ?_; rintro e Wk6 ⟨rfl, hnew⟩; replace hst := hst.keep hnew)); refine ⟨by (exact hnew.below), ?_⟩
   refine idx_g rfl ?_; go_wp2_with ((go_at_call 50; (try clear hnew); with_reducible refine (rnode_any _ _ _).mono ?_; rintro e Wk7 ⟨rfl, hnew⟩; replace hst := hst.keep hnew)); refine ⟨by (exact hnew.below), ?_⟩
   refine idx_e rfl ?_; go_wp2_with ((refine wpl_at (.store 30 (.tmp 8) (.tmp 48)) rfl ?_; (refine L_storeA rfl rfl hst rfl (by rfl) (ev_tmp rfl) (by (exact Dig.one _)) el_api_Digest (by (rfl)) 1 rfl (by (rfl)) ?_; clear hst; intro WS11 hst; simp only [List.set_cons_zero, List.set_cons_succ] at hst)))
   refine idx_nil ?_
   go_wp2_with fail
   refine bp_cell rfl rfl rfl (hst.get 1 rfl) Tryd.underlying30 rfl el_api_Digest (by (rfl)) ?_
   exact ⟨rfl, hst.forget⟩
end Go.Proofs.YtaebeemnipafbaaDoor

set_option maxRecDepth 20000
set_option linter.unusedSimpArgs false
set_option linter.unusedVariables false
namespace Go.Proofs.YtaebeemnipafbaaDoor
open Go.RowKit
def ClashAt (n : Nat) : Prop := ∀ (a b : Dig) (p q : List Dig) (A B : Option Addr) (m c d i : Nat) (w : World), SlR w A m c 32 (digsL p) → SlR w B m d 32 (digsL q) → m = longN i n → i < n → n ≤ 256 → foldedN a i n p = foldedN b i n q → a ≠ b →
  Calls Tryd.prog 16 #[a.v, .slice A m c, b.v, .slice B m d, .int .i64 (i : Int), .int .i64 (n : Int)] w fun e w' => e = .returned (.bool true) ∧ St w w' []
end Go.Proofs.YtaebeemnipafbaaDoor

set_option maxRecDepth 20000
set_option linter.unusedSimpArgs false
set_option linter.unusedVariables false
namespace Go.Proofs.YtaebeemnipafbaaDoor
open Go.RowKit
set_option maxHeartbeats 8000000 in
theorem clash_left (n : Nat) (ih : ∀ k, k < n → ClashAt k) (h1 : ¬ n = 1) (a b : Dig) (p q : List Dig) (A B : Option Addr) (m c d i : Nat) (w : World) (hx : SlR w A m c 32 (digsL p)) (hy : SlR w B m d 32 (digsL q)) (hm : m = longN i n) (hin : i < n) (hn : n ≤ 256) (hf : foldedN a i n p = foldedN b i n q) (hab : a ≠ b) (hk : i < halfN n) :
  Calls Tryd.prog 16 #[a.v, .slice A m c, b.v, .slice B m d, .int .i64 (i : Int), .int .i64 (n : Int)] w fun e w' => e = .returned (.bool true) ∧ St w w' [] := by
 have hst := St.refl w
 have hlp : p.length = m := by have := hx.1; rw [length_digsL] at this; omega
 have hlq : q.length = m := by have := hy.1; rw [length_digsL] at this; omega
 have hcap := hx.2.1
 have hcap2 := hy.2.1
 have hmax := hx.2.2.1
 simp only [maxLen] at hmax
 have hlt := halfN_lt n (by omega)
 have hps := halfN_pos n
 have h1' : ¬ (n : Int) = 1 := by omega
 have HF := Lib.hid (fun w => rhalf_any n (by omega) (by omega) w)
 rw [longN_left (by omega) hk] at hm
 obtain ⟨p', x, rfl, hr, hp, hc⟩ := path_last p (longN i (halfN n)) (by omega)
 obtain ⟨q', y, rfl, hr2, hq, hd⟩ := path_last q (longN i (halfN n)) (by omega)
 rw [foldedN_left a (by omega) hk p' x hr, foldedN_left b (by omega) hk q' y hr2] at hf
 obtain ⟨r, hr'⟩ : ∃ r, r = longN i (halfN n) := ⟨_, rfl⟩
 rw [← hr'] at hm hp hc hq hd
 subst hm
 have HP := Lib.hid (show ((digsL (p' ++ [x])).drop ((r : Int).toNat * 32)).take 32 = x.arr.toList from hp)
 have HQ := Lib.hid (show ((digsL (q' ++ [y])).drop ((r : Int).toNat * 32)).take 32 = y.arr.toList from hq)
 have HC := Lib.hid hc
 have HD := Lib.hid hd
 have HI := Lib.hid (fun A B c d w hs hs' hf => ih (halfN n) hlt a b p' q' A B r c d i w hs hs' hr' hk (by omega) hf hab)
 have HU := Lib.hid (fun A c w hs => rfolded_any (halfN n) a p' A r c i w hs hr' hk (by omega))
 have HV := Lib.hid (fun A c w hs => rfolded_any (halfN n) b q' A r c i w hs hr' hk (by omega))
 have HE := Lib.hid (show decide (nodeN (foldedN a i (halfN n) p') x = nodeN (foldedN b i (halfN n) q') y) = true by rw [hf]; simp)
 clear hr hr' hp hc hq hd hlp hlq ih hr2 hf hab
 generalize foldedN a i (halfN n) p' = u at *
 generalize foldedN b i (halfN n) q' = v at *
 generalize halfN n = k at *
 go_enter Tryd.func16, Tryd.ntmps16
 go_upto_region 1 with (first | (refine L_boxA (d := some 6) rfl rfl rfl (ev_tmp rfl) ?_; (try clear hnew); intro g6 W6 hnew; replace hst := hst.trans hnew; simp only [List.cons_append, List.nil_append] at hst) | (refine L_boxA (d := some 8) rfl rfl rfl (ev_tmp rfl) ?_; (try clear hnew); intro g8 W8 hnew; replace hst := hst.trans hnew; simp only [List.cons_append, List.nil_append] at hst))
 go_upto_region 3 with (fail)
 go_upto_region 4 with ((go_at_call 48; (try clear hnew); refine (HF.out _).mono ?_; rintro e Wk1 ⟨rfl, hnew⟩; replace hst := hst.keep hnew))
 go_upto_region 5 with (first | (refine L_loadM (d := some 29) rfl rfl rfl (by rfl) Tryd.underlying30 rfl el_api_Digest (cs := x.arr) (by rw [← HP.out]; exact hr28) (Dig.size _) ?_) | (refine L_idxS (d := some 28) rfl rfl rfl (by rfl) (by rfl) Tryd.underlying36 el_api_Digest (by (exact hst.old (by decide) hx)) (by omega) (by omega) ?_; intro o28 p28 ha28 hr28; ((subst ha28))) | (refine L_allocA (d := some 14) rfl rfl rfl el_api_Digest ?_; (try clear hnew); intro g14 W14 hnew; replace hst := hst.trans hnew; simp only [List.cons_append, List.nil_append] at hst) | (refine wpl_at (.store 30 (.tmp 14) (.tmp 29)) rfl ?_; (refine L_storeA rfl rfl hst rfl (by rfl) (ev_tmp rfl) (by (exact Dig.one _)) el_api_Digest (by (exact Dig.size _)) 0 rfl (by (rfl)) ?_; clear hst; intro WS7 hst; simp only [List.set_cons_zero, List.set_cons_succ] at hst)))
 go_upto_region 6 with (first | (refine L_loadM (d := some 35) rfl rfl rfl (by rfl) Tryd.underlying30 rfl el_api_Digest (cs := y.arr) (by rw [← HQ.out]; exact hr34) (Dig.size _) ?_) | (refine L_idxS (d := some 34) rfl rfl rfl (by rfl) (by rfl) Tryd.underlying36 el_api_Digest (by (exact hst.old (by decide) hy)) (by omega) (by omega) ?_; intro o34 p34 ha34 hr34; ((subst ha34))) | (refine L_allocA (d := some 15) rfl rfl rfl el_api_Digest ?_; (try clear hnew); intro g15 W15 hnew; replace hst := hst.trans hnew; simp only [List.cons_append, List.nil_append] at hst) | (refine wpl_at (.store 30 (.tmp 15) (.tmp 35)) rfl ?_; (refine L_storeA rfl rfl hst rfl (by rfl) (ev_tmp rfl) (by (exact Dig.one _)) el_api_Digest (by (exact Dig.size _)) 0 rfl (by (rfl)) ?_; clear hst; intro WS7 hst; simp only [List.set_cons_zero, List.set_cons_succ] at hst)))
 go_upto_region 7 with (((refine L_cutV (d := some 40) rfl rfl rfl (by rfl) Tryd.underlying36 el_api_Digest (by decide) hx 0 r _ (Or.inl ⟨rfl, rfl⟩) (Or.inr ⟨_, _, rfl, by (exact ev_tmp rfl)⟩) (Or.inl ⟨rfl, rfl⟩) (by omega) (by omega) (by omega) (by omega) ?_; intro A40 c40 hs40)))
 go_upto_region 8 with (((refine L_cutV (d := some 45) rfl rfl rfl (by rfl) Tryd.underlying36 el_api_Digest (by decide) hy 0 r _ (Or.inl ⟨rfl, rfl⟩) (Or.inr ⟨_, _, rfl, by (exact ev_tmp rfl)⟩) (Or.inl ⟨rfl, rfl⟩) (by omega) (by omega) (by omega) (by omega) ?_; intro A45 c45 hs45)))
 go_upto_region 9 with (fail)
 go_upto_region 10 with (fail)
 go_upto_region 13 with (fail)
 go_upto_region 14 with (first | (go_at_call_of 49 (Value.agg a.arr); (try clear hnew); refine (HU.out A40 c40 _ (by rw [← HC.out]; exact hst.old (by decide) hs40)).mono ?_; rintro e Wu ⟨rfl, hnew⟩; replace hst := hst.keep hnew) | ((refine L_loadA (d := some 58) rfl rfl rfl (by rfl) Tryd.underlying30 rfl el_api_Digest (by (exact hst.get 3 rfl)) (by (exact Dig.size _)) ?_)) | (refine L_allocA (d := some 18) rfl rfl rfl el_api_Digest ?_; (try clear hnew); intro g18 W18 hnew; replace hst := hst.trans hnew; simp only [List.cons_append, List.nil_append] at hst) | (refine wpl_at (.store 30 (.tmp 18) (.tmp 62)) rfl ?_; (refine L_storeA rfl rfl hst rfl (by rfl) (ev_tmp rfl) (by (exact Dig.one _)) el_api_Digest (by (exact Dig.size _)) 0 rfl (by (rfl)) ?_; clear hst; intro WS6 hst; simp only [List.set_cons_zero, List.set_cons_succ] at hst)))
 go_upto_region 15 with (first | (go_at_call_of 49 (Value.agg b.arr); (try clear hnew); refine (HV.out A45 c45 _ (by rw [← HD.out]; exact hst.old (by decide) hs45)).mono ?_; rintro e Wv ⟨rfl, hnew⟩; replace hst := hst.keep hnew) | ((refine L_loadA (d := some 63) rfl rfl rfl (by rfl) Tryd.underlying30 rfl el_api_Digest (by (exact hst.get 3 rfl)) (by (exact Dig.size _)) ?_)) | (refine L_allocA (d := some 19) rfl rfl rfl el_api_Digest ?_; (try clear hnew); intro g19 W19 hnew; replace hst := hst.trans hnew; simp only [List.cons_append, List.nil_append] at hst) | (refine wpl_at (.store 30 (.tmp 19) (.tmp 67)) rfl ?_; (refine L_storeA rfl rfl hst rfl (by rfl) (ev_tmp rfl) (by (exact Dig.one _)) el_api_Digest (by (exact Dig.size _)) 0 rfl (by (rfl)) ?_; clear hst; intro WS6 hst; simp only [List.set_cons_zero, List.set_cons_succ] at hst)))
 (try clear hnew)
 by_cases huv : u = v
 ·have HUV := Lib.hid (show (!decide (u = v)) = false by simp [huv])
  by_cases hxy : x = y
  ·have HXY := Lib.hid (show (!decide (x = y)) = false by simp [hxy])
   clear hxy
   go_upto_region 19 with (first | ((refine L_loadA (d := some 68) rfl rfl rfl (by rfl) Tryd.underlying30 rfl el_api_Digest (by (exact hst.get 1 rfl)) (by (exact Dig.size _)) ?_)) | ((refine L_loadA (d := some 69) rfl rfl rfl (by rfl) Tryd.underlying30 rfl el_api_Digest (by (exact hst.get 0 rfl)) (by (exact Dig.size _)) ?_)) | (refine L_neD (d := some 70) rfl rfl rfl Tryd.underlying30 Tryd.underlying5 el_uint8 eqG_D (ev_tmp rfl) (ev_tmp rfl) ?_; (try rw [HUV.out])) | ((refine L_loadA (d := some 72) rfl rfl rfl (by rfl) Tryd.underlying30 rfl el_api_Digest (by (exact hst.get 3 rfl)) (by (exact Dig.size _)) ?_)) | ((refine L_loadA (d := some 73) rfl rfl rfl (by rfl) Tryd.underlying30 rfl el_api_Digest (by (exact hst.get 2 rfl)) (by (exact Dig.size _)) ?_)) | (refine L_neD (d := some 74) rfl rfl rfl Tryd.underlying30 Tryd.underlying5 el_uint8 eqG_D (ev_tmp rfl) (ev_tmp rfl) ?_; (try rw [HXY.out])) | ((refine L_pickF (d := some 75) rfl rfl rfl (ev_tmp rfl) (ev_tmp rfl) ?_)))
   go_wp2_with (first | (go_at_call 16; (try clear hnew); refine (HI.out A40 A45 c40 c45 _ (by rw [← HC.out]; exact hst.old (by decide) hs40) (by rw [← HD.out]; exact hst.old (by decide) hs45) huv).mono ?_; rintro e Wk2 ⟨rfl, hnew⟩; replace hst := hst.keep hnew) | ((refine L_loadA (d := some 91) rfl rfl rfl (by rfl) Tryd.underlying30 rfl el_api_Digest (by (exact hst.get 5 rfl)) (by (exact Dig.size _)) ?_)) | ((refine L_loadA (d := some 93) rfl rfl rfl (by rfl) Tryd.underlying30 rfl el_api_Digest (by (exact hst.get 4 rfl)) (by (exact Dig.size _)) ?_)))
   go_ret
   exact ⟨rfl, hst.forget⟩
  ·have HXY := Lib.hid (show (!decide (x = y)) = true by simp [hxy])
   clear hxy huv
   go_upto_region 16 with (first | ((refine L_loadA (d := some 68) rfl rfl rfl (by rfl) Tryd.underlying30 rfl el_api_Digest (by (exact hst.get 1 rfl)) (by (exact Dig.size _)) ?_)) | ((refine L_loadA (d := some 69) rfl rfl rfl (by rfl) Tryd.underlying30 rfl el_api_Digest (by (exact hst.get 0 rfl)) (by (exact Dig.size _)) ?_)) | (refine L_neD (d := some 70) rfl rfl rfl Tryd.underlying30 Tryd.underlying5 el_uint8 eqG_D (ev_tmp rfl) (ev_tmp rfl) ?_; (try rw [HUV.out])) | ((refine L_loadA (d := some 72) rfl rfl rfl (by rfl) Tryd.underlying30 rfl el_api_Digest (by (exact hst.get 3 rfl)) (by (exact Dig.size _)) ?_)) | ((refine L_loadA (d := some 73) rfl rfl rfl (by rfl) Tryd.underlying30 rfl el_api_Digest (by (exact hst.get 2 rfl)) (by (exact Dig.size _)) ?_)) | (refine L_neD (d := some 74) rfl rfl rfl Tryd.underlying30 Tryd.underlying5 el_uint8 eqG_D (ev_tmp rfl) (ev_tmp rfl) ?_; (try rw [HXY.out])) | ((refine L_pickF (d := some 75) rfl rfl rfl (ev_tmp rfl) (ev_tmp rfl) ?_)))
   go_wp2_with (fail)
   refine wp_region_idx [(0, 0), (1, 0), (3, 0), (4, 0), (2, 2), (5, 2), (6, 2), (7, 2)] (by kernel_rfl) (by kernel_rfl) ?_
   replace hst := hst.drew
   refine idx_q rfl rfl ?_; go_wp2_with (((refine L_loadA (d := some 77) rfl rfl rfl (by rfl) Tryd.underlying30 rfl el_api_Digest (by (exact hst.get 1 rfl)) (by (exact Dig.size _)) ?_)))
   refine idx_q rfl rfl ?_; go_wp2_with (((refine L_loadA (d := some 78) rfl rfl rfl (by rfl) Tryd.underlying30 rfl el_api_Digest (by (exact hst.get 3 rfl)) (by (exact Dig.size _)) ?_)))
   refine idx_q rfl rfl ?_; go_wp2_with (((refine L_loadA (d := some 80) rfl rfl rfl (by rfl) Tryd.underlying30 rfl el_api_Digest (by (exact hst.get 0 rfl)) (by (exact Dig.size _)) ?_)))
   refine idx_q rfl rfl ?_; go_wp2_with (((refine L_loadA (d := some 81) rfl rfl rfl (by rfl) Tryd.underlying30 rfl el_api_Digest (by (exact hst.get 2 rfl)) (by (exact Dig.size _)) ?_)))
   refine idx_g rfl ?_; go_wp2_with ((go_at_call 50; (try clear hnew); with_reducible refine (rnode_any _ _ _).mono ?_; rintro e Wk3 ⟨rfl, hnew⟩; replace hst := hst.keep hnew)); refine ⟨by (exact hnew.below), ?_⟩
   refine idx_g rfl ?_; go_wp2_with ((go_at_call 50; (try clear hnew); with_reducible refine (rnode_any _ _ _).mono ?_; rintro e Wk3 ⟨rfl, hnew⟩; replace hst := hst.keep hnew)); refine ⟨by (exact hnew.below), ?_⟩
   refine idx_g rfl ?_; go_wp2_with ((refine L_eqD (d := some 83) rfl rfl rfl Tryd.underlying30 Tryd.underlying5 el_uint8 eqG_D (ev_tmp rfl) (ev_tmp rfl) ?_; (try rw [HE.out]))); refine ⟨by (exact Below.refl _ _), ?_⟩
   refine idx_g rfl ?_; go_wp2_with fail; refine ⟨by (exact Below.refl _ _), ?_⟩
   refine idx_nil ?_
   go_wp2_with fail
   go_ret
   exact ⟨rfl, hst.forget⟩
 ·have HUV := Lib.hid (show (!decide (u = v)) = true by simp [huv])
  clear huv
  go_upto_region 16 with (first | ((refine L_loadA (d := some 68) rfl rfl rfl (by rfl) Tryd.underlying30 rfl el_api_Digest (by (exact hst.get 1 rfl)) (by (exact Dig.size _)) ?_)) | ((refine L_loadA (d := some 69) rfl rfl rfl (by rfl) Tryd.underlying30 rfl el_api_Digest (by (exact hst.get 0 rfl)) (by (exact Dig.size _)) ?_)) | (refine L_neD (d := some 70) rfl rfl rfl Tryd.underlying30 Tryd.underlying5 el_uint8 eqG_D (ev_tmp rfl) (ev_tmp rfl) ?_; (try rw [HUV.out])) | ((refine L_pickT (d := some 75) rfl rfl rfl (ev_tmp rfl) ev_const ?_)))
  go_wp2_with (fail)
  refine wp_region_idx [(0, 0), (1, 0), (3, 0), (4, 0), (2, 2), (5, 2), (6, 2), (7, 2)] (by kernel_rfl) (by kernel_rfl) ?_
  replace hst := hst.drew
  refine idx_q rfl rfl ?_; go_wp2_with (((refine L_loadA (d := some 77) rfl rfl rfl (by rfl) Tryd.underlying30 rfl el_api_Digest (by (exact hst.get 1 rfl)) (by (exact Dig.size _)) ?_)))
  refine idx_q rfl rfl ?_; go_wp2_with (((refine L_loadA (d := some 78) rfl rfl rfl (by rfl) Tryd.underlying30 rfl el_api_Digest (by (exact hst.get 3 rfl)) (by (exact Dig.size _)) ?_)))
  refine idx_q rfl rfl ?_; go_wp2_with (((refine L_loadA (d := some 80) rfl rfl rfl (by rfl) Tryd.underlying30 rfl el_api_Digest (by (exact hst.get 0 rfl)) (by (exact Dig.size _)) ?_)))
  refine idx_q rfl rfl ?_; go_wp2_with (((refine L_loadA (d := some 81) rfl rfl rfl (by rfl) Tryd.underlying30 rfl el_api_Digest (by (exact hst.get 2 rfl)) (by (exact Dig.size _)) ?_)))
  refine idx_g rfl ?_; go_wp2_with ((go_at_call 50; (try clear hnew); with_reducible refine (rnode_any _ _ _).mono ?_; rintro e Wk4 ⟨rfl, hnew⟩; replace hst := hst.keep hnew)); refine ⟨by (exact hnew.below), ?_⟩
  refine idx_g rfl ?_; go_wp2_with ((go_at_call 50; (try clear hnew); with_reducible refine (rnode_any _ _ _).mono ?_; rintro e Wk4 ⟨rfl, hnew⟩; replace hst := hst.keep hnew)); refine ⟨by (exact hnew.below), ?_⟩
  refine idx_g rfl ?_; go_wp2_with ((refine L_eqD (d := some 83) rfl rfl rfl Tryd.underlying30 Tryd.underlying5 el_uint8 eqG_D (ev_tmp rfl) (ev_tmp rfl) ?_; (try rw [HE.out]))); refine ⟨by (exact Below.refl _ _), ?_⟩
  refine idx_g rfl ?_; go_wp2_with fail; refine ⟨by (exact Below.refl _ _), ?_⟩
  refine idx_nil ?_
  go_wp2_with fail
  go_ret
  exact ⟨rfl, hst.forget⟩
end Go.Proofs.YtaebeemnipafbaaDoor

set_option maxRecDepth 20000
set_option linter.unusedSimpArgs false
set_option linter.unusedVariables false
namespace Go.Proofs.YtaebeemnipafbaaDoor
open Go.RowKit
set_option maxHeartbeats 8000000 in
theorem clash_right (n : Nat) (ih : ∀ k, k < n → ClashAt k) (h1 : ¬ n = 1) (a b : Dig) (p q : List Dig) (A B : Option Addr) (m c d i : Nat) (w : World) (hx : SlR w A m c 32 (digsL p)) (hy : SlR w B m d 32 (digsL q)) (hm : m = longN i n) (hin : i < n) (hn : n ≤ 256) (hf : foldedN a i n p = foldedN b i n q) (hab : a ≠ b) (hk : ¬ i < halfN n) :
  Calls Tryd.prog 16 #[a.v, .slice A m c, b.v, .slice B m d, .int .i64 (i : Int), .int .i64 (n : Int)] w fun e w' => e = .returned (.bool true) ∧ St w w' [] := by
 have hst := St.refl w
 have hlp : p.length = m := by have := hx.1; rw [length_digsL] at this; omega
 have hlq : q.length = m := by have := hy.1; rw [length_digsL] at this; omega
 have hcap := hx.2.1
 have hcap2 := hy.2.1
 have hmax := hx.2.2.1
 simp only [maxLen] at hmax
 have hlt := halfN_lt n (by omega)
 have hps := halfN_pos n
 have h1' : ¬ (n : Int) = 1 := by omega
 have HF := Lib.hid (fun w => rhalf_any n (by omega) (by omega) w)
 rw [longN_right (by omega) hk] at hm
 obtain ⟨p', x, rfl, hr, hp, hc⟩ := path_last p (longN (i - halfN n) (n - halfN n)) (by omega)
 obtain ⟨q', y, rfl, hr2, hq, hd⟩ := path_last q (longN (i - halfN n) (n - halfN n)) (by omega)
 rw [foldedN_right a (by omega) hk p' x hr, foldedN_right b (by omega) hk q' y hr2] at hf
 obtain ⟨r, hr'⟩ : ∃ r, r = longN (i - halfN n) (n - halfN n) := ⟨_, rfl⟩
 rw [← hr'] at hm hp hc hq hd
 subst hm
 have HP := Lib.hid (show ((digsL (p' ++ [x])).drop ((r : Int).toNat * 32)).take 32 = x.arr.toList from hp)
 have HQ := Lib.hid (show ((digsL (q' ++ [y])).drop ((r : Int).toNat * 32)).take 32 = y.arr.toList from hq)
 have HC := Lib.hid hc
 have HD := Lib.hid hd
 have HI := Lib.hid (fun A B c d w hs hs' hf => ih (n - halfN n) (by omega) a b p' q' A B r c d (i - halfN n) w hs hs' hr' (by omega) (by omega) hf hab)
 have HU := Lib.hid (fun A c w hs => rfolded_any (n - halfN n) a p' A r c (i - halfN n) w hs hr' (by omega) (by omega))
 have HV := Lib.hid (fun A c w hs => rfolded_any (n - halfN n) b q' A r c (i - halfN n) w hs hr' (by omega) (by omega))
 have HE := Lib.hid (show decide (nodeN x (foldedN a (i - halfN n) (n - halfN n) p') = nodeN y (foldedN b (i - halfN n) (n - halfN n) q')) = true by rw [hf]; simp)
 have e1 : (((i - halfN n : Nat)) : Int) = (i : Int) - (halfN n : Int) := by omega
 have e2 : (((n - halfN n : Nat)) : Int) = (n : Int) - (halfN n : Int) := by omega
 rw [e1, e2] at HI HU HV
 clear e1 e2 hr hr' hp hc hq hd hlp hlq ih hr2 hf hab
 generalize foldedN a (i - halfN n) (n - halfN n) p' = u at *
 generalize foldedN b (i - halfN n) (n - halfN n) q' = v at *
 generalize halfN n = k at *
 go_enter Tryd.func16, Tryd.ntmps16
 go_upto_region 1 with (first | (refine L_boxA (d := some 6) rfl rfl rfl (ev_tmp rfl) ?_; (try clear hnew); intro g6 W6 hnew; replace hst := hst.trans hnew; simp only [List.cons_append, List.nil_append] at hst) | (refine L_boxA (d := some 8) rfl rfl rfl (ev_tmp rfl) ?_; (try clear hnew); intro g8 W8 hnew; replace hst := hst.trans hnew; simp only [List.cons_append, List.nil_append] at hst))
 go_upto_region 3 with (fail)
 go_upto_region 4 with ((go_at_call 48; (try clear hnew); refine (HF.out _).mono ?_; rintro e Wk1 ⟨rfl, hnew⟩; replace hst := hst.keep hnew))
 go_upto_region 5 with (first | (refine L_loadM (d := some 29) rfl rfl rfl (by rfl) Tryd.underlying30 rfl el_api_Digest (cs := x.arr) (by rw [← HP.out]; exact hr28) (Dig.size _) ?_) | (refine L_idxS (d := some 28) rfl rfl rfl (by rfl) (by rfl) Tryd.underlying36 el_api_Digest (by (exact hst.old (by decide) hx)) (by omega) (by omega) ?_; intro o28 p28 ha28 hr28; ((subst ha28))) | (refine L_allocA (d := some 14) rfl rfl rfl el_api_Digest ?_; (try clear hnew); intro g14 W14 hnew; replace hst := hst.trans hnew; simp only [List.cons_append, List.nil_append] at hst) | (refine wpl_at (.store 30 (.tmp 14) (.tmp 29)) rfl ?_; (refine L_storeA rfl rfl hst rfl (by rfl) (ev_tmp rfl) (by (exact Dig.one _)) el_api_Digest (by (exact Dig.size _)) 0 rfl (by (rfl)) ?_; clear hst; intro WS7 hst; simp only [List.set_cons_zero, List.set_cons_succ] at hst)))
 go_upto_region 6 with (first | (refine L_loadM (d := some 35) rfl rfl rfl (by rfl) Tryd.underlying30 rfl el_api_Digest (cs := y.arr) (by rw [← HQ.out]; exact hr34) (Dig.size _) ?_) | (refine L_idxS (d := some 34) rfl rfl rfl (by rfl) (by rfl) Tryd.underlying36 el_api_Digest (by (exact hst.old (by decide) hy)) (by omega) (by omega) ?_; intro o34 p34 ha34 hr34; ((subst ha34))) | (refine L_allocA (d := some 15) rfl rfl rfl el_api_Digest ?_; (try clear hnew); intro g15 W15 hnew; replace hst := hst.trans hnew; simp only [List.cons_append, List.nil_append] at hst) | (refine wpl_at (.store 30 (.tmp 15) (.tmp 35)) rfl ?_; (refine L_storeA rfl rfl hst rfl (by rfl) (ev_tmp rfl) (by (exact Dig.one _)) el_api_Digest (by (exact Dig.size _)) 0 rfl (by (rfl)) ?_; clear hst; intro WS7 hst; simp only [List.set_cons_zero, List.set_cons_succ] at hst)))
 go_upto_region 7 with (((refine L_cutV (d := some 40) rfl rfl rfl (by rfl) Tryd.underlying36 el_api_Digest (by decide) hx 0 r _ (Or.inl ⟨rfl, rfl⟩) (Or.inr ⟨_, _, rfl, by (exact ev_tmp rfl)⟩) (Or.inl ⟨rfl, rfl⟩) (by omega) (by omega) (by omega) (by omega) ?_; intro A40 c40 hs40)))
 go_upto_region 8 with (((refine L_cutV (d := some 45) rfl rfl rfl (by rfl) Tryd.underlying36 el_api_Digest (by decide) hy 0 r _ (Or.inl ⟨rfl, rfl⟩) (Or.inr ⟨_, _, rfl, by (exact ev_tmp rfl)⟩) (Or.inl ⟨rfl, rfl⟩) (by omega) (by omega) (by omega) (by omega) ?_; intro A45 c45 hs45)))
 go_upto_region 9 with (fail)
 go_upto_region 10 with (fail)
 go_upto_region 11 with (fail)
 go_upto_region 12 with (fail)
 go_upto_region 13 with (fail)
 go_upto_region 14 with (first | (go_at_call_of 49 (Value.agg a.arr); (try clear hnew); refine (HU.out A40 c40 _ (by rw [← HC.out]; exact hst.old (by decide) hs40)).mono ?_; rintro e Wu ⟨rfl, hnew⟩; replace hst := hst.keep hnew) | ((refine L_loadA (d := some 58) rfl rfl rfl (by rfl) Tryd.underlying30 rfl el_api_Digest (by (exact hst.get 3 rfl)) (by (exact Dig.size _)) ?_)) | (refine L_allocA (d := some 18) rfl rfl rfl el_api_Digest ?_; (try clear hnew); intro g18 W18 hnew; replace hst := hst.trans hnew; simp only [List.cons_append, List.nil_append] at hst) | (refine wpl_at (.store 30 (.tmp 18) (.tmp 62)) rfl ?_; (refine L_storeA rfl rfl hst rfl (by rfl) (ev_tmp rfl) (by (exact Dig.one _)) el_api_Digest (by (exact Dig.size _)) 0 rfl (by (rfl)) ?_; clear hst; intro WS6 hst; simp only [List.set_cons_zero, List.set_cons_succ] at hst)))
 go_upto_region 15 with (first | (go_at_call_of 49 (Value.agg b.arr); (try clear hnew); refine (HV.out A45 c45 _ (by rw [← HD.out]; exact hst.old (by decide) hs45)).mono ?_; rintro e Wv ⟨rfl, hnew⟩; replace hst := hst.keep hnew) | ((refine L_loadA (d := some 63) rfl rfl rfl (by rfl) Tryd.underlying30 rfl el_api_Digest (by (exact hst.get 3 rfl)) (by (exact Dig.size _)) ?_)) | (refine L_allocA (d := some 19) rfl rfl rfl el_api_Digest ?_; (try clear hnew); intro g19 W19 hnew; replace hst := hst.trans hnew; simp only [List.cons_append, List.nil_append] at hst) | (refine wpl_at (.store 30 (.tmp 19) (.tmp 67)) rfl ?_; (refine L_storeA rfl rfl hst rfl (by rfl) (ev_tmp rfl) (by (exact Dig.one _)) el_api_Digest (by (exact Dig.size _)) 0 rfl (by (rfl)) ?_; clear hst; intro WS6 hst; simp only [List.set_cons_zero, List.set_cons_succ] at hst)))
 (try clear hnew)
 by_cases huv : u = v
 ·have HUV := Lib.hid (show (!decide (u = v)) = false by simp [huv])
  by_cases hxy : x = y
  ·have HXY := Lib.hid (show (!decide (x = y)) = false by simp [hxy])
   clear hxy
   go_upto_region 19 with (first | ((refine L_loadA (d := some 68) rfl rfl rfl (by rfl) Tryd.underlying30 rfl el_api_Digest (by (exact hst.get 1 rfl)) (by (exact Dig.size _)) ?_)) | ((refine L_loadA (d := some 69) rfl rfl rfl (by rfl) Tryd.underlying30 rfl el_api_Digest (by (exact hst.get 0 rfl)) (by (exact Dig.size _)) ?_)) | (refine L_neD (d := some 70) rfl rfl rfl Tryd.underlying30 Tryd.underlying5 el_uint8 eqG_D (ev_tmp rfl) (ev_tmp rfl) ?_; (try rw [HUV.out])) | ((refine L_loadA (d := some 72) rfl rfl rfl (by rfl) Tryd.underlying30 rfl el_api_Digest (by (exact hst.get 3 rfl)) (by (exact Dig.size _)) ?_)) | ((refine L_loadA (d := some 73) rfl rfl rfl (by rfl) Tryd.underlying30 rfl el_api_Digest (by (exact hst.get 2 rfl)) (by (exact Dig.size _)) ?_)) | (refine L_neD (d := some 74) rfl rfl rfl Tryd.underlying30 Tryd.underlying5 el_uint8 eqG_D (ev_tmp rfl) (ev_tmp rfl) ?_; (try rw [HXY.out])) | ((refine L_pickF (d := some 75) rfl rfl rfl (ev_tmp rfl) (ev_tmp rfl) ?_)))
   go_wp2_with (first | (go_at_call 16; (try clear hnew); refine (HI.out A40 A45 c40 c45 _ (by rw [← HC.out]; exact hst.old (by decide) hs40) (by rw [← HD.out]; exact hst.old (by decide) hs45) huv).mono ?_; rintro e Wk2 ⟨rfl, hnew⟩; replace hst := hst.keep hnew) | ((refine L_loadA (d := some 91) rfl rfl rfl (by rfl) Tryd.underlying30 rfl el_api_Digest (by (exact hst.get 5 rfl)) (by (exact Dig.size _)) ?_)) | ((refine L_loadA (d := some 93) rfl rfl rfl (by rfl) Tryd.underlying30 rfl el_api_Digest (by (exact hst.get 4 rfl)) (by (exact Dig.size _)) ?_)))
   go_ret
   exact ⟨rfl, hst.forget⟩
  ·have HXY := Lib.hid (show (!decide (x = y)) = true by simp [hxy])
   clear hxy huv
   go_upto_region 16 with (first | ((refine L_loadA (d := some 68) rfl rfl rfl (by rfl) Tryd.underlying30 rfl el_api_Digest (by (exact hst.get 1 rfl)) (by (exact Dig.size _)) ?_)) | ((refine L_loadA (d := some 69) rfl rfl rfl (by rfl) Tryd.underlying30 rfl el_api_Digest (by (exact hst.get 0 rfl)) (by (exact Dig.size _)) ?_)) | (refine L_neD (d := some 70) rfl rfl rfl Tryd.underlying30 Tryd.underlying5 el_uint8 eqG_D (ev_tmp rfl) (ev_tmp rfl) ?_; (try rw [HUV.out])) | ((refine L_loadA (d := some 72) rfl rfl rfl (by rfl) Tryd.underlying30 rfl el_api_Digest (by (exact hst.get 3 rfl)) (by (exact Dig.size _)) ?_)) | ((refine L_loadA (d := some 73) rfl rfl rfl (by rfl) Tryd.underlying30 rfl el_api_Digest (by (exact hst.get 2 rfl)) (by (exact Dig.size _)) ?_)) | (refine L_neD (d := some 74) rfl rfl rfl Tryd.underlying30 Tryd.underlying5 el_uint8 eqG_D (ev_tmp rfl) (ev_tmp rfl) ?_; (try rw [HXY.out])) | ((refine L_pickF (d := some 75) rfl rfl rfl (ev_tmp rfl) (ev_tmp rfl) ?_)))
   go_wp2_with (fail)
   refine wp_region_idx [(0, 0), (1, 0), (3, 0), (4, 0), (2, 2), (5, 2), (6, 2), (7, 2)] (by kernel_rfl) (by kernel_rfl) ?_
   replace hst := hst.drew
   refine idx_q rfl rfl ?_; go_wp2_with (((refine L_loadA (d := some 84) rfl rfl rfl (by rfl) Tryd.underlying30 rfl el_api_Digest (by (exact hst.get 3 rfl)) (by (exact Dig.size _)) ?_)))
   refine idx_q rfl rfl ?_; go_wp2_with (((refine L_loadA (d := some 85) rfl rfl rfl (by rfl) Tryd.underlying30 rfl el_api_Digest (by (exact hst.get 1 rfl)) (by (exact Dig.size _)) ?_)))
   refine idx_q rfl rfl ?_; go_wp2_with (((refine L_loadA (d := some 87) rfl rfl rfl (by rfl) Tryd.underlying30 rfl el_api_Digest (by (exact hst.get 2 rfl)) (by (exact Dig.size _)) ?_)))
   refine idx_q rfl rfl ?_; go_wp2_with (((refine L_loadA (d := some 88) rfl rfl rfl (by rfl) Tryd.underlying30 rfl el_api_Digest (by (exact hst.get 0 rfl)) (by (exact Dig.size _)) ?_)))
   refine idx_g rfl ?_; go_wp2_with ((go_at_call 50; (try clear hnew); with_reducible refine (rnode_any _ _ _).mono ?_; rintro e Wk3 ⟨rfl, hnew⟩; replace hst := hst.keep hnew)); refine ⟨by (exact hnew.below), ?_⟩
   refine idx_g rfl ?_; go_wp2_with ((go_at_call 50; (try clear hnew); with_reducible refine (rnode_any _ _ _).mono ?_; rintro e Wk3 ⟨rfl, hnew⟩; replace hst := hst.keep hnew)); refine ⟨by (exact hnew.below), ?_⟩
   refine idx_g rfl ?_; go_wp2_with ((refine L_eqD (d := some 90) rfl rfl rfl Tryd.underlying30 Tryd.underlying5 el_uint8 eqG_D (ev_tmp rfl) (ev_tmp rfl) ?_; (try rw [HE.out]))); refine ⟨by (exact Below.refl _ _), ?_⟩
   refine idx_g rfl ?_; go_wp2_with fail; refine ⟨by (exact Below.refl _ _), ?_⟩
   refine idx_nil ?_
   go_wp2_with fail
   go_ret
   exact ⟨rfl, hst.forget⟩
 ·have HUV := Lib.hid (show (!decide (u = v)) = true by simp [huv])
  clear huv
  go_upto_region 16 with (first | ((refine L_loadA (d := some 68) rfl rfl rfl (by rfl) Tryd.underlying30 rfl el_api_Digest (by (exact hst.get 1 rfl)) (by (exact Dig.size _)) ?_)) | ((refine L_loadA (d := some 69) rfl rfl rfl (by rfl) Tryd.underlying30 rfl el_api_Digest (by (exact hst.get 0 rfl)) (by (exact Dig.size _)) ?_)) | (refine L_neD (d := some 70) rfl rfl rfl Tryd.underlying30 Tryd.underlying5 el_uint8 eqG_D (ev_tmp rfl) (ev_tmp rfl) ?_; (try rw [HUV.out])) | ((refine L_pickT (d := some 75) rfl rfl rfl (ev_tmp rfl) ev_const ?_)))
  go_wp2_with (fail)
  refine wp_region_idx [(0, 0), (1, 0), (3, 0), (4, 0), (2, 2), (5, 2), (6, 2), (7, 2)] (by kernel_rfl) (by kernel_rfl) ?_
  replace hst := hst.drew
  refine idx_q rfl rfl ?_; go_wp2_with (((refine L_loadA (d := some 84) rfl rfl rfl (by rfl) Tryd.underlying30 rfl el_api_Digest (by (exact hst.get 3 rfl)) (by (exact Dig.size _)) ?_)))
  refine idx_q rfl rfl ?_; go_wp2_with (((refine L_loadA (d := some 85) rfl rfl rfl (by rfl) Tryd.underlying30 rfl el_api_Digest (by (exact hst.get 1 rfl)) (by (exact Dig.size _)) ?_)))
  refine idx_q rfl rfl ?_; go_wp2_with (((refine L_loadA (d := some 87) rfl rfl rfl (by rfl) Tryd.underlying30 rfl el_api_Digest (by (exact hst.get 2 rfl)) (by (exact Dig.size _)) ?_)))
  refine idx_q rfl rfl ?_; go_wp2_with (((refine L_loadA (d := some 88) rfl rfl rfl (by rfl) Tryd.underlying30 rfl el_api_Digest (by (exact hst.get 0 rfl)) (by (exact Dig.size _)) ?_)))
  refine idx_g rfl ?_; go_wp2_with ((go_at_call 50; (try clear hnew); with_reducible refine (rnode_any _ _ _).mono ?_; rintro e Wk4 ⟨rfl, hnew⟩; replace hst := hst.keep hnew)); refine ⟨by (exact hnew.below), ?_⟩
  refine idx_g rfl ?_; go_wp2_with ((go_at_call 50; (try clear hnew); with_reducible refine (rnode_any _ _ _).mono ?_; rintro e Wk4 ⟨rfl, hnew⟩; replace hst := hst.keep hnew)); refine ⟨by (exact hnew.below), ?_⟩
  refine idx_g rfl ?_; go_wp2_with ((refine L_eqD (d := some 90) rfl rfl rfl Tryd.underlying30 Tryd.underlying5 el_uint8 eqG_D (ev_tmp rfl) (ev_tmp rfl) ?_; (try rw [HE.out]))); refine ⟨by (exact Below.refl _ _), ?_⟩
  refine idx_g rfl ?_; go_wp2_with fail; refine ⟨by (exact Below.refl _ _), ?_⟩
  refine idx_nil ?_
  go_wp2_with fail
  go_ret
  exact ⟨rfl, hst.forget⟩
end Go.Proofs.YtaebeemnipafbaaDoor

set_option maxRecDepth 20000
set_option linter.unusedSimpArgs false
set_option linter.unusedVariables false
namespace Go.Proofs.YtaebeemnipafbaaDoor
open Go.RowKit
theorem clash_any : ∀ n : Nat, ClashAt n := by
 intro n
 induction n using Nat.strongRecOn with
 | ind n ih =>
 intro a b p q A B m c d i w hx hy hm hin hn hf hab
 by_cases h1 : n = 1
 ·subst h1
  rw [foldedN_one a i (by omega), foldedN_one b i (by omega)] at hf
  exact absurd hf hab
 ·by_cases hk : i < halfN n
  ·exact clash_left n ih h1 a b p q A B m c d i w hx hy hm hin hn hf hab hk
  ·exact clash_right n ih h1 a b p q A B m c d i w hx hy hm hin hn hf hab hk
end Go.Proofs.YtaebeemnipafbaaDoor

set_option maxRecDepth 20000
set_option linter.unusedSimpArgs false
set_option linter.unusedVariables false
namespace Go.Proofs.YtaebeemnipafbaaDoor
open Go.RowKit
set_option maxHeartbeats 2000000 in
theorem rroot_any : ∀ (n : Nat) (ls : List Dig) (A : Option Addr) (c : Nat) (w : World), SlR w A n c 32 (digsL ls) → n ≤ 256 →
  Calls Tryd.prog 51 #[.slice A n c] w fun e w' => e = .returned (rootN ls).v ∧ St w w' [] := by
 intro n
 induction n using Nat.strongRecOn with
 | ind n ih =>
 intro ls A c w hx hn
 have hst := St.refl w
 have hl : ls.length = n := by have := hx.1; rw [length_digsL] at this; omega
 have hcap := hx.2.1
 by_cases h0 : n = 0
 ·subst h0
  obtain rfl : ls = [] := List.eq_nil_of_length_eq_zero hl
  go_enter Tryd.func51, Tryd.ntmps51
  go_wp2_with (first | (go_at_call 61; (try clear hnew); refine (rsum_any [] none 0 0 _ (SlR.nil_ _ 1) (by decide)).mono ?_; rintro e Wk1 ⟨rfl, hnew⟩; replace hst := hst.keep hnew) | (refine L_allocA (d := some 2) rfl rfl rfl el_api_Digest ?_; (try clear hnew); intro g2 W2 hnew; replace hst := hst.trans hnew; simp only [List.cons_append, List.nil_append] at hst) | (refine wpl_at (.store 30 (.tmp 2) (.tmp 7)) rfl ?_; (refine L_storeA rfl rfl hst rfl (by rfl) (ev_tmp rfl) (by (exact Dig.one _)) el_api_Digest (by (rfl)) 0 rfl (by (rfl)) ?_; clear hst; intro WS1 hst; simp only [List.set_cons_zero, List.set_cons_succ] at hst)))
  rw [rootN_nil]
  refine bp_cell rfl rfl rfl (hst.get 0 rfl) Tryd.underlying30 rfl el_api_Digest (by (rfl)) ?_
  exact ⟨rfl, hst.forget⟩
 ·by_cases h1 : n = 1
  ·subst h1
   obtain ⟨d, rfl⟩ : ∃ d, ls = [d] := by
    match ls, hl with
    | [d], _ => exact ⟨d, rfl⟩
   have HL := Lib.hid (show ((digsL [d]).drop ((0 : Int).toNat * 32)).take 32 = d.arr.toList by rw [digsL_single]; exact List.take_of_length_le (by simp [Dig.size]))
   go_enter Tryd.func51, Tryd.ntmps51
   go_wp2_with (first | (refine L_loadM (d := some 13) rfl rfl rfl (by rfl) Tryd.underlying30 rfl el_api_Digest (cs := d.arr) (by rw [← HL.out]; exact hr12) (Dig.size _) ?_) | (refine L_allocA (d := some 2) rfl rfl rfl el_api_Digest ?_; (try clear hnew); intro g2 W2 hnew; replace hst := hst.trans hnew; simp only [List.cons_append, List.nil_append] at hst) | (refine L_idxS (d := some 12) rfl rfl rfl (by rfl) (by rfl) Tryd.underlying36 el_api_Digest (by (exact hst.old (by decide) (by assumption))) (by omega) (by omega) ?_; intro o12 p12 ha12 hr12; ((subst ha12))) | (refine wpl_at (.store 30 (.tmp 2) (.tmp 13)) rfl ?_; (refine L_storeA rfl rfl hst rfl (by rfl) (ev_tmp rfl) (by (exact Dig.one _)) el_api_Digest (by (exact Dig.size _)) 0 rfl (by (rfl)) ?_; clear hst; intro WS3 hst; simp only [List.set_cons_zero, List.set_cons_succ] at hst)))
   rw [rootN_one]
   refine bp_cell rfl rfl rfl (hst.get 0 rfl) Tryd.underlying30 rfl el_api_Digest (by (exact Dig.size _)) ?_
   exact ⟨rfl, hst.forget⟩
  ·have hlt := halfN_lt n (by omega)
   have hps := halfN_pos n
   have HN := Lib.hid (show nodeN (rootN (ls.take (halfN n))) (rootN (ls.drop (halfN n))) = rootN ls by rw [rootN_more ls (by omega), hl])
   have H1 := Lib.hid (show ((digsL ls).drop (0 * 32)).take ((halfN n - 0) * 32) = digsL (ls.take (halfN n)) by rw [digsL_cut]; rfl)
   have H2 := Lib.hid (show ((digsL ls).drop (halfN n * 32)).take ((n - halfN n) * 32) = digsL (ls.drop (halfN n)) by rw [digsL_cut, List.take_of_length_le (by rw [List.length_drop]; omega)])
   have h0' : ¬ (n : Int) = 0 := by omega
   have h1' : ¬ (n : Int) = 1 := by omega
   have HF := Lib.hid (fun w => rhalf_any n (by omega) (by omega) w)
   generalize halfN n = k at *
   go_enter Tryd.func51, Tryd.ntmps51
   go_wp2_with (first | (go_at_call 48; (try clear hnew); refine (HF.out _).mono ?_; rintro e Wk2 ⟨rfl, hnew⟩; replace hst := hst.keep hnew) | (refine L_allocA (d := some 2) rfl rfl rfl el_api_Digest ?_; (try clear hnew); intro g2 W2 hnew; replace hst := hst.trans hnew; simp only [List.cons_append, List.nil_append] at hst))
   (try clear hnew)
   clear h0' h1'
   refine wp_region_idx [(0, 0), (1, 0), (2, 0), (4, 0), (5, 0), (6, 0), (3, 2), (7, 2), (8, 2), (9, 1)] (by kernel_rfl) (by kernel_rfl) ?_
   replace hst := hst.drew
   refine idx_q rfl rfl ?_; go_wp2_with fail
   refine idx_q rfl rfl ?_; go_wp2_with fail
   refine idx_q rfl rfl ?_; go_wp2_with (((refine L_cutV (d := some 19) rfl rfl rfl (by rfl) Tryd.underlying36 el_api_Digest (by decide) hx 0 k _ (Or.inl ⟨rfl, rfl⟩) (Or.inr ⟨_, _, rfl, by (exact ev_tmp rfl)⟩) (Or.inl ⟨rfl, rfl⟩) (by omega) (by omega) (by omega) (by omega) ?_; intro A19 c19 hs19)))
   refine idx_q rfl rfl ?_; go_wp2_with fail
   refine idx_q rfl rfl ?_; go_wp2_with fail
   refine idx_q rfl rfl ?_; go_wp2_with (((refine L_cutV (d := some 23) rfl rfl rfl (by rfl) Tryd.underlying36 el_api_Digest (by decide) hx k n _ (Or.inr ⟨_, _, rfl, by (exact ev_tmp rfl)⟩) (Or.inl ⟨rfl, rfl, rfl⟩) (Or.inl ⟨rfl, rfl⟩) (by omega) (by omega) (by omega) (by omega) ?_; intro A23 c23 hs23)))
   refine idx_g rfl ?_; go_wp2_with ((go_at_call_of 51 (Value.slice A19 k c19); (try clear hnew); refine (ih k hlt (ls.take k) A19 c19 _ (by rw [← H1.out]; exact hst.old (by decide) hs19) (by omega)).mono ?_; rintro e W20 ⟨rfl, hnew⟩; replace hst := hst.keep hnew)); refine ⟨by (exact hnew.below), ?_⟩
   refine idx_g rfl ?_; go_wp2_with ((go_at_call_of 51 (Value.slice A23 (n - k) c23); (try clear hnew); refine (ih (n - k) (by omega) (ls.drop k) A23 c23 _ (by rw [← H2.out]; exact hst.old (by decide) hs23) (by omega)).mono ?_; rintro e W24 ⟨rfl, hnew⟩; replace hst := hst.keep hnew)); refine ⟨by (exact hnew.below), ?_⟩
   refine idx_g rfl ?_; go_wp2_with ((go_at_call 50; (try clear hnew); with_reducible refine (rnode_any _ _ _).mono ?_; rintro e Wk3 ⟨rfl, hnew⟩; replace hst := hst.keep hnew)); refine ⟨by (exact hnew.below), ?_⟩
   refine idx_e rfl ?_; go_wp2_with ((refine wpl_at (.store 30 (.tmp 2) (.tmp 25)) rfl ?_; (refine L_storeA rfl rfl hst rfl (by rfl) (ev_tmp rfl) (by (exact Dig.one _)) el_api_Digest (by (rfl)) 0 rfl (by (rfl)) ?_; clear hst; intro WS9 hst; simp only [List.set_cons_zero, List.set_cons_succ] at hst)))
   refine idx_nil ?_
   rw [HN.out] at hst
   go_wp2_with fail
   refine bp_cell rfl rfl rfl (hst.get 0 rfl) Tryd.underlying30 rfl el_api_Digest (by (exact Dig.size _)) ?_
   exact ⟨rfl, hst.forget⟩
end Go.Proofs.YtaebeemnipafbaaDoor

set_option maxRecDepth 20000
set_option linter.unusedSimpArgs false
set_option linter.unusedVariables false
namespace Go.Proofs.YtaebeemnipafbaaDoor
open Go.RowKit
theorem dig_oneR (d : Dig) : ∀ u ∈ d.arr.toList, u.oneCell' = true := by
 rw [Dig.toList]
 exact oneCell_bytes
set_option maxHeartbeats 4000000 in
theorem rpath_any : ∀ (n : Nat) (ls : List Dig) (A : Option Addr) (c i : Nat) (w : World), SlR w A n c 32 (digsL ls) → i < n → n ≤ 256 →
  Calls Tryd.prog 17 #[.slice A n c, .int .i64 (i : Int)] w fun e w' => ∃ O oc, e = .returned (.slice O (longN i n) oc) ∧ St w w' [.row O (longN i n) oc 30 32 (digsL (pathN ls i))] := by
 intro n
 induction n using Nat.strongRecOn with
 | ind n ih =>
 intro ls A c i w hx hin hn
 have hst := St.refl w
 have hl : ls.length = n := by have := hx.1; rw [length_digsL] at this; omega
 have hcap := hx.2.1
 by_cases h1 : n = 1
 ·subst h1
  rw [longN_one i (by omega), pathN_one i (by omega)]
  go_enter Tryd.func17, Tryd.ntmps17
  go_wp2_with (fail)
  go_ret
  exact ⟨_, _, rfl, hst.nilRow 30 32⟩
 ·have hlt := halfN_lt n (by omega)
  have hps := halfN_pos n
  have h1' : ¬ (n : Int) = 1 := by omega
  have HF := Lib.hid (fun w => rhalf_any n (by omega) (by omega) w)
  have H1 := Lib.hid (show ((digsL ls).drop (0 * 32)).take ((halfN n - 0) * 32) = digsL (ls.take (halfN n)) by rw [digsL_cut]; rfl)
  have H2 := Lib.hid (show ((digsL ls).drop (halfN n * 32)).take ((n - halfN n) * 32) = digsL (ls.drop (halfN n)) by rw [digsL_cut, List.take_of_length_le (by rw [List.length_drop]; omega)])
  by_cases hk : i < halfN n
  ·have hle := longN_le (halfN n) i
   rw [longN_left (by omega) hk]
   have HI := Lib.hid (fun A c w hs => ih (halfN n) hlt (ls.take (halfN n)) A c i w hs hk (by omega))
   have HB := Lib.hid (show digsL (pathN (ls.take (halfN n)) i) ++ (rootN (ls.drop (halfN n))).arr.toList = digsL (pathN ls i) by
    rw [pathN_left (ls := ls) (by omega) (by rw [hl]; exact hk), hl, digsL_append, digsL_single, Dig.toList])
   clear ih hl
   generalize longN i (halfN n) = r at *
   generalize halfN n = k at *
   go_enter Tryd.func17, Tryd.ntmps17
   go_wp2_with ((go_at_call 48; (try clear hnew); refine (HF.out _).mono ?_; rintro e Wk1 ⟨rfl, hnew⟩; replace hst := hst.keep hnew))
   (try clear hnew)
   refine wp_region_idxT [(0, 0), (1, 0), (2, 0), (3, 0), (5, 0), (6, 0), (7, 0), (4, 2), (8, 2), (9, 2), (10, 1), (11, 2)] (by kernel_rfl) (by kernel_rfl) ?_
   replace hst := hst.drew
   refine idx_q rfl rfl ?_; go_wp2_with fail
   refine idx_q rfl rfl ?_; go_wp2_with fail
   refine idx_q rfl rfl ?_; go_wp2_with (((refine L_cutV (d := some 17) rfl rfl rfl (by rfl) Tryd.underlying36 el_api_Digest (by decide) hx 0 k _ (Or.inl ⟨rfl, rfl⟩) (Or.inr ⟨_, _, rfl, by (exact ev_tmp rfl)⟩) (Or.inl ⟨rfl, rfl⟩) (by omega) (by omega) (by omega) (by omega) ?_; intro A17 c17 hs17)))
   refine idx_q rfl rfl ?_; go_wp2_with fail
   refine idx_q rfl rfl ?_; go_wp2_with fail
   refine idx_q rfl rfl ?_; go_wp2_with fail
   refine idx_q rfl rfl ?_; go_wp2_with (((refine L_cutV (d := some 22) rfl rfl rfl (by rfl) Tryd.underlying36 el_api_Digest (by decide) hx k n _ (Or.inr ⟨_, _, rfl, by (exact ev_tmp rfl)⟩) (Or.inl ⟨rfl, rfl, rfl⟩) (Or.inl ⟨rfl, rfl⟩) (by omega) (by omega) (by omega) (by omega) ?_; intro A22 c22 hs22)))
   refine idx_g rfl ?_; go_wp2_with ((go_at_call 17; (try clear hnew); refine (HI.out A17 c17 _ (by rw [← H1.out]; exact hst.old (by decide) hs17)).mono ?_; rintro e Wk2 ⟨O19, c19, rfl, hnew⟩; replace hst := hst.trans hnew; simp only [List.cons_append, List.nil_append] at hst)); refine ⟨by (exact hnew.below), ?_⟩
   refine idx_g rfl ?_; go_wp2_with ((go_at_call 51; (try clear hnew); refine (rroot_any (n - k) (ls.drop k) A22 c22 _ (by rw [← H2.out]; exact hst.old (by decide) hs22) (by omega)).mono ?_; rintro e Wk3 ⟨rfl, hnew⟩; replace hst := hst.keep hnew)); refine ⟨by (exact hnew.below), ?_⟩
   refine idx_g rfl ?_; go_wp2_with ((refine L_buildS (d := some 24) rfl rfl rfl [_] (bs_1 (ev_tmp rfl)) rfl Tryd.underlying36 el_api_Digest rfl (by (simp [Value.cells, Dig.size]; done)) (by decide) (by decide) ?_; (try clear hnew); intro g24 W24 hnew; replace hst := hst.trans hnew; simp only [List.cons_append, List.nil_append] at hst; simp only [List.flatMap_cons, List.flatMap_nil, List.append_nil, Value.cells, List.toList_toArray] at hst)); refine ⟨by (exact hnew.below), ?_⟩
   refine idx_e rfl ?_; go_wp2_with ((refine L_appendO (d := some 25) rfl rfl hst rfl (by rfl) (by rfl) Tryd.underlying36 el_api_Digest rfl (by decide) (by decide) 1 rfl (by (rfl)) (by (exact hst.sl 0 rfl)) (by (exact oneCell_bytes)) (by omega) ?_; clear hst; intro A25 c25 W25 hst; simp only [List.set_cons_zero, List.set_cons_succ, List.nil_append, Nat.zero_add] at hst))
   refine idx_g rfl ?_; go_wp2_with fail; refine ⟨by (exact Below.refl _ _), ?_⟩
   refine idx_nil ?_
   go_wp2_with fail
   go_ret
   refine ⟨_, _, rfl, ?_⟩
   rw [HB.out] at hst
   (exact hst.pick [1] (by decide))
  ·have hle := longN_le (n - halfN n) (i - halfN n)
   rw [longN_right (by omega) hk]
   have HI := Lib.hid (fun A c w hs => ih (n - halfN n) (by omega) (ls.drop (halfN n)) A c (i - halfN n) w hs (by omega) (by omega))
   have HB := Lib.hid (show digsL (pathN (ls.drop (halfN n)) (i - halfN n)) ++ (rootN (ls.take (halfN n))).arr.toList = digsL (pathN ls i) by
    rw [pathN_right (ls := ls) (by omega) (by rw [hl]; exact hk), hl, digsL_append, digsL_single, Dig.toList])
   have e1 : (((i - halfN n : Nat)) : Int) = (i : Int) - (halfN n : Int) := by omega
   rw [e1] at HI
   clear ih hl e1
   generalize longN (i - halfN n) (n - halfN n) = r at *
   generalize halfN n = k at *
   go_enter Tryd.func17, Tryd.ntmps17
   go_wp2_with ((go_at_call 48; (try clear hnew); refine (HF.out _).mono ?_; rintro e Wk4 ⟨rfl, hnew⟩; replace hst := hst.keep hnew))
   (try clear hnew)
   refine wp_region_idxT [(0, 0), (1, 0), (2, 0), (3, 0), (4, 0), (5, 0), (7, 0), (8, 0), (9, 0), (6, 2), (10, 2), (11, 2), (12, 1), (13, 2)] (by kernel_rfl) (by kernel_rfl) ?_
   replace hst := hst.drew
   refine idx_q rfl rfl ?_; go_wp2_with fail
   refine idx_q rfl rfl ?_; go_wp2_with fail
   refine idx_q rfl rfl ?_; go_wp2_with (((refine L_cutV (d := some 28) rfl rfl rfl (by rfl) Tryd.underlying36 el_api_Digest (by decide) hx k n _ (Or.inr ⟨_, _, rfl, by (exact ev_tmp rfl)⟩) (Or.inl ⟨rfl, rfl, rfl⟩) (Or.inl ⟨rfl, rfl⟩) (by omega) (by omega) (by omega) (by omega) ?_; intro A28 c28 hs28)))
   refine idx_q rfl rfl ?_; go_wp2_with fail
   refine idx_q rfl rfl ?_; go_wp2_with fail
   refine idx_q rfl rfl ?_; go_wp2_with fail
   refine idx_q rfl rfl ?_; go_wp2_with fail
   refine idx_q rfl rfl ?_; go_wp2_with fail
   refine idx_q rfl rfl ?_; go_wp2_with (((refine L_cutV (d := some 35) rfl rfl rfl (by rfl) Tryd.underlying36 el_api_Digest (by decide) hx 0 k _ (Or.inl ⟨rfl, rfl⟩) (Or.inr ⟨_, _, rfl, by (exact ev_tmp rfl)⟩) (Or.inl ⟨rfl, rfl⟩) (by omega) (by omega) (by omega) (by omega) ?_; intro A35 c35 hs35)))
   refine idx_g rfl ?_; go_wp2_with ((go_at_call 17; (try clear hnew); refine (HI.out A28 c28 _ (by rw [← H2.out]; exact hst.old (by decide) hs28)).mono ?_; rintro e Wk5 ⟨O32, c32, rfl, hnew⟩; replace hst := hst.trans hnew; simp only [List.cons_append, List.nil_append] at hst)); refine ⟨by (exact hnew.below), ?_⟩
   refine idx_g rfl ?_; go_wp2_with ((go_at_call 51; (try clear hnew); refine (rroot_any k (ls.take k) A35 c35 _ (by rw [← H1.out]; exact hst.old (by decide) hs35) (by omega)).mono ?_; rintro e Wk6 ⟨rfl, hnew⟩; replace hst := hst.keep hnew)); refine ⟨by (exact hnew.below), ?_⟩
   refine idx_g rfl ?_; go_wp2_with ((refine L_buildS (d := some 37) rfl rfl rfl [_] (bs_1 (ev_tmp rfl)) rfl Tryd.underlying36 el_api_Digest rfl (by (simp [Value.cells, Dig.size]; done)) (by decide) (by decide) ?_; (try clear hnew); intro g37 W37 hnew; replace hst := hst.trans hnew; simp only [List.cons_append, List.nil_append] at hst; simp only [List.flatMap_cons, List.flatMap_nil, List.append_nil, Value.cells, List.toList_toArray] at hst)); refine ⟨by (exact hnew.below), ?_⟩
   refine idx_e rfl ?_; go_wp2_with ((refine L_appendO (d := some 38) rfl rfl hst rfl (by rfl) (by rfl) Tryd.underlying36 el_api_Digest rfl (by decide) (by decide) 1 rfl (by (rfl)) (by (exact hst.sl 0 rfl)) (by (exact oneCell_bytes)) (by omega) ?_; clear hst; intro A38 c38 W38 hst; simp only [List.set_cons_zero, List.set_cons_succ, List.nil_append, Nat.zero_add] at hst))
   refine idx_g rfl ?_; go_wp2_with fail; refine ⟨by (exact Below.refl _ _), ?_⟩
   refine idx_nil ?_
   go_wp2_with fail
   go_ret
   refine ⟨_, _, rfl, ?_⟩
   rw [HB.out] at hst
   (exact hst.pick [1] (by decide))
end Go.Proofs.YtaebeemnipafbaaDoor

set_option maxRecDepth 20000
set_option linter.unusedSimpArgs false
set_option linter.unusedVariables false
namespace Go.Proofs.YtaebeemnipafbaaDoor
open Go.RowKit
attribute [local simp] hdArr_size ntArr_size
theorem take_ext {α : Type} {a b : List α} {i : Nat} (h : a.take i = b.take i) (ha : i < a.length) (hb : i < b.length) (e : a[i] = b[i]) : a.take (i + 1) = b.take (i + 1) := by
 rw [List.take_succ_eq_append_getElem ha, List.take_succ_eq_append_getElem hb, h, e]
set_option maxHeartbeats 40000000 in
set_option maxRecDepth 100000 in
theorem pinForks_any (w : World) (hT : Tb w) (key : List UInt8) (K : Option Addr) (m mc : Nat) (hk : SlR w K m mc 1 (bytesL key)) (hm0 : m * 1 ≤ 140737488351232) (ns : List NoteN) (A : Option Addr) (n nc : Nat) (hx : SlR w A n nc 34 (notesL ns)) (ms : List NoteN) (B : Option Addr) (bn bc : Nat) (hy : SlR w B bn bc 34 (notesL ms)) :
  Calls Tryd.prog 3 #[.slice K m mc, .slice A n nc, .slice B bn bc] w fun e w' => e = .returned (.bool true) ∧ St w w' [] := by
 have hst := St.refl w
 have HT := Lib.hid hT
 have HX := Lib.hid hx
 have HY := Lib.hid hy
 have HK := Lib.hid hk
 have hm : m ≤ 140737488351232 := by omega
 clear hT hx hy hk hm0
 go_enter Tryd.func3, Tryd.ntmps3
 by_cases h40 : 40 < (n : Int)
 ·skip
  go_upto_region 1 with (go_big_may; fail)
  go_upto_region 2 with (go_big_may; (go_at_call 11; refine (added_any _ (HT.out.of hst)).mono ?_; rintro e Wd ⟨rfl, hnew⟩; replace hst := hst.keep hnew; clear hnew))
  go_upto_region 4 with (go_big_may; fail)
  go_upto_region 5 with (first | (with_reducible refine L_pass (t := 23) rfl (by kernel_rfl) ?_) | (with_reducible refine L_pass (t := 24) rfl (by kernel_rfl) ?_) | (with_reducible refine L_pass (t := 25) rfl (by kernel_rfl) ?_))
  go_wp2_with (fail)
  go_ret
  exact ⟨rfl, hst.forget⟩
 by_cases h41 : 40 < (bn : Int)
 ·skip
  go_upto_region 1 with (go_big_may; fail)
  go_upto_region 2 with (go_big_may; (go_at_call 11; refine (added_any _ (HT.out.of hst)).mono ?_; rintro e Wd ⟨rfl, hnew⟩; replace hst := hst.keep hnew; clear hnew))
  go_upto_region 4 with (go_big_may; fail)
  go_upto_region 5 with (go_big_may; fail)
  go_wp2_with (fail)
  go_ret
  exact ⟨rfl, hst.forget⟩
 have HL1 := Lib.hid (fun (w' : World) (ht : Tb w') (h1 : SlR w' K m mc 1 (bytesL key)) (h2 : SlR w' A n nc 34 (notesL ns)) => logged_any w' ht key K m mc h1 (by omega) ns A n nc h2 (by omega))
 have HL2 := Lib.hid (fun (w' : World) (ht : Tb w') (h1 : SlR w' K m mc 1 (bytesL key)) (h2 : SlR w' B bn bc 34 (notesL ms)) => logged_any w' ht key K m mc h1 (by omega) ms B bn bc h2 (by omega))
 go_upto_region 1 with (go_big_may; fail)
 go_upto_region 2 with (go_big_may; (go_at_call 11; refine (added_any _ (HT.out.of hst)).mono ?_; rintro e Wd ⟨rfl, hnew⟩; replace hst := hst.keep hnew; clear hnew))
 go_upto_region 4 with (go_big_may; fail)
 go_upto_region 6 with (go_big_may; fail)
 go_upto_region 7 with (go_big_may; (go_at_call 12; refine (HL1.out _ (HT.out.of hst) (hst.old (by decide) HK.out) (hst.old (by decide) HX.out)).mono ?_; rintro e W1 ⟨p1, N1, O1, oc1, rfl, l1, mp1, pm1, hnew⟩; replace hst := hst.trans hnew; clear hnew))
 go_upto_region 8 with (go_big_may; (go_at_call 12; refine (HL2.out _ (HT.out.of hst) (hst.old (by decide) HK.out) (hst.old (by decide) HY.out)).mono ?_; rintro e W2 ⟨p2, N2, O2, oc2, rfl, l2, mp2, pm2, hnew⟩; replace hst := hst.trans hnew; clear hnew))
 have hz1 := l1.len
 have hz2 := l2.len
 have HH1 := Lib.hid (fun (w' : World) (ht : Tb w') (h : LgAt w' p1 key N1) => headK_any key N1 p1 w' ht h mp1 l1 (by omega))
 have HH2 := Lib.hid (fun (w' : World) (ht : Tb w') (h : LgAt w' p2 key N2) => headK_any key N2 p2 w' ht h mp2 l2 (by omega))
 have HF1 := Lib.hid (fun (w' : World) (ht : Tb w') (h : SlR w' K m mc 1 (bytesL key)) => by
  have := fork_any key K m mc (N1.length : Int) (rootN (lvN N1)) (mapN N1) (N1.length : Int) (rootN (lvN N1)) (mapN N1) w' (by omega) (by omega) (by omega) (by omega) ht h (by omega)
  rw [forkB_self, show tagN key (N1.length : Int) (rootN (lvN N1)) (mapN N1) = headR key N1 from rfl] at this
  exact this)
 have HF2 := Lib.hid (fun (w' : World) (ht : Tb w') (h : SlR w' K m mc 1 (bytesL key)) => by
  have := fork_any key K m mc (N1.length : Int) (rootN (lvN N1)) (mapN N1) (N2.length : Int) (rootN (lvN N2)) (mapN N2) w' (by omega) (by omega) (by omega) (by omega) ht h (by omega)
  rw [show tagN key (N1.length : Int) (rootN (lvN N1)) (mapN N1) = headR key N1 from rfl, show tagN key (N2.length : Int) (rootN (lvN N2)) (mapN N2) = headR key N2 from rfl] at this
  exact this)
 have HO1 := Lib.hid l1.ok
 have HO2 := Lib.hid l2.ok
 clear mp1 mp2 l1 l2 pm1 pm2 HL1 HL2 h40 h41
 obtain ⟨tg1, htg1⟩ : ∃ t, t = headR key N1 := ⟨_, rfl⟩
 obtain ⟨tg2, htg2⟩ : ∃ t, t = headR key N2 := ⟨_, rfl⟩
 obtain ⟨x1, hx1⟩ : ∃ t, t = rootN (lvN N1) := ⟨_, rfl⟩
 obtain ⟨x2, hx2⟩ : ∃ t, t = rootN (lvN N2) := ⟨_, rfl⟩
 obtain ⟨y1, hy1⟩ : ∃ t, t = mapN N1 := ⟨_, rfl⟩
 obtain ⟨y2, hy2⟩ : ∃ t, t = mapN N2 := ⟨_, rfl⟩
 rw [← htg1, ← hx1, ← hy1] at HH1 HF1 HF2
 rw [← htg2, ← hx2, ← hy2] at HH2 HF2
 have HX1 := Lib.hid hx1
 have HX2 := Lib.hid hx2
 have HY1 := Lib.hid hy1
 have HY2 := Lib.hid hy2
 clear htg1 htg2 hx1 hx2 hy1 hy2
 simp only [lgL, List.cons_append, List.nil_append, List.append_nil] at hst
 go_upto_region 10 with (go_big_may; first | (go_at_call 14; (try clear hnew); refine (HH1.out _ (HT.out.of hst) ⟨hst.get 6 rfl, hst.sl 7 rfl, hst.sl 8 rfl, hst.obj 9 rfl, hst.obj 10 rfl⟩).mono ?_; rintro e Wk1 ⟨rfl, hnew⟩; replace hst := hst.keep hnew) | (go_at_call 13; (try clear hnew); refine (HF1.out _ (HT.out.of hst) (hst.old (by decide) HK.out)).mono ?_; rintro e Wk2 ⟨rfl, hnew⟩; replace hst := hst.keep hnew))
 (try clear hnew)
 clear HF1
 by_cases hlen : N1.length = N2.length
 case neg =>
  have hx1 : ((N1.length : Int) != (N2.length : Int)) = true := by simp; omega
  have hfb : forkB (N1.length : Int) x1 y1 (N2.length : Int) x2 y2 = false := forkB_ne (by omega) _ _ _ _
  rw [hfb] at HF2
  clear hfb hlen
  go_upto_region 11 with (go_big_may; fail)
  go_wp2_with (first | (go_at_call_of 14 (Value.pointer (some ⟨p1.g, 0, none⟩)); (try clear hnew); refine (HH1.out _ (HT.out.of hst) ⟨hst.get 6 rfl, hst.sl 7 rfl, hst.sl 8 rfl, hst.obj 9 rfl, hst.obj 10 rfl⟩).mono ?_; rintro e Wk3 ⟨rfl, hnew⟩; replace hst := hst.keep hnew) | (go_at_call_of 14 (Value.pointer (some ⟨p2.g, 0, none⟩)); (try clear hnew); refine (HH2.out _ (HT.out.of hst) ⟨hst.get 0 rfl, hst.sl 1 rfl, hst.sl 2 rfl, hst.obj 3 rfl, hst.obj 4 rfl⟩).mono ?_; rintro e Wk4 ⟨rfl, hnew⟩; replace hst := hst.keep hnew) | (go_at_call 13; (try clear hnew); refine (HF2.out _ (HT.out.of hst) (hst.old (by decide) HK.out)).mono ?_; rintro e Wk5 ⟨rfl, hnew⟩; replace hst := hst.keep hnew))
  go_ret
  exact ⟨rfl, hst.forget⟩
 have hx1 : ((N1.length : Int) != (N2.length : Int)) = false := by simp; omega
 go_upto_region 12 with (go_big_may; fail)
 go_wp2_with (fail)
 have HLen := Lib.hid hlen
 have hL256 : N1.length ≤ 256 := by omega
 clear hx1 hlen hz1 hz2
 go_loopg [12] N1.length (fun gk s12 wr => ∃ i : Nat, Hid (gk + i = N1.length) ∧ Hid (N1.take i = N2.take i) ∧ s12 = .int .i64 (i : Int) ∧ St w wr (lgL p2 key N2 ++ .row O2 N2.length oc2 35 34 (notesL N2) :: (lgL p1 key N1 ++ [.row O1 N1.length oc1 35 34 (notesL N1)])))
 case atStart => exact ⟨0, Lib.hid rfl, Lib.hid rfl, rfl, hst⟩
 case round =>
  clear hst
  obtain ⟨i, HI, HTk, rfl, hst⟩ := hrel
  simp only [lgL, List.cons_append, List.nil_append] at hst
  have hi := HI.out
  by_cases hlt : i < N1.length
  ·obtain ⟨g, rfl⟩ : ∃ g, gk = g + 1 := ⟨gk - 1, by omega⟩
   have hi1 : i < N1.length := hlt
   have hi2 : i < N2.length := by rw [← HLen.out]; exact hlt
   have HC1 := Lib.hid (fun (W : World) (g off : Nat) h => note_cells (W := W) (g := g) (off := off) (i := i) (ns := N1) h hi1)
   have HC2 := Lib.hid (fun (W : World) (g off : Nat) h => note_cells (W := W) (g := g) (off := off) (i := i) (ns := N2) h hi2)
   unfold NoteN.arr at HC1 HC2
   have HEq := Lib.hid (fun w => eqNote N1[i].name N2[i].name N1[i].key N2[i].key N1[i].turn N2[i].turn w)
   have hxt : N1[i] = N2[i] ↔ (N1[i].name = N2[i].name ∧ N1[i].key = N2[i].key ∧ N1[i].turn = N2[i].turn) := ⟨fun e => by rw [e]; exact ⟨rfl, rfl, rfl⟩, fun h => NoteN.ext' h.1 h.2.1 h.2.2⟩
   have HTn := Lib.hid (fun e => take_ext HTk.out hi1 hi2 e)
   obtain ⟨u1, hu1⟩ : ∃ q, q = N1[i] := ⟨_, rfl⟩
   obtain ⟨u2, hu2⟩ : ∃ q, q = N2[i] := ⟨_, rfl⟩
   rw [← hu1] at HC1
   rw [← hu2] at HC2
   rw [← hu1, ← hu2] at HEq hxt HTn
   clear hu1 hu2
   by_cases huu : u1 = u2
   ·have HE := Lib.hid (fun w => (HEq.out w).trans (by rw [decide_eq_true (hxt.1 huu)]))
    have HTn' := Lib.hid (HTn.out huu)
    clear HEq hxt huu HTn hi hi1
    go_upto_region 15 with (go_big_may; fail)
    refine wp_region_idx [(0, 0), (1, 0), (2, 0), (3, 0), (4, 0), (5, 2), (6, 2), (7, 2), (8, 2)] (by kernel_rfl) (by kernel_rfl) ?_
    replace hst := hst.drew
    refine idx_q rfl rfl ?_; go_wp2_with fail
    refine idx_q rfl rfl ?_; go_wp2_with fail
    refine idx_q rfl rfl ?_; go_wp2_with ((refine L_idxS (d := some 73) rfl rfl rfl (by rfl) (by rfl) Tryd.underlying23 el_api_Note (by (exact hst.sl 11 rfl)) (by omega) (by omega) ?_; intro o73 p73 ha73 hr73; ((subst ha73))))
    refine idx_q rfl rfl ?_; go_wp2_with ((refine L_loadM (d := some 74) rfl rfl rfl (by rfl) Tryd.underlying35 rfl el_api_Note (HC1.out _ _ _ hr73) (ntArr_size _ _ _) ?_))
    refine idx_q rfl rfl ?_; go_wp2_with fail
    refine idx_g rfl ?_; go_wp2_with fail; refine ⟨by (exact Below.refl _ _), ?_⟩
    refine idx_g rfl ?_; go_wp2_with ((refine L_idxS (d := some 77) rfl rfl rfl (by rfl) (by rfl) Tryd.underlying23 el_api_Note (by (exact hst.sl 5 rfl)) (by omega) (by omega) ?_; intro o77 p77 ha77 hr77; ((subst ha77)))); refine ⟨by (exact Below.refl _ _), ?_⟩
    refine idx_g rfl ?_; go_wp2_with ((refine L_loadM (d := some 78) rfl rfl rfl (by rfl) Tryd.underlying35 rfl el_api_Note (HC2.out _ _ _ hr77) (ntArr_size _ _ _) ?_)); refine ⟨by (exact Below.refl _ _), ?_⟩
    refine idx_g rfl ?_; go_wp2_with ((refine L_eqA (d := some 79) rfl rfl rfl eqG_Note (ev_tmp rfl) (ev_tmp rfl) (HE.out _) ?_)); refine ⟨by (exact Below.refl _ _), ?_⟩
    refine idx_nil ?_
    go_wp2_with (fail)
    go_roundg g
    case measure => omega
    case rel => exact ⟨i + 1, Lib.hid (by have := HI.out; omega), HTn', by go_num, hst⟩
   ·have HE := Lib.hid (fun w => (HEq.out w).trans (by rw [decide_eq_false (fun h => huu (hxt.2 h))]))
    clear HEq hxt huu HTn hi hi1
    go_upto_region 15 with (go_big_may; fail)
    refine wp_region_idx [(0, 0), (1, 0), (2, 0), (3, 0), (4, 0), (5, 2), (6, 2), (7, 2), (8, 2)] (by kernel_rfl) (by kernel_rfl) ?_
    replace hst := hst.drew
    refine idx_q rfl rfl ?_; go_wp2_with fail
    refine idx_q rfl rfl ?_; go_wp2_with fail
    refine idx_q rfl rfl ?_; go_wp2_with ((refine L_idxS (d := some 73) rfl rfl rfl (by rfl) (by rfl) Tryd.underlying23 el_api_Note (by (exact hst.sl 11 rfl)) (by omega) (by omega) ?_; intro o73 p73 ha73 hr73; ((subst ha73))))
    refine idx_q rfl rfl ?_; go_wp2_with ((refine L_loadM (d := some 74) rfl rfl rfl (by rfl) Tryd.underlying35 rfl el_api_Note (HC1.out _ _ _ hr73) (ntArr_size _ _ _) ?_))
    refine idx_q rfl rfl ?_; go_wp2_with fail
    refine idx_g rfl ?_; go_wp2_with fail; refine ⟨by (exact Below.refl _ _), ?_⟩
    refine idx_g rfl ?_; go_wp2_with ((refine L_idxS (d := some 77) rfl rfl rfl (by rfl) (by rfl) Tryd.underlying23 el_api_Note (by (exact hst.sl 5 rfl)) (by omega) (by omega) ?_; intro o77 p77 ha77 hr77; ((subst ha77)))); refine ⟨by (exact Below.refl _ _), ?_⟩
    refine idx_g rfl ?_; go_wp2_with ((refine L_loadM (d := some 78) rfl rfl rfl (by rfl) Tryd.underlying35 rfl el_api_Note (HC2.out _ _ _ hr77) (ntArr_size _ _ _) ?_)); refine ⟨by (exact Below.refl _ _), ?_⟩
    refine idx_g rfl ?_; go_wp2_with ((refine L_eqA (d := some 79) rfl rfl rfl eqG_Note (ev_tmp rfl) (ev_tmp rfl) (HE.out _) ?_)); refine ⟨by (exact Below.refl _ _), ?_⟩
    refine idx_nil ?_
    clear HE HC1 HC2
    by_cases hfb : forkB (N1.length : Int) x1 y1 (N2.length : Int) x2 y2 = true
    ·rw [hfb] at HF2
     clear hfb
     go_upto_region 17 with (go_big_may; first | (go_at_call_of 14 (Value.pointer (some ⟨p1.g, 0, none⟩)); (try clear hnew); refine (HH1.out _ (HT.out.of hst) ⟨hst.get 6 rfl, hst.sl 7 rfl, hst.sl 8 rfl, hst.obj 9 rfl, hst.obj 10 rfl⟩).mono ?_; rintro e Wk6 ⟨rfl, hnew⟩; replace hst := hst.keep hnew) | (go_at_call_of 14 (Value.pointer (some ⟨p2.g, 0, none⟩)); (try clear hnew); refine (HH2.out _ (HT.out.of hst) ⟨hst.get 0 rfl, hst.sl 1 rfl, hst.sl 2 rfl, hst.obj 3 rfl, hst.obj 4 rfl⟩).mono ?_; rintro e Wk7 ⟨rfl, hnew⟩; replace hst := hst.keep hnew) | (go_at_call 13; (try clear hnew); refine (HF2.out _ (HT.out.of hst) (hst.old (by decide) HK.out)).mono ?_; rintro e Wk8 ⟨rfl, hnew⟩; replace hst := hst.keep hnew))
     go_wp2_with (fail)
     go_ret
     exact ⟨rfl, hst.forget⟩
    have hfb' : forkB (N1.length : Int) x1 y1 (N2.length : Int) x2 y2 = false := by simpa using hfb
    rw [hfb'] at HF2
    rw [← HLen.out] at hfb'
    have HXX := Lib.hid (forkB_no hfb').1
    clear hfb hfb'
    go_upto_region 18 with (go_big_may; first | (go_at_call_of 14 (Value.pointer (some ⟨p1.g, 0, none⟩)); (try clear hnew); refine (HH1.out _ (HT.out.of hst) ⟨hst.get 6 rfl, hst.sl 7 rfl, hst.sl 8 rfl, hst.obj 9 rfl, hst.obj 10 rfl⟩).mono ?_; rintro e Wk9 ⟨rfl, hnew⟩; replace hst := hst.keep hnew) | (go_at_call_of 14 (Value.pointer (some ⟨p2.g, 0, none⟩)); (try clear hnew); refine (HH2.out _ (HT.out.of hst) ⟨hst.get 0 rfl, hst.sl 1 rfl, hst.sl 2 rfl, hst.obj 3 rfl, hst.obj 4 rfl⟩).mono ?_; rintro e Wk10 ⟨rfl, hnew⟩; replace hst := hst.keep hnew) | (go_at_call 13; (try clear hnew); refine (HF2.out _ (HT.out.of hst) (hst.old (by decide) HK.out)).mono ?_; rintro e Wk11 ⟨rfl, hnew⟩; replace hst := hst.keep hnew))
    (try clear hnew)
    clear HH1 HH2 HF2
    have hla : (lvN N1).length = N1.length := length_lvN N1
    have hlb : (lvN N2).length = N1.length := by rw [length_lvN]; exact HLen.out.symm
    have hp1 := folded_path N1.length (lvN N1) i hla hlt
    have hp2 := folded_path N1.length (lvN N2) i hlb hlt
    rw [← HX1.out] at hp1
    rw [← HX2.out, ← HXX.out] at hp2
    have HLv1 := Lib.hid (fun (w' : World) h => rleaves_any none 0 0 N1 (some ⟨o73, p73, none⟩) N1.length oc1 w' h HO1.out hL256)
    have HLv2 := Lib.hid (fun (w' : World) h => rleaves_any none 0 0 N2 (some ⟨o77, p77, none⟩) N2.length oc2 w' h HO2.out (by rw [← HLen.out]; exact hL256))
    have HP1 := Lib.hid (fun (A : Option Addr) (c : Nat) (w' : World) h => rpath_any N1.length (lvN N1) A c i w' h hlt hL256)
    have HP2 := Lib.hid (fun (A : Option Addr) (c : Nat) (w' : World) h => by
     have := rpath_any N2.length (lvN N2) A c i w' h hi2 (by rw [← HLen.out]; exact hL256)
     rw [show longN i N2.length = longN i N1.length by rw [HLen.out]] at this
     exact this)
    have HD1 := Lib.hid (digsL_at (lvN N1) i (by omega))
    have HD2 := Lib.hid (digsL_at (lvN N2) i (by omega))
    generalize ha : (lvN N1)[i]'(by omega) = a at hp1 HD1
    generalize hb : (lvN N2)[i]'(by omega) = b at hp2 HD2
    clear ha hb
    generalize lvN N1 = xs at *
    generalize lvN N2 = ys at *
    have HCl := Lib.hid (fun (w' : World) (A B : Option Addr) (c d : Nat) h1 h2 hab => clash_any N1.length a b (pathN xs i) (pathN ys i) A B (longN i N1.length) c d i w' h1 h2 rfl hlt hL256 (hp1.trans hp2.symm) hab)
    generalize pathN xs i = px at *
    generalize pathN ys i = py at *
    generalize longN i N1.length = lg at *
    clear hp1 hp2 hla hlb
    go_upto_region 19 with (go_big_may; first | (refine L_buildQ1 (d := some 87) rfl rfl rfl (ev_tmp rfl) ?_) | (go_at_call 15; (try clear hnew); refine (HLv1.out _ (hst.sl 11 rfl)).mono ?_; rintro e Wk12 ⟨X, xc, rfl, hnew⟩; replace hst := hst.trans hnew; simp only [List.cons_append, List.nil_append] at hst))
    go_upto_region 20 with (go_big_may; first | (refine L_buildQ1 (d := some 90) rfl rfl rfl (ev_tmp rfl) ?_) | (go_at_call 15; (try clear hnew); refine (HLv2.out _ (hst.sl 6 rfl)).mono ?_; rintro e Wk13 ⟨Y, yc, rfl, hnew⟩; replace hst := hst.trans hnew; simp only [List.cons_append, List.nil_append] at hst))
    (try clear hnew)
    by_cases hab : a = b
    ·have HAB := Lib.hid (show decide (a = b) = true from decide_eq_true hab)
     clear hab HCl
     refine wp_region_idx [(0, 0), (1, 0), (2, 0), (3, 0), (4, 0), (5, 2), (6, 2), (7, 2), (8, 2)] (by kernel_rfl) (by kernel_rfl) ?_
     replace hst := hst.drew
     refine idx_q rfl rfl ?_; go_wp2_with fail
     refine idx_q rfl rfl ?_; go_wp2_with fail
     refine idx_q rfl rfl ?_; go_wp2_with ((refine L_idxS (d := some 94) rfl rfl rfl (by rfl) (by rfl) Tryd.underlying36 el_api_Digest (by (exact hst.sl 1 rfl)) (by omega) (by omega) ?_; intro o94 p94 ha94 hr94; ((subst ha94))))
     refine idx_q rfl rfl ?_; go_wp2_with ((refine L_loadM (d := some 95) rfl rfl rfl (by rfl) Tryd.underlying30 rfl el_api_Digest (cs := a.arr) (by rw [Dig.toList, ← HD1.out]; exact hr94) (Dig.size _) ?_))
     refine idx_q rfl rfl ?_; go_wp2_with fail
     refine idx_g rfl ?_; go_wp2_with fail; refine ⟨by (exact Below.refl _ _), ?_⟩
     refine idx_g rfl ?_; go_wp2_with ((refine L_idxS (d := some 98) rfl rfl rfl (by rfl) (by rfl) Tryd.underlying36 el_api_Digest (by (exact hst.sl 0 rfl)) (by omega) (by omega) ?_; intro o98 p98 ha98 hr98; ((subst ha98)))); refine ⟨by (exact Below.refl _ _), ?_⟩
     refine idx_g rfl ?_; go_wp2_with ((refine L_loadM (d := some 99) rfl rfl rfl (by rfl) Tryd.underlying30 rfl el_api_Digest (cs := b.arr) (by rw [Dig.toList, ← HD2.out]; exact hr98) (Dig.size _) ?_)); refine ⟨by (exact Below.refl _ _), ?_⟩
     refine idx_g rfl ?_; go_wp2_with ((refine L_eqD (d := some 100) rfl rfl rfl Tryd.underlying30 Tryd.underlying5 el_uint8 eqG_D (ev_tmp rfl) (ev_tmp rfl) ?_; (try rw [HAB.out]))); refine ⟨by (exact Below.refl _ _), ?_⟩
     refine idx_nil ?_
     go_wp2_with (fail)
     go_ret
     exact ⟨rfl, hst.forget⟩
    ·have HAB := Lib.hid (show decide (a = b) = false from decide_eq_false hab)
     have HCl2 := Lib.hid (fun (w' : World) (A B : Option Addr) (c d : Nat) h1 h2 => HCl.out w' A B c d h1 h2 hab)
     clear hab HCl
     refine wp_region_idx [(0, 0), (1, 0), (2, 0), (3, 0), (4, 0), (5, 2), (6, 2), (7, 2), (8, 2)] (by kernel_rfl) (by kernel_rfl) ?_
     replace hst := hst.drew
     refine idx_q rfl rfl ?_; go_wp2_with fail
     refine idx_q rfl rfl ?_; go_wp2_with fail
     refine idx_q rfl rfl ?_; go_wp2_with ((refine L_idxS (d := some 94) rfl rfl rfl (by rfl) (by rfl) Tryd.underlying36 el_api_Digest (by (exact hst.sl 1 rfl)) (by omega) (by omega) ?_; intro o94 p94 ha94 hr94; ((subst ha94))))
     refine idx_q rfl rfl ?_; go_wp2_with ((refine L_loadM (d := some 95) rfl rfl rfl (by rfl) Tryd.underlying30 rfl el_api_Digest (cs := a.arr) (by rw [Dig.toList, ← HD1.out]; exact hr94) (Dig.size _) ?_))
     refine idx_q rfl rfl ?_; go_wp2_with fail
     refine idx_g rfl ?_; go_wp2_with fail; refine ⟨by (exact Below.refl _ _), ?_⟩
     refine idx_g rfl ?_; go_wp2_with ((refine L_idxS (d := some 98) rfl rfl rfl (by rfl) (by rfl) Tryd.underlying36 el_api_Digest (by (exact hst.sl 0 rfl)) (by omega) (by omega) ?_; intro o98 p98 ha98 hr98; ((subst ha98)))); refine ⟨by (exact Below.refl _ _), ?_⟩
     refine idx_g rfl ?_; go_wp2_with ((refine L_loadM (d := some 99) rfl rfl rfl (by rfl) Tryd.underlying30 rfl el_api_Digest (cs := b.arr) (by rw [Dig.toList, ← HD2.out]; exact hr98) (Dig.size _) ?_)); refine ⟨by (exact Below.refl _ _), ?_⟩
     refine idx_g rfl ?_; go_wp2_with ((refine L_eqD (d := some 100) rfl rfl rfl Tryd.underlying30 Tryd.underlying5 el_uint8 eqG_D (ev_tmp rfl) (ev_tmp rfl) ?_; (try rw [HAB.out]))); refine ⟨by (exact Below.refl _ _), ?_⟩
     refine idx_nil ?_
     go_wp2_with fail
     refine wp_region_idx [(0, 0), (1, 0), (2, 0), (3, 0), (4, 0), (5, 0), (7, 0), (8, 0), (9, 0), (10, 0), (11, 0), (12, 0), (14, 0), (15, 0), (16, 0), (6, 2), (13, 2), (17, 2), (18, 2)] (by kernel_rfl) (by kernel_rfl) ?_
     replace hst := hst.drew
     refine idx_q rfl rfl ?_; go_wp2_with fail
     refine idx_q rfl rfl ?_; go_wp2_with fail
     refine idx_q rfl rfl ?_; go_wp2_with ((refine L_idxS (d := some 103) rfl rfl rfl (by rfl) (by rfl) Tryd.underlying36 el_api_Digest (by (exact hst.sl 1 rfl)) (by omega) (by omega) ?_; intro o103 p103 ha103 hr103; ((obtain ⟨h1, h2⟩ := some_addr ha103; subst h1; subst h2; clear ha103))))
     refine idx_q rfl rfl ?_; go_wp2_with ((refine L_loadM (d := some 104) rfl rfl rfl (by rfl) Tryd.underlying30 rfl el_api_Digest (cs := a.arr) (by rw [Dig.toList, ← HD1.out]; exact hr103) (Dig.size _) ?_))
     refine idx_q rfl rfl ?_; go_wp2_with fail
     refine idx_q rfl rfl ?_; go_wp2_with fail
     refine idx_q rfl rfl ?_; go_wp2_with fail
     refine idx_q rfl rfl ?_; go_wp2_with fail
     refine idx_q rfl rfl ?_; go_wp2_with ((refine L_idxS (d := some 110) rfl rfl rfl (by rfl) (by rfl) Tryd.underlying36 el_api_Digest (by (exact hst.sl 0 rfl)) (by omega) (by omega) ?_; intro o110 p110 ha110 hr110; ((obtain ⟨h1, h2⟩ := some_addr ha110; subst h1; subst h2; clear ha110))))
     refine idx_q rfl rfl ?_; go_wp2_with ((refine L_loadM (d := some 111) rfl rfl rfl (by rfl) Tryd.underlying30 rfl el_api_Digest (cs := b.arr) (by rw [Dig.toList, ← HD2.out]; exact hr110) (Dig.size _) ?_))
     refine idx_q rfl rfl ?_; go_wp2_with fail
     refine idx_q rfl rfl ?_; go_wp2_with fail
     refine idx_q rfl rfl ?_; go_wp2_with fail
     refine idx_q rfl rfl ?_; go_wp2_with fail
     refine idx_q rfl rfl ?_; go_wp2_with (fail)
     refine idx_g rfl ?_; go_wp2_with ((go_at_call_of 17 (Value.slice (some ⟨o94, p94, none⟩) N1.length xc); (try clear hnew); refine (HP1.out _ _ _ (hst.sl 1 rfl)).mono ?_; rintro e Wp ⟨Q1, q1c, rfl, hnew⟩; replace hst := hst.trans hnew; simp only [List.cons_append, List.nil_append] at hst)); refine ⟨by (exact hnew.below), ?_⟩
     refine idx_g rfl ?_; go_wp2_with ((go_at_call_of 17 (Value.slice (some ⟨o98, p98, none⟩) N2.length yc); (try clear hnew); refine (HP2.out _ _ _ (hst.sl 1 rfl)).mono ?_; rintro e Wp ⟨Q2, q2c, rfl, hnew⟩; replace hst := hst.trans hnew; simp only [List.cons_append, List.nil_append] at hst)); refine ⟨by (exact hnew.below), ?_⟩
     refine idx_g rfl ?_; go_wp2_with ((go_at_call 16; (try clear hnew); refine (HCl2.out _ _ _ _ _ (hst.sl 1 rfl) (hst.sl 0 rfl)).mono ?_; rintro e Wk14 ⟨rfl, hnew⟩; replace hst := hst.keep hnew)); refine ⟨by (exact hnew.below), ?_⟩
     refine idx_g rfl ?_; go_wp2_with fail; refine ⟨by (exact Below.refl _ _), ?_⟩
     refine idx_nil ?_
     go_wp2_with (fail)
     go_ret
     exact ⟨rfl, hst.forget⟩
  ·obtain rfl : gk = 0 := by omega
   obtain rfl : i = N1.length := by omega
   have hNN : N1 = N2 := by have := HTk.out; rwa [List.take_length, HLen.out, List.take_length] at this
   have hfb : forkB (N1.length : Int) x1 y1 (N2.length : Int) x2 y2 = false := by rw [← HLen.out, HX1.out, HY1.out, hNN, ← HX2.out, ← HY2.out]; exact forkB_self _ _ _
   rw [hfb] at HF2
   clear hNN hfb hi hlt HTk HI
   go_upto_region 24 with (go_big_may; fail)
   go_wp2_with (first | (go_at_call_of 14 (Value.pointer (some ⟨p1.g, 0, none⟩)); (try clear hnew); refine (HH1.out _ (HT.out.of hst) ⟨hst.get 6 rfl, hst.sl 7 rfl, hst.sl 8 rfl, hst.obj 9 rfl, hst.obj 10 rfl⟩).mono ?_; rintro e Wk15 ⟨rfl, hnew⟩; replace hst := hst.keep hnew) | (go_at_call_of 14 (Value.pointer (some ⟨p2.g, 0, none⟩)); (try clear hnew); refine (HH2.out _ (HT.out.of hst) ⟨hst.get 0 rfl, hst.sl 1 rfl, hst.sl 2 rfl, hst.obj 3 rfl, hst.obj 4 rfl⟩).mono ?_; rintro e Wk16 ⟨rfl, hnew⟩; replace hst := hst.keep hnew) | (go_at_call 13; (try clear hnew); refine (HF2.out _ (HT.out.of hst) (hst.old (by decide) HK.out)).mono ?_; rintro e Wk17 ⟨rfl, hnew⟩; replace hst := hst.keep hnew))
   go_ret
   exact ⟨rfl, hst.forget⟩
end Go.Proofs.YtaebeemnipafbaaDoor

namespace Go.Proofs.YtaebeemnipafbaaDoor.pinForks
open Go.ChangeShapes Go.WideShapes Go.ChangeAt Go.RowKit
theorem own : ownKnob Tryd.prog.godebug = none := by kernel_rfl
theorem laidOut : laidOutB Tryd.prog = true := by kernel_rfl
theorem cellsD : Tryd.prog.cellsOf 30 = 32 := by kernel_rfl
theorem cells8 : Tryd.prog.cellsOf 5 = 1 := by kernel_rfl
set_option maxHeartbeats 4000000 in
set_option maxRecDepth 100000 in
theorem contract (H : Type) (enc : TypeId × Value → H) (W : World) (base : Nat) (args : Array Value) (ds gs : List (DataW H)) (before : List MemPlace)
  (hval : ∀ (j : Nat) t v, Tryd.f3.params[j]? = some t → args[j]? = some v → Value.okWide Tryd.prog W .any base t v)
  (hW : DataW.Whole enc Tryd.prog Tryd.f3.params.toList Rows.pinForksSpec.vars false W args.toList ds gs before) (hT : Tb W)
  (hz : (DataW.weightsEach Tryd.prog (Tryd.f3.params.toList ++ (OpenSpec.ofChange Rows.pinForksSpec).bare.plain.varTypes Tryd.prog) (ds ++ gs)).all (· ≤ reachBytes) = true) :
  Calls Tryd.prog 3 args W fun e W' => ∃ v, e = .returned v ∧ Rows.pinForksSpec.post enc Tryd.prog Tryd.f3 false true false false W args v W' := by
 have hW' := hW
 obtain ⟨p, q, hA0, hV, rfl, hfz, hnd⟩ := hW
 have hA : DataW.TrodAll enc Tryd.prog W 0 (fun _ => true) true Tryd.f3.params.toList args.toList ds p := hA0
 rw [Tryd.params3] at hA hval hz
 obtain ⟨v0, vs0, d0, ds0, p0, q0, hargs, rfl, rfl, h0, r0⟩ := trodAll_cons hA
 obtain ⟨v1, vs1, d1, ds1, p1, q1, rfl, rfl, rfl, h1, r1⟩ := trodAll_cons r0
 obtain ⟨v2, vs2, d2, ds2, p2, q2, rfl, rfl, rfl, h2, r2⟩ := trodAll_cons r1
 obtain ⟨rfl, rfl, rfl⟩ := trodAll_nil r2
 obtain rfl : args = #[v0, v1, v2] := by cases args; simp_all
 obtain ⟨rfl, rfl⟩ := trodVars_none hV
 obtain ⟨A0, n0, c0, a0, rfl, hs0, hd0⟩ := open_bytesS Tryd.underlying22 Tryd.underlying5 cells8 (hval 0 _ v0 rfl rfl) h0
 have hn0 : n0 * 1 ≤ 140737488351232 := by
  rcases hd0 with ⟨_, h0⟩ | ⟨el, sp, rfl, hel⟩
  ·rw [h0]; decide
  ·have := sized_slice hz (j := 0) (e := 5) rfl rfl Tryd.underlying22
   rw [show Tryd.prog.bytesOf 5 = 1 from by kernel_rfl] at this
   have := reach_le this
   rw [← hel]
   omega
 obtain ⟨A1, n1, c1, a1, rfl, hs1, hw1, hd1⟩ := open_notesS Tryd.underlying23 Tryd.underlying35 Tryd.underlying9 rfl Tryd.underlying3 Tryd.underlying30 Tryd.underlying5 cells8 cellsD rfl rfl rfl (by kernel_rfl) (by kernel_rfl) (by kernel_rfl) (hval 1 _ v1 rfl rfl) h1
 obtain ⟨A2, n2, c2, a2, rfl, hs2, hw2, hd2⟩ := open_notesS Tryd.underlying23 Tryd.underlying35 Tryd.underlying9 rfl Tryd.underlying3 Tryd.underlying30 Tryd.underlying5 cells8 cellsD rfl rfl rfl (by kernel_rfl) (by kernel_rfl) (by kernel_rfl) (hval 2 _ v2 rfl rfl) h2
 have lt0 : ∀ x ∈ p0, x.block < W.heap.size := by obtain ⟨m, hm⟩ := h0; exact DataW.trod_lt m _ _ _ hm
 have lt1 : ∀ x ∈ p1, x.block < W.heap.size := by obtain ⟨m, hm⟩ := h1; exact DataW.trod_lt m _ _ _ hm
 have lt2 : ∀ x ∈ p2, x.block < W.heap.size := by obtain ⟨m, hm⟩ := h2; exact DataW.trod_lt m _ _ _ hm
 clear hA0
 refine (pinForks_any W hT a0 A0 n0 c0 hs0 hn0 a1 A1 n1 c1 hs1 a2 A2 n2 c2 hs2).mono fun e W' ⟨he, hst⟩ => ?_
 have bel := hst.below
 subst he
 exact ⟨_, rfl, _, _, _, [], _, [], hW', trodAll_mk1 (shut_bool Tryd.underlying4 _),
  (trodAll_cons_mk (Below.trod laidOut (by kernel_rfl) (of_decide_eq_true (by kernel_rfl)) h0 bel lt0) (trodAll_cons_mk (Below.trod laidOut (by kernel_rfl) (of_decide_eq_true (by kernel_rfl)) h1 bel lt1) (trodAll_cons_mk (Below.trod laidOut (by kernel_rfl) (of_decide_eq_true (by kernel_rfl)) h2 bel lt2) trodAll_mk0))), rfl, bel.frame _, fun h => by cases h⟩
noncomputable def laidWorld (os : Os) : World :=
 { World.holding Tryd.prog os ⟨#[], #[], []⟩ with heap := (World.holding Tryd.prog os ⟨#[], #[], []⟩).heap.modify 1 fun
   | .cells _ t frozen => .cells tblArr t frozen
   | o => o }
theorem laid_met (os : Os) : laidMet Tryd.prog Rows.pinForksRow.laid ((laidWorld os).forCall (fun _ _ => 0) ⟨#[], #[.slice none 0 0, .slice none 0 0, .slice none 0 0], []⟩).memory :=
 laidMet_of_run' 8 (by kernel_rfl) (by kernel_rfl)
theorem reads (os : Os) {H : Type} (enc : TypeId × Value → H) : ∃ places, DataW.whole enc Tryd.prog ((laidWorld os).forCall (fun _ _ => 0) ⟨#[], #[.slice none 0 0, .slice none 0 0, .slice none 0 0], []⟩).memory Tryd.f3.params.toList Rows.pinForksSpec.vars false (#[.slice none 0 0, .slice none 0 0, .slice none 0 0] : Array Value).toList 8 = some ([.nil, .nil, .nil], [], places) :=
 ⟨[], by kernel_rfl⟩
set_option maxRecDepth 100000 in
theorem lifted (os : Os) (started : os.Started) (H : Type) (enc : TypeId × Value → H) (F : Stop.Interp) :
  ReturnsInHanded {} Tryd.checked os 3 .any ((OpenSpec.ofChange Rows.pinForksSpec).preRow enc Tryd.prog Tryd.f3 Rows.pinForksRow.domain false Rows.pinForksRow.laid) (((OpenSpec.ofChange Rows.pinForksSpec).at F).post enc Tryd.prog Tryd.f3 false true false false) := by
 obtain ⟨places, hx⟩ := reads os enc
 refine returnsInHanded_of_row (C := Tryd.checked) (s := (OpenSpec.ofChange Rows.pinForksSpec)) own started (by kernel_rfl) Tryd.func3
  (witness_row_at (enc := enc) (C := Tryd.checked) false (laidWorld os) #[.slice none 0 0, .slice none 0 0, .slice none 0 0] rfl (by kernel_rfl) (by kernel_rfl) (by kernel_rfl)
   (OpenSpec.preRow_of_cond 8 hx (by kernel_rfl) (fun k hk => by cases hk) (by kernel_rfl) (laid_met os))) ?_
 intro W base args ds gs before hval hW _ _ hz hL _ _
 exact contract H enc W base args ds gs before hval hW (tb_of hL) hz
theorem said : Rows.PinForksSaid :=
 OpenClaim.holds_of_cond 3 Tryd.f3 rfl rfl rfl rfl rfl rfl rfl ⟨rfl, rfl, rfl, rfl, rfl⟩ rfl rfl rfl rfl rfl (by kernel_rfl) Tryd.func3 (by kernel_rfl)
  (of_decide_eq_true (by kernel_rfl)) (by unfold Func.isWrapper; first | (rw [if_pos (by decide +kernel)]; kernel_rfl) | (rw [if_neg (by decide +kernel)]; exact ⟨rfl, rfl⟩))
  (fun os started H enc _ F => by rw [OpenClaim.pre_eq_preRow]; exact lifted os started H enc F)
theorem plain (f : FuncId) (fn : Func) (hf : Tryd.pinned.checked.prog.funcNamed "oathbook/oathbooklaw3.PinForks" = some f) (hfn : Tryd.pinned.checked.prog.funcs[f]? = some fn) :
  true = Tryd.pinned.checked.prog.looks [] ∧ ∀ (j : Nat) t, fn.params[j]? = some t → Tryd.pinned.checked.prog.wantsStandIn t = false := by
 obtain rfl : f = 3 := Option.some.inj ((show Tryd.prog.funcNamed "oathbook/oathbooklaw3.PinForks" = some 3 by kernel_rfl).symm.trans hf) |>.symm
 obtain rfl : fn = Tryd.f3 := (Option.some.inj (Tryd.func3.symm.trans hfn)).symm
 refine ⟨by kernel_rfl, fun j t ht => ?_⟩
 rw [Tryd.params3] at ht
 have hm := Array.mem_of_getElem? ht
 have ha : ∀ t ∈ #[22, 23, 23], Tryd.prog.wantsStandIn t = false := by
  intro t ht
  simp only [List.mem_toArray, List.mem_cons, List.not_mem_nil, or_false] at ht
  rcases ht with rfl | rfl | rfl <;> kernel_rfl
 exact ha t hm
theorem proved : Rows.PinForksCardSaid :=
 Claim7.holds_tied_plain_at .later [] _ _ _ _ said (fun _ h => by cases h) (by kernel_rfl) (fun _ h => by cases h) pinForks_row_tie rfl ⟨rfl, rfl⟩ (by kernel_rfl) rfl plain (by kernel_rfl)
#print axioms proved
end Go.Proofs.YtaebeemnipafbaaDoor.pinForks
