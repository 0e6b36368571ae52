/-
  Proved here, ahead of several laws: contracts of the log, of its looks, of the reference.
-/
import Derived.Test.YtaebeemnipafbaaGreatDoorPkLogLooksA
import Derived.Test.YtaebeemnipafbaaGreatDoorClone
import Derived.Test.YtaebeemnipafbaaGreatDoorSha
import Derived.Test.YtaebeemnipafbaaGreatDoorLaw
import Derived.Test.YtaebeemnipafbaaGreatDoorMaps
import Derived.Sort.Statements
import Derived.Lib.SlBy
import Derived.Test.YtaebeemnipafbaaGreatDoorPkLogLooksB
import Derived.Test.YtaebeemnipafbaaGreatDoorShelf
import Derived.Shelf.SlSortCmp.WholeK
import Derived.Shelf.SlSortCmp.NoneTotal
import Derived.Lib.SliceRun
import Derived.Test.YtaebeemnipafbaaGreatDoorLawD
import Derived.Test.YtaebeemnipafbaaGreatDoorDigsL
import Derived.Test.YtaebeemnipafbaaGreatDoorDrawT
import Derived.Test.YtaebeemnipafbaaGreatDoorForkP
set_option maxRecDepth 20000
set_option linter.unusedSimpArgs false
set_option linter.unusedVariables false
namespace Go.Proofs.YtaebeemnipafbaaGreatDoor
open Go.RowKit
theorem St.oldR {w0 W : World} {L : List Res} {b o : Nat} {xs : List Value} (h : St w0 W L) (hr : w0.rangeAt b o xs) (hx : xs ≠ []) : W.rangeAt b o xs := rangeAt_of_block hr (h.below.block b (rangeAt_lt hr hx))
theorem hdArr_ne (n : Int) (x y z : Dig) : (hdArr n x y z).toList ≠ [] := by rw [hdArr_list]; exact List.cons_ne_nil _ _
def pinArr (A : Option Addr) (m c : Nat) (n : Int) (x y z : Dig) : Array Value := (.slice A m c :: (hdArr n x y z).toList).toArray
theorem pinArr_size (A : Option Addr) (m c : Nat) (n : Int) (x y z : Dig) : (pinArr A m c n x y z).size = 98 := by simp [pinArr, hdArr_size]
theorem pinArr_list (A : Option Addr) (m c : Nat) (n : Int) (x y z : Dig) : (pinArr A m c n x y z).toList = .slice A m c :: (hdArr n x y z).toList := rfl
theorem pinArr_0 {A : Option Addr} {m c : Nat} {n : Int} {x y z : Dig} : (pinArr A m c n x y z)[0]? = some (.slice A m c) := rfl
theorem pinArr_1 {A : Option Addr} {m c : Nat} {n : Int} {x y z : Dig} : (pinArr A m c n x y z)[1]? = some (.int .i64 n) := rfl
theorem pinArr_head {W : World} {g t : Nat} {A : Option Addr} {m c : Nat} {n : Int} {x y z : Dig} {fr : Nat × Nat} (h : W.heap[g]? = some (.cells (pinArr A m c n x y z) t fr)) : W.rangeAt g 1 (hdArr n x y z).toList :=
 range_of_list h (fun j v hv => by rw [pinArr_list, Nat.add_comm, List.getElem?_cons_succ]; exact hv)
theorem pinArr_all (A : Option Addr) (m c : Nat) (n : Int) (x y z : Dig) : (pinArr A m c n x y z).all (·.oneCell') = true := Array.all_eq_true_iff_forall_mem.2 fun u hu => by
 rw [← Array.mem_toList_iff, pinArr_list] at hu
 rcases List.mem_cons.1 hu with rfl | hu
 ·rfl
 ·exact hdArr_one _ _ _ _ u hu
theorem pinArr_put (A : Option Addr) (m c : Nat) (n n' : Int) (x y z x' y' z' : Dig) : putAt (pinArr A m c n x y z) 1 (hdArr n' x' y' z').toList = pinArr A m c n' x' y' z' := by
 unfold putAt
 rw [pinArr_list]
 apply Array.ext'
 have h1 := hdArr_size n x y z
 have h2 := hdArr_size n' x' y' z'
 rw [List.take_succ_cons, List.take_zero, Array.length_toList, h2, show 1 + 97 = 97 + 1 from rfl, List.drop_succ_cons, List.drop_of_length_le (by rw [Array.length_toList, h1]; exact Nat.le_refl _), List.append_nil]
 rfl
theorem hdArr_putRoot (n : Int) (x y z d : Dig) : putAt (hdArr n x y z) 1 d.arr.toList = hdArr n d y z := by
 have l : ∀ d : Dig, d.arr.toList.length = 32 := fun d => by simp [Dig.size]
 unfold putAt
 rw [hdArr_list]
 apply Array.ext'
 rw [List.take_succ_cons, List.take_zero, l, show 1 + 32 = 32 + 1 from rfl, List.drop_succ_cons, List.drop_left' (l x)]
 rfl
section
variable {P : Program} {ops : Array Oper} {rest : List Oper} {o : Oper} {a : Act} {W : World} {Q : Exit → Act → World → Prop} {d : Option Tmp}
theorem L_buildG (hd : o.dst = d) (hw : Region.wanted o (yielded ops a.tmps) = true) {T : TypeId} {x : Operand} (ho : o.op = .build T #[(1, x)]) {f0 f1 f2 f3 : Field} (hu : P.underlying T = some (.struct #[f0, f1, f2, f3])) {z0 z1 z2 z3 : Value} {s0 s2 s3 b0 b1 b2 b3 : Nat} (h0 : ElemIs P f0.type z0 s0 b0) (h1 : ElemIs P f1.type z1 32 b1) (h2 : ElemIs P f2.type z2 s2 b2) (h3 : ElemIs P f3.type z3 s3 b3) (o1 : f1.offset = 1)
  {cs : Array Value} {s b : Nat} (he : ElemIs P T (.agg cs) s b) (hcs : 33 ≤ cs.size) {q : Dig} (hx : a.eval x = .agg q.arr)
  (h : wpList P ops Q rest (a.put d (.agg (putAt cs 1 q.arr.toList))) W) : wpList P ops Q (o :: rest) a W := by
 refine L_val hd hw ?_ h
 have hq : q.arr.size = 32 := Dig.size q
 have hf := fold_put q.arr.toList 0 1 cs (by simp [hq]; omega)
 have hz : (q.arr.zipIdx.foldl (fun cs x => cs.setIfInBounds (1 + x.2) x.1) cs) = putAt cs 1 q.arr.toList := by
  rw [← Array.foldl_toList, Array.toList_zipIdx]
  simpa using hf
 rw [show q.arr.zipIdx.size = 32 by simp [hq]] at hz
 unfold execOp
 simp only [ho]
 have hfill : Instr.fill (fun x => ([(f0.offset, s0), (1, 32), (f2.offset, s2), (f3.offset, s3)] : List (Nat × Nat))[x]?) cs [(1, .agg q.arr)] = some (putAt cs 1 q.arr.toList) := by
  have e1 : ¬ (cs.size < 33) := by omega
  simp [Instr.fill, Value.cells, hq, hcs, hz]
 simp [Instr.build, he.run_zero, run_underlying hu, Value.cells, hx, h0.run_size, h1.run_size, h2.run_size, h3.run_size, o1]
 rw [hfill]
 rfl
end
theorem el_pin_Pin : ElemIs Tryz.prog 165 (.agg (pinArr none 0 0 0 zeroD zeroD zeroD)) 98 128 := by unfold ElemIs; kernel_rfl
section
variable {ops : Array Oper} {rest : List Oper} {o : Oper} {a : Act} {W : World} {Q : Exit → Act → World → Prop} {d : Option Tmp}
theorem L_buildPin (hd : o.dst = d) (hw : Region.wanted o (yielded ops a.tmps) = true) {x y : Operand} (ho : o.op = .build 165 #[(0, x), (1, y)]) {A : Option Addr} {m c : Nat} (hx : a.eval x = .slice A m c) {n : Int} {p q r : Dig} (hy : a.eval y = .agg (hdArr n p q r))
  (h : wpList Tryz.prog ops Q rest (a.put d (.agg (pinArr A m c n p q r))) W) : wpList Tryz.prog ops Q (o :: rest) a W := by
 refine L_val hd hw ?_ h
 unfold execOp
 simp only [ho]
 have hs := hdArr_size n p q r
 have hz := el_pin_Pin.run_zero W
 have h1 := el_S_uint8.run_size W
 have h2 := el_api_Head.run_size W
 have hf := fold_put (hdArr n p q r).toList 0 1 (pinArr A m c 0 zeroD zeroD zeroD) (by simp [hs, pinArr_size])
 have h3 : Array.foldl (fun (cs : Array Value) (x : Value × Nat) => cs.setIfInBounds (1 + x.snd) x.fst) (pinArr A m c 0 zeroD zeroD zeroD) (hdArr n p q r).zipIdx 0 97 = pinArr A m c n p q r := by
  have e1 : 97 = (hdArr n p q r).zipIdx.size := by simp [hs]
  rw [e1, ← Array.foldl_toList, Array.toList_zipIdx]
  rw [show (1 + 0) = 1 from rfl, pinArr_put] at hf
  simpa using hf
 have h4 : (pinArr none 0 0 0 zeroD zeroD zeroD).setIfInBounds 0 (.slice A m c) = pinArr A m c 0 zeroD zeroD zeroD := rfl
 have h5 : pinArr none 0 0 0 zeroD zeroD zeroD ≠ #[] := fun e => by have := pinArr_size none 0 0 0 zeroD zeroD zeroD; rw [e] at this; exact absurd this (by decide)
 simp [Instr.build, hz, run_underlying Tryz.underlying165, h1, h2, hx, hy, Value.cells, Instr.fill, hs, h3, h4, h5, pinArr_size]
end
set_option maxHeartbeats 1000000 in
theorem pnew_any (key : List UInt8) (K : Option Addr) (m mc : Nat) (w : World) (hT : Tb w) (hk : SlR w K m mc 1 (bytesL key)) (hm : m ≤ 140737488355000) :
  Calls Tryz.prog 65 #[.slice K m mc] w fun e w' => ∃ g O oc, e = .returned (.pointer (some ⟨g, 0, none⟩)) ∧ St w w' [.blk g 165 (pinArr O m oc 0 (sha []) zeroD zeroD), .row O m oc 5 1 (bytesL key)] := by
 have hst := St.refl w
 have HT := Lib.hid hT
 clear hT
 go_enter Tryz.func65, Tryz.ntmps65
 go_wp2_with (first | (go_at_call 30; refine (cloneB_any key _ _ _ _ (hst.old (by decide) hk) (by omega)).mono ?_; rintro e W4 ⟨O4, c4, rfl, hnew⟩; replace hst := hst.trans hnew; simp only [List.cons_append, List.nil_append] at hst; clear hnew) | (go_at_call 80; refine (ssum_any [] none 0 0 _ (HT.out.of hst) (by simp [SlR, bytesL]) (by decide)).mono ?_; rintro e W5 ⟨rfl, hnew⟩; replace hst := hst.keep hnew; clear hnew) | (refine L_buildG (d := some 6) rfl rfl rfl Tryz.underlying41 el_int el_api_Digest el_api_Digest el_api_Digest rfl el_api_Head (by rw [hdArr_size]; decide) (ev_tmp rfl) ?_; rw [hdArr_putRoot]) | (refine L_buildPin (d := some 7) rfl rfl rfl (ev_tmp rfl) (ev_tmp rfl) ?_) | (refine L_boxA (d := some 8) rfl rfl rfl (ev_tmp rfl) ?_; (try clear hnew); intro g8 W8 hnew; replace hst := hst.trans hnew; simp only [List.cons_append, List.nil_append] at hst))
 go_ret
 exact ⟨_, _, _, rfl, hst⟩
set_option maxHeartbeats 1000000 in
theorem held_any (g t m c : Nat) (A : Option Addr) (n : Int) (x y z : Dig) (fr : Nat × Nat) (w : World) (hg : w.heap[g]? = some (.cells (pinArr A m c n x y z) t fr)) :
  Calls Tryz.prog 110 #[.pointer (some ⟨g, 0, none⟩)] w fun e w' => e = .returned (.agg (hdArr n x y z)) ∧ St w w' [] := by
 have hst := St.refl w
 have hr := pinArr_head hg
 clear hg
 go_enter Tryz.func110, Tryz.ntmps110
 go_wp2_with (first | (refine L_allocA (d := some 2) rfl rfl rfl el_api_Head ?_; (try clear hnew); intro g2 W2 hnew; replace hst := hst.trans hnew; simp only [List.cons_append, List.nil_append] at hst) | ((refine L_loadM (d := some 6) rfl rfl rfl (by rfl) Tryz.underlying41 rfl el_api_Head (by (exact hst.oldR hr (hdArr_ne _ _ _ _))) (by (exact hdArr_size _ _ _ _)) ?_)) | (refine wpl_at (.store 41 (.tmp 2) (.tmp 6)) rfl ?_; (refine L_storeA rfl rfl hst rfl (by rfl) (ev_tmp rfl) (by (exact hdArr_all _ _ _ _)) el_api_Head (by (exact hdArr_size _ _ _ _)) 0 rfl (by (rfl)) ?_; clear hst; intro WS4 hst; simp only [List.set_cons_zero, List.set_cons_succ] at hst)))
 refine bp_cell rfl rfl rfl (hst.get 0 rfl) Tryz.underlying41 rfl el_api_Head (hdArr_size _ _ _ _) ?_
 exact ⟨rfl, hst.forget⟩
set_option maxHeartbeats 1000000 in
theorem first_any (w : World) : Calls Tryz.prog 66 #[] w fun e w' => e = .returned (.agg (hdArr 0 (sha []) zeroD zeroD)) ∧ St w w' [] := by
 have hst := St.refl w
 go_enter Tryz.func66, Tryz.ntmps66
 go_wp2_with (first | (go_at_call 76; refine (rsum_any [] none 0 0 _ (by simp [SlR, bytesL]) (by decide)).mono ?_; rintro e W5 ⟨rfl, hnew⟩; replace hst := hst.keep hnew; clear hnew) | (refine L_buildG (d := some 2) rfl rfl rfl Tryz.underlying41 el_int el_api_Digest el_api_Digest el_api_Digest rfl el_api_Head (by rw [hdArr_size]; decide) (ev_tmp rfl) ?_; rw [hdArr_putRoot]) | (refine L_allocA (d := some 0) rfl rfl rfl el_api_Head ?_; (try clear hnew); intro g0 W0 hnew; replace hst := hst.trans hnew; simp only [List.cons_append, List.nil_append] at hst) | (refine wpl_at (.store 41 (.tmp 0) (.tmp 2)) rfl ?_; (refine L_storeA rfl rfl hst rfl (by rfl) (ev_tmp rfl) (by (exact hdArr_all _ _ _ _)) el_api_Head (by (rfl)) 0 rfl (by (rfl)) ?_; clear hst; intro WS2 hst; simp only [List.set_cons_zero, List.set_cons_succ] at hst)))
 refine bp_cell rfl rfl rfl (hst.get 0 rfl) Tryz.underlying41 rfl el_api_Head (hdArr_size _ _ _ _) ?_
 exact ⟨rfl, hst.forget⟩
end Go.Proofs.YtaebeemnipafbaaGreatDoor

set_option maxRecDepth 20000
set_option linter.unusedSimpArgs false
set_option linter.unusedVariables false
namespace Go.Proofs.YtaebeemnipafbaaGreatDoor
open Go.RowKit
theorem bsOf_toList (l : List UInt8) : (bsOf l).toList = l := by rw [ByteArray.toList_eq]; exact bsOf_list l
theorem eqG_str : Tryz.prog.eqGuardType Tryz.prog.depth 9 = false := by kernel_rfl
theorem bsOf_beq (s u : List UInt8) : ((bsOf s).toList == (bsOf u).toList) = decide (s = u) := by
 rw [bsOf_toList, bsOf_toList]
 by_cases h : s = u <;> simp [h]
section
variable {P : Program} {ops : Array Oper} {rest : List Oper} {o : Oper} {a : Act} {W : World} {Q : Exit → Act → World → Prop} {d : Option Tmp}
theorem run_eqStr {t : TypeId} (ht : P.underlying t = some .string) (s u : List UInt8) (W : World) : (Op.equalIn 10000 t (.string (bsOf s)) (.string (bsOf u))).run P W = .ok (decide (s = u)) W := by
 have := run_equalIn_string (P := P) W 9999 t (bsOf s) (bsOf u) ht
 rw [bsOf_toList, bsOf_toList] at this
 rw [this]
 congr 1
 by_cases h : s = u <;> simp [h]
theorem L_eqStr (hd : o.dst = d) (hw : Region.wanted o (yielded ops a.tmps) = true) {t t' : TypeId} {x y : Operand} (ho : o.op = .binOp .eql t x y t') {s u : List UInt8} (hg : P.eqGuardType P.depth t = false) (ht : P.underlying t = some .string) (hx : a.eval x = .string (bsOf s)) (hy : a.eval y = .string (bsOf u))
  (h : wpList P ops Q rest (a.put d (.bool (decide (s = u)))) W) : wpList P ops Q (o :: rest) a W := by
 refine L_val hd hw ?_ h
 unfold execOp
 simp only [ho, hx, hy]
 have h1 : (eqGuard .eql t x y (.string (bsOf s)) (.string (bsOf u))).run P W = .ok () W := by simp [eqGuard, program, Sem.run, hg]
 have h2 : (Go.binOp .eql t (.string (bsOf s)) (.string (bsOf u))).run P W = .ok (.bool (decide (s = u))) W := by
  have := bsOf_beq s u
  simp only [Go.binOp, Op.stringOp, this, Sem.run_pure]
 simp [h1, h2]
theorem L_neStr (hd : o.dst = d) (hw : Region.wanted o (yielded ops a.tmps) = true) {t t' : TypeId} {x y : Operand} (ho : o.op = .binOp .neq t x y t') {s u : List UInt8} (hg : P.eqGuardType P.depth t = false) (ht : P.underlying t = some .string) (hx : a.eval x = .string (bsOf s)) (hy : a.eval y = .string (bsOf u))
  (h : wpList P ops Q rest (a.put d (.bool (!decide (s = u)))) W) : wpList P ops Q (o :: rest) a W := by
 refine L_val hd hw ?_ h
 unfold execOp
 simp only [ho, hx, hy]
 have h1 : (eqGuard .neq t x y (.string (bsOf s)) (.string (bsOf u))).run P W = .ok () W := by simp [eqGuard, program, Sem.run, hg]
 have h2 : (Go.binOp .neq t (.string (bsOf s)) (.string (bsOf u))).run P W = .ok (.bool (!decide (s = u))) W := by
  have := bsOf_beq s u
  simp only [Go.binOp, Op.stringOp, this, Sem.run_pure]
 simp [h1, h2]
end
end Go.Proofs.YtaebeemnipafbaaGreatDoor

set_option maxRecDepth 20000
set_option linter.unusedSimpArgs false
set_option linter.unusedVariables false
namespace Go.Proofs.YtaebeemnipafbaaGreatDoor
open Go.RowKit
section
variable {P : Program} {t td e8 : TypeId} {zd : Value} {bd : Nat} {z8 : Value} {b8 : Nat}
theorem run_eqStrD (dd : Nat) {t : TypeId} (ht : P.underlying t = some .string) (s u : List UInt8) (W : World) : (Op.equalIn (dd + 1) t (.string (bsOf s)) (.string (bsOf u))).run P W = .ok (decide (s = u)) W := by
 have := run_equalIn_string (P := P) W dd t (bsOf s) (bsOf u) ht
 rw [bsOf_toList, bsOf_toList] at this
 rw [this]
 congr 1
 by_cases h : s = u <;> simp [h]
theorem run_eqNote {f0 f1 f2 : Field} (hS0 : P.underlying t = some (.struct #[f0, f1, f2])) (hp : P.stoodInHeld t = false) (n0 : f0.name ≠ "_") (n1 : f1.name ≠ "_") (n2 : f2.name ≠ "_")
  (hs : P.underlying f0.type = some .string) (h1 : f1.type = td) (hi : P.underlying f2.type = some (.int .i64)) (o0 : f0.offset = 0) (o1 : f1.offset = 1) (o2 : f2.offset = 33)
  (ht : P.underlying td = some (.array 32 e8)) (hd : ElemIs P td zd 32 bd) (he : P.underlying e8 = some (.int .u8)) (h8 : ElemIs P e8 z8 1 b8) (s u : List UInt8) (k d : Dig) (n m : Int) (w : World) :
  (Op.equalIn 10000 t (.agg (ntArr s k n)) (.agg (ntArr u d m))).run P w = .ok (decide (s = u ∧ k = d ∧ n = m)) w := by
 have hFo : P.fieldsOf t = #[f0, f1, f2] := by unfold Program.fieldsOf; rw [hS0]
 rw [show (10000 : Nat) = 9999 + 1 from rfl, run_equalIn_agg w 9999 t _ _ (by rw [hFo]; exact hS0) hp, hFo]
 have i0 := run_part1 (P := P) (d := .string) hs rfl (ntArr_0 (s := s) (k := k) (n := n)) w
 have j0 := run_part1 (P := P) (d := .string) hs rfl (ntArr_0 (s := u) (k := d) (n := m)) w
 have i1 := run_partD ht hd (ntArr_part s k n) w
 have j1 := run_partD ht hd (ntArr_part u d m) w
 have i2 := run_part1 (P := P) (d := .int .i64) hi rfl (ntArr_33 (s := s) (k := k) (n := n)) w
 have j2 := run_part1 (P := P) (d := .int .i64) hi rfl (ntArr_33 (s := u) (k := d) (n := m)) w
 have e0 : (Op.equalIn 9999 f0.type (.string (bsOf s)) (.string (bsOf u))).run P w = .ok (decide (s = u)) w := run_eqStrD (P := P) 9998 hs s u w
 have e1 : (Op.equalIn 9999 td (.agg k.arr) (.agg d.arr)).run P w = .ok (decide (k = d)) w := run_eqDig (P := P) 9997 ht he h8 k d w
 have e2 : (Op.equalIn 9999 f2.type (.int .i64 n) (.int .i64 m)).run P w = .ok (n == m) w := run_equalIn_int w 9998 f2.type .i64 .i64 n m hi
 simp only [Op.eqFields, n0, n1, n2, ne_eq, not_false_eq_true, if_true, h1, o0, o1, o2, Sem.run_bind, i0, i1, i2, j0, j1, j2, e0, Result.andThen_ok, e1, e2]
 by_cases a0 : s = u
 ·rw [decide_eq_true a0]
  simp only [Bool.not_true, Bool.false_eq_true, if_false, Sem.run_bind, i1, j1, i2, j2, Result.andThen_ok, e1, e2]
  by_cases a1 : k = d
  ·rw [decide_eq_true a1]
   simp only [Bool.not_true, Bool.false_eq_true, if_false, Sem.run_bind, i2, j2, Result.andThen_ok, e2]
   by_cases a2 : n = m <;> simp [a0, a1, a2]
  ·rw [decide_eq_false a1]
   simp [a1]
 ·rw [decide_eq_false a0]
  simp [a0]
end
theorem eqG_Note : Tryz.prog.eqGuardType Tryz.prog.depth 34 = false := by kernel_rfl
theorem eqNote (s u : List UInt8) (k d : Dig) (n m : Int) (w : World) : (Op.equalIn 10000 34 (.agg (ntArr s k n)) (.agg (ntArr u d m))).run Tryz.prog w = .ok (decide (s = u ∧ k = d ∧ n = m)) w :=
 run_eqNote Tryz.underlying34 (by kernel_rfl) (by decide) (by decide) (by decide) Tryz.underlying9 rfl Tryz.underlying3 rfl rfl rfl Tryz.underlying32 el_api_Digest Tryz.underlying5 el_uint8 s u k d n m w
end Go.Proofs.YtaebeemnipafbaaGreatDoor

set_option maxRecDepth 20000
set_option linter.unusedSimpArgs false
set_option linter.unusedVariables false
namespace Go.Proofs.YtaebeemnipafbaaGreatDoor
theorem countP_some (n : Nat) (o : Option Nat) (h : ∀ j, o = some j → j < n) : (List.range n).countP (fun i => decide (o = some i)) = if o.isSome then 1 else 0 := by
 cases o with
 | none => simp
 | some j =>
  have hj := h j rfl
  have e : (fun i => decide (some j = some i)) = fun i => i == j := by
   funext i
   by_cases hi : j = i
   ·simp [hi]
   ·simp [hi, Ne.symm hi]
  rw [e]
  have := List.Nodup.count (a := j) (List.nodup_range (n := n))
  rw [if_pos (List.mem_range.2 hj)] at this
  exact this
theorem namesC_snoc (ns : List NoteN) (n : NoteN) : namesC (ns ++ [n]) = if (lastI ns n.name).isSome then namesC ns else namesC ns + 1 := by
 have hc : ∀ ms : List NoteN, namesC ms = (List.range ms.length).countP fun i => decide ((ms[i]?.bind fun n => lastI ms n.name) = some i) := fun ms => by rw [namesC, List.countP_eq_length_filter]
 rw [hc, hc, List.length_append, List.length_singleton, List.range_succ, List.countP_append, List.countP_singleton]
 have h1 : decide (((ns ++ [n])[ns.length]?.bind fun x => lastI (ns ++ [n]) x.name) = some ns.length) = true := by
  rw [List.getElem?_append_right (Nat.le_refl _), Nat.sub_self]
  simp [lastI_snoc]
 rw [h1]
 have h2 := countP_some ns.length (lastI ns n.name) (fun j hj => lastI_lt hj)
 have h3 : ∀ i ∈ List.range ns.length, decide ((((ns ++ [n])[i]?.bind fun x => lastI (ns ++ [n]) x.name)) = some i) = (decide ((ns[i]?.bind fun x => lastI ns x.name) = some i) && !decide (lastI ns n.name = some i)) := by
  intro i hi
  have hi := List.mem_range.1 hi
  rw [List.getElem?_append_left hi, List.getElem?_eq_getElem hi]
  simp only [Option.bind_some]
  rw [Bool.eq_iff_iff]
  simp only [decide_eq_true_eq, Bool.and_eq_true, Bool.not_eq_true', decide_eq_false_iff_not]
  rw [lastI_snoc]
  by_cases he : n.name = (ns[i]).name
  ·rw [if_pos he, he]
   constructor
   ·intro h; have := Option.some.inj h; omega
   ·rintro ⟨h1, h2⟩; exact absurd h1 h2
  ·rw [if_neg he]
   have : ¬ lastI ns n.name = some i := fun e => by
    obtain ⟨m, hm1, hm2⟩ := lastI_some e
    rw [List.getElem?_eq_getElem hi] at hm1
    obtain rfl := Option.some.inj hm1
    exact he hm2.symm
   exact ⟨fun h => ⟨h, this⟩, fun h => h.1⟩
 rw [List.countP_congr (fun i hi => by rw [h3 i hi])]
 have h4 : ∀ l : List Nat, (∀ i ∈ l, lastI ns n.name = some i → (ns[i]?.bind fun x => lastI ns x.name) = some i) → l.countP (fun i => decide ((ns[i]?.bind fun x => lastI ns x.name) = some i) && !decide (lastI ns n.name = some i)) + l.countP (fun i => decide (lastI ns n.name = some i)) = l.countP fun i => decide ((ns[i]?.bind fun x => lastI ns x.name) = some i) := by
  intro l
  induction l with
  | nil => intro _; rfl
  | cons i l ih =>
   intro h
   have ih' := ih (fun j hj => h j (List.mem_cons_of_mem _ hj))
   rw [List.countP_cons, List.countP_cons, List.countP_cons]
   have hi := h i (by simp)
   by_cases h5 : lastI ns n.name = some i
   ·rw [decide_eq_true h5, decide_eq_true (hi h5)]
    simp
    omega
   ·rw [decide_eq_false h5]
    simp
    omega
 have h5 := h4 (List.range ns.length) (fun i hi he => by
  obtain ⟨m, hm1, hm2⟩ := lastI_some he
  rw [hm1, Option.bind_some, hm2, he])
 rw [h2] at h5
 by_cases hs : (lastI ns n.name).isSome = true
 ·rw [if_pos hs] at h5 ⊢
  simp only [if_true]
  omega
 ·rw [if_neg hs] at h5 ⊢
  simp only [if_true]
  omega
def atName (ns : List NoteN) (s : List UInt8) : Option (NoteN × Nat × Dig) := (lastI ns s).bind fun i => (ns[i]?).map fun n => (n, i, ntLeaf n)
theorem atName_snoc (ns : List NoteN) (n : NoteN) (s : List UInt8) : atName (ns ++ [n]) s = if n.name = s then some (n, ns.length, ntLeaf n) else atName ns s := by
 unfold atName
 rw [lastI_snoc]
 by_cases h : n.name = s
 ·simp [h]
 ·rw [if_neg h, if_neg h]
  cases hl : lastI ns s with
  | none => rfl
  | some i => simp only [Option.bind_some]; rw [List.getElem?_append_left (lastI_lt hl)]
theorem atName_some {ns : List NoteN} {s : List UInt8} {x : NoteN × Nat × Dig} (h : atName ns s = some x) : lastI ns s = some x.2.1 ∧ ns[x.2.1]? = some x.1 ∧ x.2.2 = ntLeaf x.1 ∧ lastN? ns s = some x.1 := by
 unfold atName at h
 cases hl : lastI ns s with
 | none => rw [hl] at h; cases h
 | some i =>
  rw [hl] at h
  simp only [Option.bind_some] at h
  cases hn : ns[i]? with
  | none => rw [hn] at h; cases h
  | some n =>
   rw [hn] at h
   obtain rfl := Option.some.inj h
   exact ⟨rfl, hn, rfl, by unfold lastN?; rw [hl]; exact hn⟩
theorem atName_isSome (ns : List NoteN) (s : List UInt8) : (atName ns s).isSome = (lastI ns s).isSome := by
 unfold atName
 cases hl : lastI ns s with
 | none => rfl
 | some i =>
  obtain ⟨n, hn, _⟩ := lastI_some hl
  simp [hn]
structure MapsOf (ns : List NoteN) (nm : List (List UInt8 × (NoteN × Nat × Dig))) (am : List (Nat × List UInt8)) : Prop where
 nd : (nm.map (·.1)).Nodup
 look : ∀ s, lookA s nm = atName ns s
 len : nm.length = namesC ns
 ks : ∀ p ∈ nm, isNm p.1 = true
 ndA : (am.map (·.1)).Nodup
 lookA_ : ∀ k s, lookA k am = some s ↔ ∃ n ∈ ns, n.name = s ∧ idxN s = k
 ksA : ∀ p ∈ am, p.1 < 4294967296 ∧ isNm p.2 = true
 lenA : am.length = nm.length
theorem MapsOf.nil : MapsOf [] [] [] where
 nd := by simp
 look s := rfl
 len := rfl
 ks := by simp
 ndA := by simp
 lookA_ k s := by simp [lookA]
 ksA := by simp
 lenA := rfl
theorem upd_mem {α β : Type} [DecidableEq α] {x : α} {v : β} {l : List (α × β)} {p : α × β} (h : p ∈ updA x v l) : p = (x, v) ∨ p ∈ l := by
 unfold updA at h
 split at h
 ·obtain ⟨q, hq, rfl⟩ := List.mem_map.1 h
  by_cases hx : q.1 = x
  ·rw [if_pos hx]; exact .inl rfl
  ·rw [if_neg hx]; exact .inr hq
 ·rcases List.mem_append.1 h with h | h
  ·exact .inr h
  ·exact .inl (List.mem_singleton.1 h)
theorem MapsOf.add {ns : List NoteN} {nm : List (List UInt8 × (NoteN × Nat × Dig))} {am : List (Nat × List UInt8)} (h : MapsOf ns nm am) {s : List UInt8} (he : addE ns s = 0) (k : Dig) :
  MapsOf (ns ++ [newN ns s k]) (updA s (newN ns s k, ns.length, ntLeaf (newN ns s k)) nm) (updA (idxN s) s am) where
 nd := updA_nodup h.nd
 look t := by
  rw [lookA_upd, atName_snoc, h.look]
  rfl
 len := by
  rw [length_updA, namesC_snoc, h.look, atName_isSome, h.len]
  rfl
 ks p hp := by
  rcases upd_mem hp with rfl | hp
  ·exact (addE_zero he).1
  ·exact h.ks p hp
 ndA := updA_nodup h.ndA
 lookA_ i t := by
  rw [lookA_upd]
  have hs := (addE_zero he).2.2.2
  by_cases hi : idxN s = i
  ·rw [if_pos hi]
   constructor
   ·intro ht
    obtain rfl := Option.some.inj ht
    exact ⟨newN ns s k, by simp, rfl, hi⟩
   ·rintro ⟨n, hn, rfl, hni⟩
    rcases List.mem_append.1 hn with hn | hn
    ·rw [hs n hn (by rw [hni, hi])]
    ·rw [List.mem_singleton.1 hn]; rfl
  ·rw [if_neg hi, h.lookA_]
   constructor
   ·rintro ⟨n, hn, h1⟩
    exact ⟨n, List.mem_append_left _ hn, h1⟩
   ·rintro ⟨n, hn, h1, h2⟩
    rcases List.mem_append.1 hn with hn | hn
    ·exact ⟨n, hn, h1, h2⟩
    ·rw [List.mem_singleton.1 hn] at h1
     exact absurd (by rw [← h2, ← h1]; rfl) hi
 ksA p hp := by
  rcases upd_mem hp with rfl | hp
  ·exact ⟨idxN_lt s, (addE_zero he).1⟩
  ·exact h.ksA p hp
 lenA := by
  have hs := (addE_zero he).2.2.2
  rw [length_updA, length_updA, h.lenA, h.look, atName_isSome]
  have e : (lookA (idxN s) am).isSome = (lastI ns s).isSome := by
   cases hl : lastI ns s with
   | some j =>
    obtain ⟨n, h1, h2⟩ := lastI_some hl
    rw [(h.lookA_ (idxN s) s).2 ⟨n, List.mem_of_getElem? h1, h2, rfl⟩]
    rfl
   | none =>
    cases hk : lookA (idxN s) am with
    | none => rfl
    | some t =>
     obtain ⟨n, h1, h2, h3⟩ := (h.lookA_ (idxN s) t).1 hk
     exact absurd (hs n h1 (by rw [h2, h3])) (lastI_none.1 hl n h1)
  rw [e]
theorem MapsOf.taken {ns : List NoteN} {nm : List (List UInt8 × (NoteN × Nat × Dig))} {am : List (Nat × List UInt8)} (h : MapsOf ns nm am) (s : List UInt8) : takenN ns s = true ↔ ∃ t, lookA (idxN s) am = some t ∧ t ≠ s := by
 unfold takenN
 rw [List.any_eq_true]
 constructor
 ·rintro ⟨n, hn, hd⟩
  obtain ⟨h1, h2⟩ := of_decide_eq_true hd
  exact ⟨n.name, (h.lookA_ _ _).2 ⟨n, hn, rfl, h2⟩, h1⟩
 ·rintro ⟨t, h1, h2⟩
  obtain ⟨n, hn, h3, h4⟩ := (h.lookA_ _ _).1 h1
  exact ⟨n, hn, decide_eq_true ⟨by rw [h3]; exact h2, by rw [h3]; exact h4⟩⟩
theorem MapsOf.entries {ns : List NoteN} {nm : List (List UInt8 × (NoteN × Nat × Dig))} {am : List (Nat × List UInt8)} (h : MapsOf ns nm am) (hl : Logged ns) (f : List UInt8 → Dig) (hf : ∀ p ∈ am, ∀ x, lookA p.2 nm = some x → f p.2 = x.2.2) :
  (∀ k, leafAt (am.map fun p => (p.1, f p.2)) k = lgF ns k) := by
 intro k
 have hnd : ((am.map fun p => (p.1, f p.2)).map (·.1)).Nodup := by
  rw [List.map_map]
  exact h.ndA
 cases hk : lookA k am with
 | none =>
  have h1 := lookA_none.1 hk
  rw [leafAt_none (fun e he heq => by
   obtain ⟨p, hp, rfl⟩ := List.mem_map.1 he
   exact h1 (List.mem_map.2 ⟨p, hp, heq⟩))]
  rw [lgF_none (fun n hn hi => by
   have := (h.lookA_ k n.name).2 ⟨n, hn, rfl, hi⟩
   rw [hk] at this
   cases this)]
 | some s =>
  have hm := lookA_some hk
  obtain ⟨n, hn, hns, hi⟩ := (h.lookA_ k s).1 hk
  have h1 := leafAt_some hnd (e := (k, f s)) (List.mem_map.2 ⟨(k, s), hm, rfl⟩)
  rw [h1]
  cases ha : atName ns s with
  | none =>
   exfalso
   unfold atName at ha
   cases hli : lastI ns s with
   | none => exact (lastI_none.1 hli) n hn hns
   | some j =>
    obtain ⟨m, hm1, _⟩ := lastI_some hli
    rw [hli] at ha
    simp [hm1] at ha
  | some x =>
   obtain ⟨_, _, h3, h4⟩ := atName_some ha
   have h5 := hf (k, s) hm x (by rw [h.look]; exact ha)
   have h6 := hl.lgF_at h4
   rw [hi] at h6
   rw [h6, h5, h3]
theorem MapsOf.total {ns : List NoteN} {nm : List (List UInt8 × (NoteN × Nat × Dig))} {am : List (Nat × List UInt8)} (h : MapsOf ns nm am) {k : Nat} {s : List UInt8} (hm : (k, s) ∈ am) : ∃ x, lookA s nm = some x := by
 have hk := lookA_mem h.ndA hm
 obtain ⟨n, hn, hns, hi⟩ := (h.lookA_ k s).1 hk
 rw [h.look]
 cases ha : atName ns s with
 | some x => exact ⟨x, rfl⟩
 | none =>
  exfalso
  unfold atName at ha
  cases hli : lastI ns s with
  | none => exact (lastI_none.1 hli) n hn hns
  | some j =>
   obtain ⟨m, hm1, _⟩ := lastI_some hli
   rw [hli] at ha
   simp [hm1] at ha
theorem Logged.names {ns : List NoteN} (h : Logged ns) : namesC ns ≤ 64 := by
 induction h with
 | nil => decide
 | @add ns s k h0 he ih =>
  rw [namesC_snoc]
  show (if (lastI ns s).isSome = true then namesC ns else namesC ns + 1) ≤ 64
  cases hl : lastI ns s with
  | none => have := (addE_zero he).2.2.1 hl; simp; omega
  | some j => simpa using ih
theorem nodup_le : ∀ (n : Nat) (l : List Nat), l.Nodup → (∀ i ∈ l, i < n) → l.length ≤ n
 | 0, l, _, h => by
  cases l with
  | nil => simp
  | cons a l => exact absurd (h a (by simp)) (by omega)
 | n + 1, l, hd, h => by
  have h1 := nodup_le n (l.filter fun i => decide (i ≠ n)) (hd.sublist (List.filter_sublist ..)) (fun i hi => by
   obtain ⟨h2, h3⟩ := List.mem_filter.1 hi
   have := h i h2
   have := of_decide_eq_true h3
   omega)
  have h2 := List.length_eq_countP_add_countP (fun i => decide (i ≠ n)) (l := l)
  rw [List.countP_eq_length_filter] at h2
  have h3 : l.countP (fun a => decide ¬ decide (a ≠ n) = true) ≤ 1 := by
   have e : (fun a : Nat => decide ¬ decide (a ≠ n) = true) = fun a => a == n := by
    funext a
    by_cases ha : a = n <;> simp [ha]
   rw [e]
   exact List.nodup_iff_count.1 hd n
  omega
theorem range_perm {n : Nat} {l : List Nat} (hd : l.Nodup) (h : ∀ i ∈ l, i < n) (ha : ∀ i, i < n → i ∈ l) : l.Perm (List.range n) := by
 rw [List.perm_iff_count]
 intro a
 rw [hd.count, List.nodup_range.count]
 by_cases hm : a < n
 ·rw [if_pos (ha a hm), if_pos (List.mem_range.2 hm)]
 ·rw [if_neg (fun h1 => hm (h a h1)), if_neg (fun h1 => hm (List.mem_range.1 h1))]
end Go.Proofs.YtaebeemnipafbaaGreatDoor

set_option maxRecDepth 20000
set_option linter.unusedSimpArgs false
set_option linter.unusedVariables false
namespace Go.Proofs.YtaebeemnipafbaaGreatDoor
open Go.RowKit
abbrev KD := Fin 4294967296 × Dig
instance : Inhabited KD := ⟨(⟨0, by decide⟩, zeroD)⟩
def kdN (x : KD) : Nat × Dig := (x.1.val, x.2)
def encE (x : KD) : List Value := (prArr ((x.1.val : Nat) : Int) x.2).toList
theorem length_encE (x : KD) : (encE x).length = 33 := by rw [encE, Array.length_toList, prArr_size]
def entI (es : List (Nat × Dig)) : List (Int × Dig) := es.map fun e => (((e.1 : Nat) : Int), e.2)
def entL (es : List (Nat × Dig)) : List Value := pairsL (entI es)
theorem length_entL (es : List (Nat × Dig)) : (entL es).length = es.length * 33 := by rw [entL, length_pairsL, entI, List.length_map]
theorem kd_of : ∀ {es : List (Nat × Dig)}, (∀ e ∈ es, e.1 < 4294967296) → ∃ ks : List KD, es = ks.map kdN
 | [], _ => ⟨[], rfl⟩
 | e :: es, h => by
  obtain ⟨ks, hk⟩ := kd_of (es := es) (fun x hx => h x (List.mem_cons_of_mem _ hx))
  have h1 := h e (by simp)
  subst hk
  exact ⟨(⟨e.1, h1⟩, e.2) :: ks, rfl⟩
theorem entL_app (a b : List (Nat × Dig)) : entL (a ++ b) = entL a ++ entL b := by simp [entL, entI, pairsL_app]
theorem entL_at (es : List (Nat × Dig)) (i : Nat) (h : i < es.length) : ((entL es).drop (i * 33)).take 33 = (prArr ((es[i].1 : Nat) : Int) es[i].2).toList := by
 have := pairs_at (entI es) i (by simpa [entI] using h)
 unfold entL
 simpa [entI] using this
theorem entL_drop (es : List (Nat × Dig)) (i : Nat) (h : i ≤ es.length) : (entL es).drop (i * 33) = entL (es.drop i) := by
 have e : entL es = entL (es.take i) ++ entL (es.drop i) := by rw [← entL_app, List.take_append_drop]
 rw [e, List.drop_left' (by rw [length_entL, List.length_take, Nat.min_eq_left h])]
theorem entL_take (es : List (Nat × Dig)) (i : Nat) (h : i ≤ es.length) : (entL es).take (i * 33) = entL (es.take i) := by
 have e : entL es = entL (es.take i) ++ entL (es.drop i) := by rw [← entL_app, List.take_append_drop]
 rw [e, List.take_left' (by rw [length_entL, List.length_take, Nat.min_eq_left h])]
theorem kd_at {ks : List KD} {j : Nat} (h : j < ks.length) : ((entL (ks.map kdN)).drop (j * 33)).take 33 = encE (ks[j]!) := by
 rw [entL_at _ j (by simpa using h)]
 simp [encE, kdN, getElem!_def, List.getElem?_eq_getElem h]
theorem ent_cells {W : World} {b off n c : Nat} {ks : List KD} (h : SlR W (some ⟨b, off, none⟩) n c 33 (entL (ks.map kdN))) {j : Nat} (hj : j < ks.length) {i : Nat} {v : Value} (hv : (encE (ks[j]!))[i]? = some v) : W.cell? ⟨b, off + j * 33 + i, none⟩ = some v := by
 have hn : n = ks.length := by have := h.1; rw [length_entL, List.length_map] at this; omega
 obtain ⟨b', off', hA, hr⟩ := h.at (i := j) (by omega)
 simp only [Option.some.injEq, Addr.mk.injEq, and_true] at hA
 obtain ⟨rfl, rfl⟩ := hA
 rw [kd_at hj] at hr
 exact hr i v hv
theorem idxBy_find (p : KD → Bool) : ∀ (ks : List KD) (i : Nat), Lib.idxByFrom (fun (_ : KD) y => p y) default ks i = if (ks.findIdx p) < ks.length then ((i + ks.findIdx p : Nat) : Int) else -1
 | [], i => rfl
 | k :: ks, i => by
  rw [Lib.idxByFrom, List.findIdx_cons]
  by_cases h : p k = true
  ·simp [h]
  ·simp only [h, Bool.false_eq_true, if_false, cond_false]
   rw [idxBy_find p ks (i + 1)]
   by_cases h2 : List.findIdx p ks < ks.length
   ·rw [if_pos h2, if_pos (by simpa using h2)]
    congr 1
    omega
   ·rw [if_neg h2, if_neg (by simpa using h2)]
def bitK (b k : Nat) : Bool := decide (k / 2 ^ b % 2 = 1)
theorem findIdx_kd (q : Nat → Bool) (ks : List KD) : (ks.map kdN).findIdx (fun e => q e.1) = ks.findIdx (fun x => q x.1.val) := by
 induction ks with
 | nil => rfl
 | cons k ks ih => rw [List.map_cons, List.findIdx_cons, List.findIdx_cons, ih]; rfl
theorem sorted_kd {ks ds : List KD} (hp : ds.Perm ks) (hs : ds.Pairwise fun a b => ¬ b.1.val < a.1.val) (hd : ((ks.map kdN).map (·.1)).Nodup) : (ds.map kdN).Pairwise (fun a b => a.1 < b.1) ∧ (ds.map kdN).Perm (ks.map kdN) := by
 refine ⟨?_, hp.map _⟩
 have hd' : ((ds.map kdN).map (·.1)).Nodup := (((hp.map kdN).map (·.1)).nodup_iff).2 hd
 rw [List.map_map] at hd'
 rw [List.pairwise_map]
 have hne : ds.Pairwise (fun a b => (kdN a).1 ≠ (kdN b).1) := List.pairwise_map.1 hd'
 exact (hs.and hne).imp (fun {a b} ⟨h1, h2⟩ => by simp only [kdN] at h2 ⊢; omega)
theorem list_sorted {lt : KD → KD → Bool} {d : Array KD} (h : Sort.SortedIn lt 0 d.size d) : d.toList.Pairwise (fun a b => lt b a = false) := by
 rw [List.pairwise_iff_getElem]
 intro i j hi hj hij
 have := h i j (Nat.zero_le _) hij (by simpa using hj)
 rw [getElem!_pos d j (by simpa using hj), getElem!_pos d i (by simpa using hi)] at this
 simpa using this
theorem list_perm {d d' : Array KD} (h : Sort.PermIn 0 d.size d d') : d'.size = d.size ∧ d'.toList.Perm d.toList := by
 obtain ⟨h1, _, h2⟩ := h
 refine ⟨h1, ?_⟩
 rw [← h1] at h2
 simp only [Array.extract_size] at h2
 rw [h1] at h2
 simpa using h2
theorem bit_mid {b q k : Nat} (h1 : q * 2 ^ (b + 1) ≤ k) (h2 : k < q * 2 ^ (b + 1) + 2 ^ (b + 1)) : bitK b k = decide (q * 2 ^ (b + 1) + 2 ^ b ≤ k) := by
 unfold bitK
 have hp := Nat.two_pow_pos b
 have e : 2 ^ (b + 1) = 2 ^ b * 2 := Nat.pow_succ _ _
 have e2 : q * 2 ^ (b + 1) = 2 * q * 2 ^ b := by rw [e]; rw [Nat.mul_comm (2 ^ b) 2, ← Nat.mul_assoc, Nat.mul_comm q 2]
 congr 1
 apply propext
 have hk := Nat.div_add_mod k (2 ^ b)
 have hm := Nat.mod_lt k hp
 have hlo : 2 * q ≤ k / 2 ^ b := (Nat.le_div_iff_mul_le hp).2 (by omega)
 have hhi : k / 2 ^ b < 2 * q + 2 := (Nat.div_lt_iff_lt_mul hp).2 (by rw [Nat.add_mul]; omega)
 constructor
 ·intro h
  have : k / 2 ^ b = 2 * q + 1 := by omega
  have := (Nat.le_div_iff_mul_le (x := 2 * q + 1) hp).1 (by omega : 2 * q + 1 ≤ k / 2 ^ b)
  rw [Nat.add_mul] at this
  omega
 ·intro h
  have : 2 * q + 1 ≤ k / 2 ^ b := (Nat.le_div_iff_mul_le hp).2 (by rw [Nat.add_mul]; omega)
  omega
end Go.Proofs.YtaebeemnipafbaaGreatDoor

set_option maxRecDepth 20000
set_option linter.unusedSimpArgs false
set_option linter.unusedVariables false
namespace Go.Proofs.YtaebeemnipafbaaGreatDoor
open Go.RowKit Go.Shelf
section
variable {P : Program} {ops : Array Oper} {rest : List Oper} {o : Oper} {a : Act} {W V : World} {Q : Exit → Act → World → Prop} {d : Option Tmp}
theorem L_cutU (hd : o.dst = d) (hw : Region.wanted o (yielded ops a.tmps) = true) {T : TypeId} {x : Operand} {l h m : Option Operand} (ho : o.op = .slice T x l h m) {A : Option Addr} {n c : Nat} (hx : a.eval x = .slice A n c)
  {e : TypeId} (hu : P.underlying T = some (.slice e)) {z : Value} {s b : Nat} (he : ElemIs P e z s b) (hs0 : 0 < s) {xs : List Value} (_ : SlR V A n c s xs) (lo hi mx : Nat)
  (hl : (l.map a.eval = none ∧ lo = 0) ∨ ∃ k v, l.map a.eval = some v ∧ v = .int k ((lo : Nat) : Int)) (hh : (h.map a.eval = none ∧ hi = n ∧ m.map a.eval = none) ∨ ∃ k v, h.map a.eval = some v ∧ v = .int k ((hi : Nat) : Int)) (hm : (m.map a.eval = none ∧ mx = c) ∨ ∃ k v, m.map a.eval = some v ∧ v = .int k ((mx : Nat) : Int))
  (h1 : lo ≤ hi) (h2 : hi ≤ n) (h3 : hi ≤ mx) (h4 : mx ≤ c)
  (hk : ∀ (A' : Option Addr) (c' : Nat), (∀ V' : World, SlR V' A n c s xs → SlR V' A' (hi - lo) c' s ((xs.drop (lo * s)).take ((hi - lo) * s))) → wpList P ops Q rest (a.put d (.slice A' (hi - lo) c')) W) : wpList P ops Q (o :: rest) a W := by
 refine L_val hd hw ?_ (hk _ _ (fun V' hs => hs.cut hs0 h1 h2 h3 h4))
 unfold execOp
 simp only [ho, hx]
 simp [run_cutS (P := P) (W := W) hu he hl hh hm h1 h3 h4]
end
attribute [local simp] prArr_size
set_option maxHeartbeats 2000000 in
theorem halves_clos (x : KD) (b g : Nat) (W : World) (hb : b ≤ 31) (hc : W.cell? ⟨g, 0, none⟩ = some (.int .i64 (b : Int))) :
  Calls Tryz.prog 124 #[.agg (prArr ((x.1.val : Nat) : Int) x.2), .pointer (some ⟨g, 0, none⟩)] W fun e w' => e = .returned (.bool (bitK b x.1.val)) ∧ St W w' [] := by
 have hst := St.refl W
 obtain ⟨⟨k, hk⟩, d⟩ := x
 have hg : g < W.heap.size := by
  unfold World.cell? at hc
  exact block_lt_of_cell hc
 have hq : k / 2 ^ b < 2 ^ 63 := Nat.lt_of_le_of_lt (Nat.div_le_self _ _) (by omega)
 have HC := Lib.hid (fun (W2 : World) (h : Below W.heap.size W W2) => (h.cell (p := ⟨g, 0, none⟩) hg).trans hc)
 clear hc hg
 simp only
 unfold bitK
 by_cases hb1 : k / 2 ^ b % 2 = 1
 ·rw [decide_eq_true hb1]
  have HB := Lib.hid hb1
  clear hb1 hk
  go_enter Tryz.func124, Tryz.ntmps124
  go_upto_region 1 with (go_big_may; (refine L_boxA (d := some 2) rfl rfl rfl (ev_tmp rfl) ?_; (try clear hnew); intro g2 W2 hnew; replace hst := hst.trans hnew; simp only [List.cons_append, List.nil_append] at hst))
  go_wp2_with (first | (refine L_load1 (d := some 6) rfl rfl rfl (by rfl) Tryz.underlying3 rfl (HC.out _ hst.below) ?_) | (refine L_shrN (d := some 7) rfl rfl rfl (ev_tmp rfl) (ev_tmp rfl) (by omega) ?_) | (refine L_and1 (d := some 8) rfl rfl rfl (ev_tmp rfl) ev_const hq ?_; rw [HB.out]) | (refine L_load1 (d := some 5) rfl rfl rfl (by rfl) Tryz.underlying3 rfl (by (exact cell_of (hst.get 0 rfl) prArr_0)) ?_))
  go_ret
  exact ⟨rfl, hst.forget⟩
 ·rw [decide_eq_false hb1]
  have HB := Lib.hid (show k / 2 ^ b % 2 = 0 by omega)
  clear hb1 hk
  go_enter Tryz.func124, Tryz.ntmps124
  go_upto_region 1 with (go_big_may; (refine L_boxA (d := some 2) rfl rfl rfl (ev_tmp rfl) ?_; (try clear hnew); intro g2 W2 hnew; replace hst := hst.trans hnew; simp only [List.cons_append, List.nil_append] at hst))
  go_wp2_with (first | (refine L_load1 (d := some 6) rfl rfl rfl (by rfl) Tryz.underlying3 rfl (HC.out _ hst.below) ?_) | (refine L_shrN (d := some 7) rfl rfl rfl (ev_tmp rfl) (ev_tmp rfl) (by omega) ?_) | (refine L_and1 (d := some 8) rfl rfl rfl (ev_tmp rfl) ev_const hq ?_; rw [HB.out]) | (refine L_load1 (d := some 5) rfl rfl rfl (by rfl) Tryz.underlying3 rfl (by (exact cell_of (hst.get 0 rfl) prArr_0)) ?_))
  go_ret
  exact ⟨rfl, hst.forget⟩
theorem idx_empty (A : Option Addr) (c : Nat) (f : Value) (w : World) : Calls Tryz.prog 123 #[.slice A 0 c, f] w fun e w' => e = .returned (.int .i64 (-1)) ∧ St w w' [] := by
 have hst := St.refl w
 go_enter Tryz.func123, Tryz.ntmps123
 go_wp2_with fail
 go_loopg [8] 1 (fun gk s8 wr => s8 = .int .i64 0 ∧ St w wr [])
 case atStart => exact ⟨rfl, hst⟩
 case round =>
  clear hst
  obtain ⟨rfl, hst⟩ := hrel
  go_wp2_with fail
  go_ret
  exact ⟨rfl, hst⟩
theorem idx_any (ks : List KD) (A : Option Addr) (n c b g : Nat) (w : World) (hx : SlR w A n c 33 (entL (ks.map kdN))) (hb : b ≤ 31) (hc : w.cell? ⟨g, 0, none⟩ = some (.int .i64 (b : Int))) :
  Calls Tryz.prog 123 #[.slice A n c, .func (.func 124) #[] #[.pointer (some ⟨g, 0, none⟩)]] w fun e w' =>
   e = .returned (.int .i64 (if ks.findIdx (fun x => bitK b x.1.val) < n then ((ks.findIdx (fun x => bitK b x.1.val) : Nat) : Int) else -1)) ∧ St w w' [] := by
 have hl : n = ks.length := by have := hx.1; rw [length_entL, List.length_map] at this; omega
 rcases Nat.eq_zero_or_pos n with h0 | h0
 ·subst h0
  refine (idx_empty A c _ w).mono ?_
  rintro e w' ⟨rfl, h⟩
  exact ⟨by rw [if_neg (by omega)], h⟩
 ·obtain ⟨bl, off, rfl, hr⟩ := hx.2.2.2 h0
  have hlt : bl < w.heap.size := rangeAt_lt hr (fun e => by
   have := length_entL (ks.map kdN)
   rw [e, List.length_map] at this
   simp at this
   omega)
  have hm := hx.2.2.1
  have hnc := hx.2.1
  simp only [maxLen] at hm
  have h := AnyQ.slices_IndexFunc Tryz.laysIdxE 33 Tryz.isAgg110 Tryz.sizeOf110 encE length_encE (fun x => bitK b x.1.val) 124 #[.pointer (some ⟨g, 0, none⟩)] (enters_of Tryz.func124 (by kernel_rfl) rfl) bl off n c ks w
   (fun W x hB => by
    have hcW : W.cell? ⟨g, 0, none⟩ = some (.int .i64 (b : Int)) := (hB.cell (p := ⟨g, 0, none⟩) (by unfold World.cell? at hc; exact block_lt_of_cell hc)).trans hc
    refine (halves_clos x b g W hb hcW).mono ?_
    rintro e w' ⟨he, h⟩
    exact ⟨he, hB.trans (h.below.mono hB.size)⟩)
   (by omega) (by omega) hlt (fun j hj i v hv => ent_cells hx hj hv)
  refine h.mono ?_
  rintro e w' ⟨rfl, hB⟩
  refine ⟨?_, ⟨hB, by simp, by simp, List.Pairwise.nil⟩⟩
  rw [List.take_of_length_le (by omega), Lib.idxBy, idxBy_find, Nat.zero_add, hl]
def cutI (b : Nat) (es : List (Nat × Dig)) : Nat := es.findIdx fun e => bitK b e.1
theorem cutI_le (b : Nat) (es : List (Nat × Dig)) : cutI b es ≤ es.length := List.findIdx_le_length
set_option maxHeartbeats 2000000 in
theorem halves_any (es : List (Nat × Dig)) (A : Option Addr) (n c b : Nat) (w : World) (hx : SlR w A n c 33 (entL es)) (hb : b ≤ 31) (hes : ∀ e ∈ es, e.1 < 4294967296) :
  Calls Tryz.prog 90 #[.slice A n c, .int .i64 (b : Int)] w fun e w' => ∃ A1 n1 c1 A2 n2 c2, e = .returned (.tuple #[.slice A1 n1 c1, .slice A2 n2 c2]) ∧
   (∀ V, SlR V A n c 33 (entL es) → SlR V A1 n1 c1 33 (entL (es.take (cutI b es)))) ∧ (∀ V, SlR V A n c 33 (entL es) → SlR V A2 n2 c2 33 (entL (es.drop (cutI b es)))) ∧ St w w' [] := by
 have hst := St.refl w
 obtain ⟨ks, rfl⟩ := kd_of hes
 have HC := Lib.hid (fun (w' : World) (g : Nat) (h1 : SlR w' A n c 33 (entL (ks.map kdN))) (h2 : w'.cell? ⟨g, 0, none⟩ = some (.int .i64 (b : Int))) => idx_any ks A n c b g w' h1 hb h2)
 rw [← findIdx_kd (bitK b)] at HC
 have hI : (ks.map kdN).findIdx (fun e => bitK b e.1) = cutI b (ks.map kdN) := rfl
 rw [hI] at HC
 have hle := cutI_le b (ks.map kdN)
 have hl : n = (ks.map kdN).length := by have := hx.1; rw [length_entL] at this; omega
 generalize hi : cutI b (ks.map kdN) = i at *
 have ht := Lib.hid (entL_take (ks.map kdN) i (by omega))
 have hd := Lib.hid (entL_drop (ks.map kdN) i (by omega))
 generalize entL ((ks.map kdN).take i) = lt at *
 generalize entL ((ks.map kdN).drop i) = ld at *
 have hall := Lib.hid (show i = n → entL (ks.map kdN) = lt ∧ ld = [] from fun e => by
  have h1 := ht.out
  have h2 := hd.out
  have hz := length_entL (ks.map kdN)
  rw [List.take_of_length_le (by omega)] at h1
  rw [List.drop_eq_nil_of_le (by omega)] at h2
  exact ⟨h1, h2.symm⟩)
 rw [← hl] at hle
 generalize entL (ks.map kdN) = el at *
 clear hl hi hes hI
 by_cases hin : i < n
 ·rw [if_pos hin] at HC
  have h0 : ¬ ((i : Int) < 0) := by omega
  have hnc := hx.2.1
  go_enter Tryz.func90, Tryz.ntmps90
  go_upto_region 1 with (go_big_may; (refine L_box1 (d := some 3) rfl rfl rfl (ev_tmp rfl) rfl ?_; (try clear hnew); intro g3 W3 hnew; replace hst := hst.trans hnew; simp only [List.cons_append, List.nil_append] at hst))
  go_upto_region 2 with (go_big_may; (go_at_call 123; (try clear hnew); refine (HC.out _ _ (hst.old (by decide) hx) (cell_of (hst.get 0 rfl) rfl)).mono ?_; rintro e Wk ⟨rfl, hnew⟩; replace hst := hst.keep hnew))
  go_upto_region 4 with (go_big_may; fail)
  refine wp_region_idx [(0, 0), (1, 0), (2, 0), (3, 0), (4, 0), (5, 0), (6, 2), (7, 2)] (by kernel_rfl) (by kernel_rfl) ?_
  replace hst := hst.drew
  refine idx_q rfl rfl ?_; go_wp2_with fail
  refine idx_q rfl rfl ?_; go_wp2_with fail
  refine idx_q rfl rfl ?_; go_wp2_with (((refine L_cutU (d := some 15) rfl rfl rfl (by rfl) Tryz.underlying143 el_api_Entry (by decide) hx 0 _ _ (Or.inl ⟨rfl, rfl⟩) (Or.inr ⟨_, _, rfl, by (exact ev_tmp rfl)⟩) (Or.inl ⟨rfl, rfl⟩) (by omega) (by omega) (by omega) (by omega) ?_; intro A15 c15 hs15)))
  refine idx_q rfl rfl ?_; go_wp2_with fail
  refine idx_q rfl rfl ?_; go_wp2_with fail
  refine idx_q rfl rfl ?_; go_wp2_with (((refine L_cutU (d := some 18) rfl rfl rfl (by rfl) Tryz.underlying143 el_api_Entry (by decide) hx _ _ _ (Or.inr ⟨_, _, rfl, by (exact ev_tmp rfl)⟩) (Or.inl ⟨rfl, rfl, rfl⟩) (Or.inl ⟨rfl, rfl⟩) (by omega) (by omega) (by omega) (by omega) ?_; intro A18 c18 hs18)))
  refine idx_g rfl ?_; go_wp2_with fail; refine ⟨by (exact Below.refl _ _), ?_⟩
  refine idx_g rfl ?_; go_wp2_with fail; refine ⟨by (exact Below.refl _ _), ?_⟩
  refine idx_nil ?_
  go_wp2_with fail
  go_ret2
  refine ⟨A15, i, c15, A18, n - i, c18, rfl, fun V hV => ?_, fun V hV => ?_, hst.forget⟩
  ·have hs := hs15 V hV
   rw [Nat.sub_zero, Nat.zero_mul, List.drop_zero, ht.out] at hs
   exact hs
  ·have hs := hs18 V hV
   have hz := hx.1
   rw [hd.out, List.take_of_length_le (by
    have := congrArg List.length hd.out
    rw [List.length_drop, hz] at this
    rw [← this, Nat.sub_mul]
    exact Nat.le_refl _)] at hs
   exact hs
 ·rw [if_neg hin] at HC
  have hin' : i = n := by omega
  obtain ⟨h1, h2⟩ := hall.out hin'
  have H12 := Lib.hid (And.intro h1 h2)
  clear h1 h2 hall
  subst hin'
  go_enter Tryz.func90, Tryz.ntmps90
  go_upto_region 1 with (go_big_may; (refine L_box1 (d := some 3) rfl rfl rfl (ev_tmp rfl) rfl ?_; (try clear hnew); intro g3 W3 hnew; replace hst := hst.trans hnew; simp only [List.cons_append, List.nil_append] at hst))
  go_upto_region 2 with (go_big_may; (go_at_call 123; (try clear hnew); refine (HC.out _ _ (hst.old (by decide) hx) (cell_of (hst.get 0 rfl) rfl)).mono ?_; rintro e Wk ⟨rfl, hnew⟩; replace hst := hst.keep hnew))
  go_upto_region 3 with (go_big_may; fail)
  go_wp2_with (fail)
  go_ret2
  obtain ⟨h1, h2⟩ := H12.out
  exact ⟨A, i, c, none, 0, 0, rfl, fun V hV => by rw [← h1]; exact hV, fun V _ => by rw [h2]; exact SlR.nil_ V 33, hst.forget⟩
end Go.Proofs.YtaebeemnipafbaaGreatDoor

set_option maxRecDepth 20000
set_option linter.unusedSimpArgs false
set_option linter.unusedVariables false
namespace Go.Proofs.YtaebeemnipafbaaGreatDoor
open Go.RowKit
theorem cutI_mid {es : List (Nat × Dig)} {b q : Nat} (hr : ∀ e ∈ es, q * 2 ^ (b + 1) ≤ e.1 ∧ e.1 < q * 2 ^ (b + 1) + 2 ^ (b + 1)) : cutI b es = es.findIdx fun e => decide (q * 2 ^ (b + 1) + 2 ^ b ≤ e.1) := by
 unfold cutI
 induction es with
 | nil => rfl
 | cons e es ih =>
  rw [List.findIdx_cons, List.findIdx_cons, ih (fun x hx => hr x (List.mem_cons_of_mem _ hx)), bit_mid (hr e (by simp)).1 (hr e (by simp)).2]
theorem pw_nodup {es : List (Nat × Dig)} (h : es.Pairwise fun a b => a.1 < b.1) : (es.map (·.1)).Nodup := by
 rw [List.Nodup, List.pairwise_map]
 exact h.imp (fun h => Nat.ne_of_lt h)
attribute [local simp] prArr_size
set_option maxHeartbeats 4000000 in
set_option maxRecDepth 100000 in
theorem troot_any : ∀ (b : Nat) (es : List (Nat × Dig)) (A : Option Addr) (n c q : Nat) (w : World), Tb w → SlR w A n c 33 (entL es) → b ≤ 32 → (es.Pairwise fun x y => x.1 < y.1) → (∀ e ∈ es, q * 2 ^ b ≤ e.1 ∧ e.1 < q * 2 ^ b + 2 ^ b) → q * 2 ^ b + 2 ^ b ≤ 4294967296 →
  Calls Tryz.prog 85 #[.slice A n c, .int .i64 (b : Int)] w fun e w' => e = .returned (mRoot (leafAt es) b (q * 2 ^ b)).v ∧ St w w' [] := by
 intro b
 induction b with
 | zero =>
  intro es A n c q w hT hx _ hs hr hq
  have hst := St.refl w
  have hl : n = es.length := by have := hx.1; rw [length_entL] at this; omega
  cases es with
  | nil =>
   obtain rfl : n = 0 := hl
   have HM := Lib.hid (mRoot_empty 0 (q * 2 ^ 0))
   generalize mRoot (leafAt []) 0 (q * 2 ^ 0) = r at *
   clear hT hs hr hq
   go_enter Tryz.func85, Tryz.ntmps85
   go_upto_region 1 with (go_big_may; (refine L_allocA (d := some 4) rfl rfl rfl el_api_Digest ?_; (try clear hnew); intro g4 W4 hnew; replace hst := hst.trans hnew; simp only [List.cons_append, List.nil_append] at hst))
   go_upto_region 2 with (go_big_may; fail)
   go_wp2_with (first | (refine L_build0 (d := some 12) rfl rfl rfl Tryz.underlying32 el_uint8 el_api_Digest ?_) | (refine wpl_at (.store 32 (.tmp 4) (.tmp 12)) rfl ?_; (refine L_storeA rfl rfl hst rfl (by rfl) (ev_tmp rfl) (by (exact Dig.one _)) el_api_Digest (by (rfl)) 0 rfl (by (rfl)) ?_; clear hst; intro WS1 hst; simp only [List.set_cons_zero, List.set_cons_succ] at hst)))
   refine bp_cell rfl rfl rfl (hst.get 0 rfl) Tryz.underlying32 rfl el_api_Digest (by (rfl)) ?_
   rw [HM.out]
   exact ⟨rfl, hst.forget⟩
  | cons e es =>
   have h0 := hr e (by simp)
   have he : e.1 = q := by omega
   have HM := Lib.hid (show mRoot (leafAt (e :: es)) 0 (q * 2 ^ 0) = eLeaf e.1 e.2 from by
    show leafAt (e :: es) (q * 2 ^ 0) = _
    rw [show q * 2 ^ 0 = e.1 by omega]
    exact leafAt_some (pw_nodup hs) (by simp))
   generalize mRoot (leafAt (e :: es)) 0 (q * 2 ^ 0) = r at *
   have hn0 : ((n : Int) == 0) = false := by rw [beq_eq_false_iff_ne]; simp at hl; omega
   have hn1 : (0 : Int) < (n : Int) := by simp at hl; omega
   have HP := Lib.hid (entL_at (e :: es) 0 (by simp))
   have hnc := hx.2.1
   have HT := Lib.hid hT
   have hk : e.1 < 4294967296 := by omega
   have HL := Lib.hid (fun (w' : World) (h : Tb w') => tleafE_any e.1 e.2 w' h hk)
   obtain ⟨k, d⟩ := e
   simp only [List.getElem_cons_zero] at *
   generalize eLeaf k d = ld at *
   generalize entL ((k, d) :: es) = el at *
   clear hT hs hr hq hl h0 he hk
   go_enter Tryz.func85, Tryz.ntmps85
   go_upto_region 1 with (go_big_may; (refine L_allocA (d := some 4) rfl rfl rfl el_api_Digest ?_; (try clear hnew); intro g4 W4 hnew; replace hst := hst.trans hnew; simp only [List.cons_append, List.nil_append] at hst))
   go_upto_region 3 with (go_big_may; fail)
   go_upto_region 4 with (go_big_may; fail)
   go_upto_region 5 with (go_big_may; first | (refine L_loadM (d := some 18) rfl rfl rfl (by rfl) Tryz.underlying110 rfl el_api_Entry (cs := prArr (k : Int) d) (by rw [← HP.out]; exact hr17) (prArr_size _ _) ?_) | (go_at_call 96; (try clear hnew); refine (HL.out _ (HT.out.of hst)).mono ?_; rintro e Wk1 ⟨rfl, hnew⟩; replace hst := hst.keep hnew) | (refine L_idxS (d := some 17) rfl rfl rfl (by rfl) (by rfl) Tryz.underlying143 el_api_Entry (by (exact hst.old (by decide) hx)) (by omega) (by omega) ?_; intro o17 p17 ha17 hr17; ((subst ha17))) | (refine L_allocA (d := some 5) rfl rfl rfl el_api_Digest ?_; (try clear hnew); intro g5 W5 hnew; replace hst := hst.trans hnew; simp only [List.cons_append, List.nil_append] at hst) | (refine wpl_at (.store 32 (.tmp 5) (.tmp 20)) rfl ?_; (refine L_storeA rfl rfl hst rfl (by rfl) (ev_tmp rfl) (by (exact Dig.one _)) el_api_Digest (by (exact Dig.size _)) 0 rfl (by (rfl)) ?_; clear hst; intro WS8 hst; simp only [List.set_cons_zero, List.set_cons_succ] at hst)))
   go_wp2_with (first | ((refine L_loadA (d := some 22) rfl rfl rfl (by rfl) Tryz.underlying32 rfl el_api_Digest (by (exact hst.get 0 rfl)) (by (exact Dig.size _)) ?_)) | (refine wpl_at (.store 32 (.tmp 4) (.tmp 22)) rfl ?_; (refine L_storeA rfl rfl hst rfl (by rfl) (ev_tmp rfl) (by (exact Dig.one _)) el_api_Digest (by (exact Dig.size _)) 1 rfl (by (rfl)) ?_; clear hst; intro WS1 hst; simp only [List.set_cons_zero, List.set_cons_succ] at hst)))
   refine bp_cell rfl rfl rfl (hst.get 1 rfl) Tryz.underlying32 rfl el_api_Digest (by (exact Dig.size _)) ?_
   rw [HM.out]
   exact ⟨rfl, hst.forget⟩
 | succ b ih =>
  intro es A n c q w hT hx hb hs hr hq
  have hst := St.refl w
  have hl : n = es.length := by have := hx.1; rw [length_entL] at this; omega
  have e2 : 2 ^ (b + 1) = 2 ^ b + 2 ^ b := by rw [Nat.pow_succ]; omega
  have hp := Nat.two_pow_pos b
  have e3 : q * 2 ^ (b + 1) = 2 * q * 2 ^ b := by rw [Nat.pow_succ, Nat.mul_comm (2 ^ b) 2, ← Nat.mul_assoc, Nat.mul_comm q 2]
  have e4 : (2 * q + 1) * 2 ^ b = q * 2 ^ (b + 1) + 2 ^ b := by rw [Nat.add_mul, Nat.one_mul, e3]
  cases hes : es with
  | nil =>
   rw [hes] at hx hl
   obtain rfl : n = 0 := hl
   have HM := Lib.hid (mRoot_empty (b + 1) (q * 2 ^ (b + 1)))
   generalize mRoot (leafAt []) (b + 1) (q * 2 ^ (b + 1)) = r at *
   clear hT hs hr hq ih e2 e3 e4 hes hp
   go_enter Tryz.func85, Tryz.ntmps85
   go_upto_region 1 with (go_big_may; (refine L_allocA (d := some 4) rfl rfl rfl el_api_Digest ?_; (try clear hnew); intro g4 W4 hnew; replace hst := hst.trans hnew; simp only [List.cons_append, List.nil_append] at hst))
   go_upto_region 2 with (go_big_may; fail)
   go_wp2_with (first | (refine L_build0 (d := some 12) rfl rfl rfl Tryz.underlying32 el_uint8 el_api_Digest ?_) | (refine wpl_at (.store 32 (.tmp 4) (.tmp 12)) rfl ?_; (refine L_storeA rfl rfl hst rfl (by rfl) (ev_tmp rfl) (by (exact Dig.one _)) el_api_Digest (by (rfl)) 0 rfl (by (rfl)) ?_; clear hst; intro WS1 hst; simp only [List.set_cons_zero, List.set_cons_succ] at hst)))
   refine bp_cell rfl rfl rfl (hst.get 0 rfl) Tryz.underlying32 rfl el_api_Digest (by (rfl)) ?_
   rw [HM.out]
   exact ⟨rfl, hst.forget⟩
  | cons e0 es0 =>
   rw [← hes]
   have hn0 : ((n : Int) == 0) = false := by rw [beq_eq_false_iff_ne, hl, hes]; simp; omega
   have hb0 : (((b + 1 : Nat) : Int) == 0) = false := by rw [beq_eq_false_iff_ne]; omega
   clear hes
   have hcut := cutI_mid hr
   have hmr := mRoot_halves es b (q * 2 ^ (b + 1))
   rw [← cut_low es _ hs, ← cut_high es _ hs, ← hcut] at hmr
   have hlow : es.take (cutI b es) = es.filter fun e => decide (e.1 < q * 2 ^ (b + 1) + 2 ^ b) := by rw [hcut]; exact cut_low es _ hs
   have hhigh : es.drop (cutI b es) = es.filter fun e => decide (q * 2 ^ (b + 1) + 2 ^ b ≤ e.1) := by rw [hcut]; exact cut_high es _ hs
   have HH := Lib.hid (fun (w' : World) (h : SlR w' A n c 33 (entL es)) => halves_any es A n c b w' h (by omega) (fun e he => by have := hr e he; omega))
   have HL := Lib.hid (fun (w' : World) (A1 : Option Addr) (n1 c1 : Nat) (ht : Tb w') (h : SlR w' A1 n1 c1 33 (entL (es.take (cutI b es)))) => ih (es.take (cutI b es)) A1 n1 c1 (2 * q) w' ht h (by omega) (hs.sublist (List.take_sublist _ _)) (fun e he => by
    have h1 := hr e ((List.take_sublist _ _).subset he)
    rw [hlow] at he
    have h2 := of_decide_eq_true (List.mem_filter.1 he).2
    omega) (by omega))
   have HR := Lib.hid (fun (w' : World) (A1 : Option Addr) (n1 c1 : Nat) (ht : Tb w') (h : SlR w' A1 n1 c1 33 (entL (es.drop (cutI b es)))) => ih (es.drop (cutI b es)) A1 n1 c1 (2 * q + 1) w' ht h (by omega) (hs.sublist (List.drop_sublist _ _)) (fun e he => by
    have h1 := hr e ((List.drop_sublist _ _).subset he)
    rw [hhigh] at he
    have h2 := of_decide_eq_true (List.mem_filter.1 he).2
    omega) (by omega))
   rw [← e3] at HL
   rw [e4] at HR
   have HM := Lib.hid hmr
   have HT := Lib.hid hT
   have HS := Lib.hid (show wrap64 (((b + 1 : Nat) : Int) - 1) = (b : Int) by
    rw [show ((b + 1 : Nat) : Int) - 1 = (b : Int) by omega]
    unfold wrap64
    omega)
   generalize mRoot (leafAt es) (b + 1) (q * 2 ^ (b + 1)) = r at *
   generalize mRoot (leafAt (es.take (cutI b es))) b (q * 2 ^ (b + 1)) = r1 at *
   generalize mRoot (leafAt (es.drop (cutI b es))) b (q * 2 ^ (b + 1) + 2 ^ b) = r2 at *
   generalize entL (es.take (cutI b es)) = l1 at *
   generalize entL (es.drop (cutI b es)) = l2 at *
   generalize entL es = el at *
   clear hT ih hs hr hq e2 e3 e4 hcut hmr hlow hhigh hl hp
   have hb31 : b ≤ 31 := by omega
   clear hb
   go_enter Tryz.func85, Tryz.ntmps85
   go_upto_region 1 with (go_big_may; (refine L_allocA (d := some 4) rfl rfl rfl el_api_Digest ?_; (try clear hnew); intro g4 W4 hnew; replace hst := hst.trans hnew; simp only [List.cons_append, List.nil_append] at hst))
   go_upto_region 3 with (go_big_may; fail)
   go_upto_region 6 with (go_big_may; fail)
   go_upto_region 7 with (go_big_may; (go_at_call 90; (try clear hnew); refine (HH.out _ (hst.old (by decide) hx)).mono ?_; rintro e Wh ⟨A1, n1, c1, A2, n2, c2, rfl, hx1, hx2, hnew⟩; have HX1 := Lib.hid hx1; have HX2 := Lib.hid hx2; clear hx1 hx2; replace hst := hst.keep hnew; clear hnew))
   go_wp2_with (first | (go_at_call_of 85 (Value.slice A1 n1 c1); (try clear hnew); refine (HL.out _ _ _ _ (HT.out.of hst) (HX1.out _ (hst.old (by decide) hx))).mono ?_; rintro e W1 ⟨rfl, hnew⟩; replace hst := hst.keep hnew) | (go_at_call_of 85 (Value.slice A2 n2 c2); (try clear hnew); refine (HR.out _ _ _ _ (HT.out.of hst) (HX2.out _ (hst.old (by decide) hx))).mono ?_; rintro e W1 ⟨rfl, hnew⟩; replace hst := hst.keep hnew) | (go_at_call 95; (try clear hnew); refine (mnode_any _ _ _ (HT.out.of hst)).mono ?_; rintro e Wk2 ⟨rfl, hnew⟩; replace hst := hst.keep hnew) | (refine wpl_at (.store 32 (.tmp 4) (.tmp 38)) rfl ?_; (refine L_storeA rfl rfl hst rfl (by rfl) (ev_tmp rfl) (by (exact Dig.one _)) el_api_Digest (by (exact Dig.size _)) 0 rfl (by (rfl)) ?_; clear hst; intro WS9 hst; simp only [List.set_cons_zero, List.set_cons_succ] at hst)))
   refine bp_cell rfl rfl rfl (hst.get 0 rfl) Tryz.underlying32 rfl el_api_Digest (by (exact Dig.size _)) ?_
   rw [HM.out]
   exact ⟨rfl, hst.forget⟩
end Go.Proofs.YtaebeemnipafbaaGreatDoor

set_option maxRecDepth 20000
set_option linter.unusedSimpArgs false
set_option linter.unusedVariables false
namespace Go.Proofs.YtaebeemnipafbaaGreatDoor
open Go.RowKit Go.Shelf Go.Sort
open Go.Maps (Keyed)
def cmpE (x y : KD) : Int := ((x.1.val : Nat) : Int) - ((y.1.val : Nat) : Int)
theorem ltE (x y : KD) : ltOf cmpE x y = decide (x.1.val < y.1.val) := by
 unfold ltOf cmpE
 congr 1
 apply propext
 omega
theorem swoE : Sort.SWO (ltOf cmpE) where
 irrefl x := by rw [ltE]; simp
 trans x y z h1 h2 := by rw [ltE] at *; simp at *; omega
 ntrans x y z h1 h2 := by rw [ltE] at *; simp at *; omega
section
variable {P : Program} {ops : Array Oper} {rest : List Oper} {o : Oper} {a : Act} {W w0 : World} {Q : Exit → Act → World → Prop} {L : List Res} {d : Option Tmp}
theorem L_boxG (hst : St w0 W L) (hgr : ∃ os, W = Sort.grow w0 os) (hd : o.dst = d) (hw : Region.wanted o (yielded ops a.tmps) = true) {T : TypeId} {x : Operand} (ho : o.op = .box T x) {cs : Array Value} (hx : a.eval x = .agg cs)
  (h : ∀ (g : Nat) (W' : World), St w0 W' (.blk g T cs :: L) → (∃ os, W' = Sort.grow w0 os) → wpList P ops Q rest (a.put d (.pointer (some ⟨g, 0, none⟩))) W') : wpList P ops Q (o :: rest) a W := by
 obtain ⟨os, rfl⟩ := hgr
 refine L_val hd hw (exec_box T x ho) ?_
 rw [hx]
 refine h _ _ (hst.alloc cs T) ⟨os ++ #[.cells cs T], ?_⟩
 rw [Sort.alloc_eq_grow, Sort.grow_grow]
 rfl
end
set_option maxHeartbeats 1000000 in
theorem cmp_clos (x y : KD) (W : World) : Calls Tryz.prog 121 #[.agg (prArr ((x.1.val : Nat) : Int) x.2), .agg (prArr ((y.1.val : Nat) : Int) y.2)] W fun e w' => e = .returned (.int .i64 (cmpE x y)) ∧ ∃ os, w' = Sort.grow W os := by
 have hst := St.refl W
 have hgr : ∃ os, W = Sort.grow W os := ⟨#[], by simp⟩
 have lx := x.1.isLt
 have ly := y.1.isLt
 go_enter Tryz.func121, Tryz.ntmps121
 go_wp2_with (first | (refine L_boxG hst hgr (d := some 2) rfl rfl rfl (ev_tmp rfl) ?_; clear hst hgr; intro g2 W2 hst hgr) | (refine L_boxG hst hgr (d := some 3) rfl rfl rfl (ev_tmp rfl) ?_; clear hst hgr; intro g3 W3 hst hgr) | (refine L_load1 (d := some 6) rfl rfl rfl (by rfl) Tryz.underlying3 rfl (cell_of (hst.get 1 rfl) prArr_0) ?_) | (refine L_load1 (d := some 8) rfl rfl rfl (by rfl) Tryz.underlying3 rfl (cell_of (hst.get 0 rfl) prArr_0) ?_))
 go_ret
 exact ⟨rfl, hgr⟩
theorem ent_get {ks : List KD} {j : Nat} {v : Value} (h : (entL (ks.map kdN))[j]? = some v) : j / 33 < ks.length ∧ (encE (ks[j / 33]!))[j % 33]? = some v := by
 have hj := (List.getElem?_eq_some_iff.1 h).1
 rw [length_entL, List.length_map] at hj
 have h1 : j / 33 < ks.length := by omega
 refine ⟨h1, ?_⟩
 rw [← kd_at h1, List.getElem?_take, if_pos (by omega), List.getElem?_drop, show j / 33 * 33 + j % 33 = j by omega]
 exact h
theorem St.sortRows {w0 W : World} {L : List Res} (h : St w0 W L) (k : Nat) {blk off n c e : Nat} {xs : List Value} (hk : L[k]? = some (.row (some ⟨blk, off, none⟩) n c e 33 xs)) (q : Nat) (d : Array KD) (hd : d.size = n) (os : Array Obj) :
  St w0 (sortWorldK encE 33 W blk off q d os) (L.set k (.row (some ⟨blk, off, none⟩) n c e 33 (entL (d.toList.map kdN)))) := by
 have hlt : blk < W.heap.size := h.lt (List.mem_of_getElem? hk) rfl
 have hsz : (putRowK encE 33 (Sort.ahead W q) blk off d).heap.size = W.heap.size := by simp [putRowK, Sort.putRow, mapBlock, Sort.ahead]
 have hold : ∀ i, i < W.heap.size → (sortWorldK encE 33 W blk off q d os).heap[i]? = (putRowK encE 33 (Sort.ahead W q) blk off d).heap[i]? := fun i hi => heap_grow_old _ _ (by rw [hsz]; exact hi)
 refine h.turnAt k hk rfl rfl rfl (by simp [sortWorldK, putRowK, Sort.putRow, mapBlock, Sort.ahead, Sort.grow]) (fun i hi hne => ?_) (fun g hg => .inl hg) ?_
 ·rw [hold i hi]
  have hne : blk ≠ i := fun e => hne (by simp [Res.dom, e])
  simp [putRowK, Sort.putRow, mapBlock, Sort.ahead, Array.getElem?_modify, hne]
 ·rcases h.at_ k hk with ⟨h0, _⟩ | ⟨g, off', cur, hA, hh, hr⟩
  ·cases h0
  ·simp only [Option.some.injEq, Addr.mk.injEq, and_true] at hA
   obtain ⟨rfl, rfl⟩ := hA
   refine .inr ⟨blk, off, putCells id off (flatK encE 33 d) cur, rfl, ?_, ?_⟩
   ·rw [hold blk hlt]
    show ((Sort.ahead W q).heap.modify blk _)[blk]? = _
    rw [Array.getElem?_modify, if_pos rfl]
    show (W.heap[blk]?).map _ = _
    rw [hh]
    rfl
   ·have hrm := hr.room
    have hnc := hr.nc
    have hl : (entL (d.toList.map kdN)).length = n * 33 := by rw [length_entL, List.length_map, Array.length_toList, hd]
    refine ⟨hl, hnc, hr.cm, by simpa [putCells] using hrm, fun j v hv => ?_⟩
    have hj : j < n * 33 := by rw [← hl]; exact (List.getElem?_eq_some_iff.1 hv).1
    have hroom : n * 33 ≤ c * 33 := Nat.mul_le_mul_right _ hnc
    rw [putCells, Array.getElem?_mapIdx]
    have hlt2 : off + j < cur.size := by omega
    rw [Array.getElem?_eq_getElem hlt2]
    obtain ⟨h1, h2⟩ := ent_get hv
    have h3 : off ≤ off + j ∧ off + j < off + (flatK encE 33 d).size := by rw [size_flatK, hd]; omega
    simp only [Option.map_some, h3, and_self, if_true, id]
    rw [show off + j - off = j by omega, get_flatK _ _ _ _ (by rw [hd]; exact hj)]
    have h4 : d[j / 33]! = d.toList[j / 33]! := by simp [getElem!_def]
    rw [h4]
    congr 1
    rw [getElem!_def, h2]
theorem frozen_row {w0 W : World} {L : List Res} (h : St w0 W L) (k : Nat) {blk off n c e s : Nat} {xs : List Value} (hk : L[k]? = some (.row (some ⟨blk, off, none⟩) n c e s xs)) (j : Nat) (hj : j < n * s) : W.frozen? ⟨blk, off + j, none⟩ = false := by
 rcases h.at_ k hk with ⟨h0, _⟩ | ⟨g, off', cur, hA, hh, hr⟩
 ·cases h0
 ·simp only [Option.some.injEq, Addr.mk.injEq, and_true] at hA
  obtain ⟨rfl, rfl⟩ := hA
  have hrm := hr.room
  have : n * s ≤ c * s := Nat.mul_le_mul_right _ hr.nc
  exact (there_of_block (o := off) (n := n * s) hh (by omega) j hj).2
set_option maxHeartbeats 1000000 in
theorem sort_some (ks : List KD) (blk off n c : Nat) (w0 w : World) (L : List Res) (hst : St w0 w (.row (some ⟨blk, off, none⟩) n c 110 33 (entL (ks.map kdN)) :: L)) (hn : n ≤ 64) :
  Calls Tryz.prog 120 #[.slice (some ⟨blk, off, none⟩) n c, .func (.func 121) #[] #[]] w fun e w' => e = .returned (.tuple #[]) ∧
   ∃ ds : List KD, ds.Perm ks ∧ (ds.Pairwise fun a b => ¬ b.1.val < a.1.val) ∧ St w0 w' (.row (some ⟨blk, off, none⟩) n c 110 33 (entL (ds.map kdN)) :: L) := by
 have hx := hst.sl 0 rfl
 have hl : n = ks.length := by have := hx.1; rw [length_entL, List.length_map] at this; omega
 have hlt : blk < w.heap.size := hst.lt (List.mem_cons_self ..) rfl
 have h := AnyQ.slices_SortFunc Tryz.laysSortE 33 Tryz.isAgg110 Tryz.sizeOf110 encE length_encE (fun x => prArr_one _ _) cmpE swoE 121 #[] blk off c ks.toArray w (enters_of Tryz.func121 (by kernel_rfl) rfl)
  (fun m os dk hs x y => (cmp_clos x y _).mono fun e w' ⟨he, os', hw⟩ => ⟨he, 0, os', hw⟩)
  (fun t ht => by
   rw [size_flatK] at ht
   have ht' : t < ks.length * 33 := by simpa using ht
   refine ⟨?_, frozen_row hst 0 rfl t (by rw [hl]; exact ht')⟩
   rw [get_flatK _ _ _ _ ht]
   have h1 : t / 33 < ks.length := by omega
   have h2 : t % 33 < (encE (ks[t / 33]!)).length := by rw [length_encE]; omega
   have h3 := ent_cells hx (j := t / 33) h1 (i := t % 33) (v := (encE (ks[t / 33]!))[t % 33]) (List.getElem?_eq_getElem h2)
   rw [show off + t / 33 * 33 + t % 33 = off + t by omega] at h3
   rw [h3]
   have h4 : ks.toArray[t / 33]! = ks[t / 33]! := by simp [getElem!_def]
   rw [h4]
   simp only [id]
   generalize encE (ks[t / 33]!) = ee at h2 ⊢
   simp [getElem!_def, List.getElem?_eq_getElem h2])
  hlt (by simp; omega)
 have hz : ks.toArray.size = n := by simp [hl]
 rw [hz] at h
 refine h.mono ?_
 rintro e w' ⟨rfl, d', q, os, hp, hs, rfl⟩
 refine ⟨rfl, d'.toList, ?_, ?_, ?_⟩
 ·have := (list_perm (by rw [hz]; exact hp)).2
  simpa using this
 ·have h1 := (list_perm (by rw [hz]; exact hp)).1
  have := list_sorted (lt := ltOf cmpE) (d := d') (by rw [h1, hz]; exact hs)
  refine this.imp (fun {a b} hab => ?_)
  rw [ltE] at hab
  exact of_decide_eq_false hab
 ·have h1 := (list_perm (by rw [hz]; exact hp)).1
  exact hst.sortRows 0 rfl q d' (by rw [h1, hz]) os
theorem sort_any (ks : List KD) (A : Option Addr) (n c : Nat) (w0 w : World) (L : List Res) (hst : St w0 w (.row A n c 110 33 (entL (ks.map kdN)) :: L)) (hn : n ≤ 64) :
  Calls Tryz.prog 120 #[.slice A n c, .func (.func 121) #[] #[]] w fun e w' => e = .returned (.tuple #[]) ∧
   ∃ ds : List KD, ds.Perm ks ∧ (ds.Pairwise fun a b => ¬ b.1.val < a.1.val) ∧ St w0 w' (.row A n c 110 33 (entL (ds.map kdN)) :: L) := by
 have hx := hst.sl 0 rfl
 have hl : n = ks.length := by have := hx.1; rw [length_entL, List.length_map] at this; omega
 rcases Nat.eq_zero_or_pos n with h0 | h0
 ·obtain rfl : ks = [] := List.eq_nil_of_length_eq_zero (by omega)
  subst h0
  refine (AnyF.slices_SortFunc_none Tryz.laysSortE A c _ w).mono ?_
  rintro e w' ⟨rfl, rfl⟩
  exact ⟨rfl, [], List.Perm.refl _, List.Pairwise.nil, hst⟩
 ·obtain ⟨b, o, rfl, _⟩ := hx.2.2.2 h0
  exact sort_some ks b o n c w0 w L hst hn
end Go.Proofs.YtaebeemnipafbaaGreatDoor

set_option maxRecDepth 20000
set_option linter.unusedSimpArgs false
set_option linter.unusedVariables false
namespace Go.Proofs.YtaebeemnipafbaaGreatDoor
open Go.RowKit Go.Shelf Go.Sort
open Go.Maps (Keyed)
theorem entL_ones (es : List (Nat × Dig)) : ∀ u ∈ entL es, u.oneCell' = true := by
 intro u hu
 unfold entL pairsL at hu
 obtain ⟨p, _, hp⟩ := List.mem_flatMap.1 hu
 exact prArr_one p.1 p.2 u (by rw [prArr_list]; exact hp)
set_option maxHeartbeats 1000000 in
theorem cloneE_any (es : List (Nat × Dig)) (A : Option Addr) (n c : Nat) (w : World) (hx : SlR w A n c 33 (entL es)) (hn : n ≤ 64) :
  Calls Tryz.prog 119 #[.slice A n c] w fun e w' => ∃ O oc, e = .returned (.slice O n oc) ∧ St w w' [.row O n oc 110 33 (entL es)] := by
 have hst := St.refl w
 have q49 : ∀ (w : World) (a : Option Addr) (n c n' c' : Nat), (binOp .eql 93 (.slice a n c) (.slice none n' c')).run Tryz.prog w = .ok (.bool a.isNone) w := fun w a n c n' c' => Lib.run_eql_slice_nil w _ _ a n c n' c' Tryz.underlying93
 cases A with
 | none =>
  obtain rfl : n = 0 := by
   rcases Nat.eq_zero_or_pos n with h | h
   ·exact h
   ·obtain ⟨b, o, h1, _⟩ := hx.2.2.2 h
    cases h1
  obtain rfl : es = [] := List.eq_nil_of_length_eq_zero (by have := hx.1; rw [length_entL] at this; omega)
  go_enter Tryz.func119, Tryz.ntmps119
  go_wp2_with (fail)
  go_ret
  exact ⟨none, 0, rfl, hst.nilRow _ 33⟩
 | some a =>
  go_enter Tryz.func119, Tryz.ntmps119
  go_wp2_with (first | (refine L_buildS (d := some 5) rfl rfl rfl [] (bs_0 ) rfl Tryz.underlying93 el_api_Entry rfl (by (simp [Value.cells]; done)) (by decide) (by decide) ?_; (try clear hnew); intro g5 W5 hnew; replace hst := hst.trans hnew; simp only [List.cons_append, List.nil_append] at hst; simp only [List.flatMap_cons, List.flatMap_nil, List.append_nil, Value.cells, List.toList_toArray] at hst) | (refine L_appendO (d := some 7) rfl rfl hst rfl (by rfl) (by rfl) Tryz.underlying93 el_api_Entry rfl (by decide) (by decide) 0 rfl (by (rfl)) (by (exact hst.old (by decide) hx)) (by (exact entL_ones _)) (by omega) ?_; clear hst; intro A7 c7 W7 hst; simp only [List.set_cons_zero, List.set_cons_succ, List.nil_append, Nat.zero_add] at hst))
  go_ret
  exact ⟨_, _, rfl, by simpa using hst⟩
def kInt (n : Nat) : Value := .int .i64 (n : Int)
theorem kInt_inj (x y : Nat) (h : kInt x = kInt y) : x = y := by simp only [kInt, Value.int.injEq, true_and] at h; omega
theorem keyed_int : Keyed Tryz.prog 3 := Go.Maps.int_keyed Tryz.underlying3
theorem kInt_ok {n : Nat} (h : n < 9223372036854775808) : KeyOk Tryz.prog 3 kInt n := ⟨_, Go.Maps.keyOf_int_mk Tryz.underlying3 (WalkArith.wf_i64 (by omega))⟩
def metL (es : List (Nat × Dig)) (j : Nat) : List (Nat × Nat) := (es.take j).mapIdx fun i e => (e.1, i)
theorem metL_keys (es : List (Nat × Dig)) (j : Nat) : (metL es j).map (·.1) = (es.take j).map (·.1) := by
 unfold metL
 apply List.ext_getElem?
 intro i
 rw [List.getElem?_map, List.getElem?_mapIdx, List.getElem?_map, Option.map_map]
 rfl
theorem metL_succ {es : List (Nat × Dig)} {j : Nat} (hj : j < es.length) : metL es (j + 1) = metL es j ++ [(es[j].1, j)] := by
 unfold metL
 rw [List.take_succ_eq_append_getElem hj, List.mapIdx_append]
 simp [Nat.min_eq_left (Nat.le_of_lt hj)]
set_option maxHeartbeats 4000000 in
set_option maxRecDepth 100000 in
theorem tsorted_any (es : List (Nat × Dig)) (A : Option Addr) (n c : Nat) (w : World) (hx : SlR w A n c 33 (entL es)) (hn : n ≤ 64) (hk : ∀ e ∈ es, e.1 < 4294967296) (hd : (es.map (·.1)).Nodup) :
  Calls Tryz.prog 84 #[.slice A n c] w fun e w' => ∃ (ss : List (Nat × Dig)) (O : Option Addr) (oc : Nat), e = .returned (.tuple #[.slice O n oc, .nilIface]) ∧ (ss.Pairwise fun a b => a.1 < b.1) ∧ ss.Perm es ∧ St w w' [.row O n oc 110 33 (entL ss)] := by
 have hst := St.refl w
 have hl : n = es.length := by have := hx.1; rw [length_entL] at this; omega
 have h64 : ¬ (64 : Int) < (n : Int) := by omega
 have hnc := hx.2.1
 have hcm := hx.2.2.1
 simp only [maxLen] at hcm
 have HA := Lib.hid (fun j (hj : j < n) => show ∃ (k : Nat) (d : Dig), k < 4294967296 ∧ ((entL es).drop ((j : Int).toNat * 33)).take 33 = (prArr (k : Int) d).toList ∧ k ∉ (metL es j).map (·.1) ∧ metL es (j + 1) = metL es j ++ [(k, j)] from by
  have hj' : j < es.length := by omega
  refine ⟨es[j].1, es[j].2, hk _ (List.getElem_mem _), entL_at es j hj', ?_, metL_succ hj'⟩
  rw [metL_keys]
  intro hm
  obtain ⟨e, he, hee⟩ := List.mem_map.1 hm
  obtain ⟨i, hi, hie⟩ := List.mem_iff_getElem.1 he
  rw [List.length_take] at hi
  have hdi := List.pairwise_iff_getElem.1 hd i j (by simp; omega) (by simpa using hj') (by omega)
  rw [List.getElem_map, List.getElem_map] at hdi
  rw [List.getElem_take] at hie
  exact hdi (by rw [hie, hee]))
 have HK := Lib.hid (fun j => show ∀ p ∈ metL es j, KeyOk Tryz.prog 3 kInt p.1 from fun p hp => by
  have h1 : p.1 ∈ (metL es j).map (·.1) := List.mem_map.2 ⟨p, hp, rfl⟩
  rw [metL_keys] at h1
  obtain ⟨e, he, hee⟩ := List.mem_map.1 h1
  have := hk e ((List.take_sublist _ _).subset he)
  exact kInt_ok (by omega))
 have HD := Lib.hid (fun j => show ((metL es j).map (·.1)).Nodup from by
  rw [metL_keys]
  exact hd.sublist ((List.take_sublist _ _).map _))
 obtain ⟨ks, hks⟩ := kd_of hk
 have HS := Lib.hid (show ∀ ds : List KD, ds.Perm ks → (ds.Pairwise fun a b => ¬ b.1.val < a.1.val) → ((ds.map kdN).Pairwise fun a b => a.1 < b.1) ∧ (ds.map kdN).Perm es from fun ds h1 h2 => by
  rw [hks]
  exact sorted_kd h1 h2 (by rw [← hks]; exact hd))
 have HC := Lib.hid (fun (w' : World) (h : SlR w' A n c 33 (entL es)) => cloneE_any es A n c w' h hn)
 have HO := Lib.hid (fun (O : Option Addr) (oc : Nat) (w0 w' : World) (L : List Res) (h : St w0 w' (.row O n oc 110 33 (entL es) :: L)) => sort_any ks O n oc w0 w' L (by rw [← hks]; exact h) hn)
 have hm0 : metL es 0 = [] := rfl
 clear hk hd hks hn hl
 go_enter Tryz.func84, Tryz.ntmps84
 go_wp2_with ((refine L_makeMap kInt kInt (d := some 14) rfl rfl rfl ?_; intro gm W14 hnew; replace hst := hst.trans hnew; simp only [List.cons_append, List.nil_append] at hst))
 (try clear hnew)
 rw [← hm0] at hst
 generalize entL es = el at *
 generalize metL es = mt at *
 clear hm0 h64
 go_loopg [17] n (fun gk s17 wr => ∃ j : Nat, Hid (j + gk = n) ∧ s17 = .int .i64 (j : Int) ∧ St w wr [.obj gm (mpO kInt kInt (mt j))])
 case atStart => exact ⟨0, Lib.hid (by omega), rfl, hst⟩
 case round =>
  clear hst
  obtain ⟨j, HI, rfl, hst⟩ := hrel
  have hi := HI.out
  by_cases hjm : j < n
  ·clear hi
   obtain ⟨k, d, hk, hp, hkm, hms⟩ := HA.out j hjm
   have HP := Lib.hid hp
   have HM := Lib.hid hms
   have HN := Lib.hid (lookA_none.2 hkm)
   have HKk := Lib.hid (fun w : World => by have h := tkey_any (k : Int) w; rw [decide_eq_true (show 0 ≤ (k : Int) ∧ (k : Int) < 4294967296 by omega)] at h; exact h)
   have HU := Lib.hid (show updA k j (mt j) = mt (j + 1) from by rw [hms]; exact if_neg hkm)
   have HKO := Lib.hid (show KeyOk Tryz.prog 3 kInt k from kInt_ok (by omega))
   clear hp hms hkm hk
   go_wp2_with (first | (refine L_loadM (d := some 21) rfl rfl rfl (by rfl) Tryz.underlying110 rfl el_api_Entry (cs := prArr (k : Int) d) (by rw [← HP.out]; exact hr20) (prArr_size _ _) ?_) | (go_at_call 89; (try clear hnew); refine (HKk.out _).mono ?_; rintro e Wk1 ⟨rfl, hnew⟩; replace hst := hst.keep hnew) | (refine L_look2 (fk := kInt) (fv := kInt) (y := k) (l := mt j) (d := some 31) rfl rfl rfl keyed_int Tryz.underlying187 el_int (ev_tmp rfl) (ev_tmp rfl) kInt_inj (HK.out j) (HD.out j) HKO.out (by (exact hst.obj 1 rfl)) HN.out ?_) | (refine L_mapUpd (fk := kInt) (fv := kInt) (l := mt j) (u := k) (v := j) rfl rfl hst rfl keyed_int Tryz.underlying187 (ev_tmp rfl) (ev_tmp rfl) (ev_tmp rfl) kInt_inj (HK.out j) (HD.out j) HKO.out 1 rfl ?_; clear hst; intro WM hst; simp only [List.set_cons_zero, List.set_cons_succ] at hst; rw [HU.out] at hst) | (refine L_idxS (d := some 20) rfl rfl rfl (by rfl) (by rfl) Tryz.underlying93 el_api_Entry (by (exact hst.old (by decide) hx)) (by omega) (by omega) ?_; intro o20 p20 ha20 hr20; ((subst ha20))) | (refine L_allocA (d := some 6) rfl rfl rfl el_api_Entry ?_; (try clear hnew); intro g6 W6 hnew; replace hst := hst.trans hnew; simp only [List.cons_append, List.nil_append] at hst) | (refine wpl_at (.store 110 (.tmp 6) (.tmp 21)) rfl ?_; (refine L_storeA rfl rfl hst rfl (by rfl) (ev_tmp rfl) (by (exact prArr_all _ _)) el_api_Entry (by (exact prArr_size _ _)) 0 rfl (by (rfl)) ?_; clear hst; intro WS5 hst; simp only [List.set_cons_zero, List.set_cons_succ] at hst)) | (refine L_load1 (d := some 23) rfl rfl rfl (by rfl) Tryz.underlying3 rfl (by (exact cell_of (hst.get 0 rfl) prArr_0)) ?_) | (refine L_load1 (d := some 30) rfl rfl rfl (by rfl) Tryz.underlying3 rfl (by (exact cell_of (hst.get 0 rfl) prArr_0)) ?_) | (refine L_load1 (d := some 38) rfl rfl rfl (by rfl) Tryz.underlying3 rfl (by (exact cell_of (hst.get 0 rfl) prArr_0)) ?_))
   go_roundg (gk - 1)
   case measure => have hi := HI.out; omega
   case rel =>
    have hi := HI.out
    exact ⟨j + 1, Lib.hid (by omega), by go_num, hst.pick [1] (by decide)⟩
  ·clear hi HI
   go_wp2_with (first | (go_at_call 119; (try clear hnew); refine (HC.out _ (hst.old (by decide) hx)).mono ?_; rintro e Wc ⟨O, oc, rfl, hnew⟩; replace hst := hst.trans hnew; simp only [List.cons_append, List.nil_append] at hst) | (go_at_call 120; (try clear hnew); refine (HO.out _ _ _ _ _ hst).mono ?_; rintro e Ws ⟨rfl, ds, hp, hs, hst'⟩; clear hst; have hst := hst'; clear hst'))
   go_ret2
   obtain ⟨h1, h2⟩ := HS.out ds hp hs
   exact ⟨ds.map kdN, O, oc, rfl, h1, h2, hst.pick [0] (by decide)⟩
end Go.Proofs.YtaebeemnipafbaaGreatDoor

set_option maxRecDepth 20000
set_option linter.unusedSimpArgs false
set_option linter.unusedVariables false
namespace Go.Proofs.YtaebeemnipafbaaGreatDoor
open Go.RowKit
open Go.Maps (Keyed)
def sV (l : List UInt8) : Value := .string (bsOf l)
def lsV (x : NoteN × Nat × Dig) : Value := .agg (lsArr x.1.name x.1.key x.1.turn (x.2.1 : Int) x.2.2)
theorem sV_inj (x y : List UInt8) (h : sV x = sV y) : x = y := by
 simp only [sV, Value.string.injEq] at h
 exact bsOf_inj h
theorem keyed_str : Keyed Tryz.prog 9 := Go.Maps.string_keyed Tryz.underlying9
theorem sV_ok {l : List UInt8} (h : isNm l = true) : KeyOk Tryz.prog 9 sV l := ⟨_, Go.WideMaps.keyOf_string_mk Tryz.underlying9 (by rw [bsOf_size]; have := isNm_len h; simp only [maxLen]; omega)⟩
theorem el_string : ElemIs Tryz.prog 9 (.string (bsOf [])) 1 16 := by unfold ElemIs; kernel_rfl
structure LgP where
 (g m c lc Mn Ma : Nat)
 (A O : Option Addr)
 nm : List (List UInt8 × (NoteN × Nat × Dig))
 am : List (Nat × List UInt8)
def lgL (p : LgP) (key : List UInt8) (ns : List NoteN) : List Res :=
 [.blk p.g 80 (lgArr p.A p.m p.c p.O ns.length p.lc p.Mn p.Ma), .row p.A p.m p.c 5 1 (bytesL key), .row p.O ns.length p.lc 32 32 (digsL (lvN ns)), .obj p.Mn (mpO sV lsV p.nm), .obj p.Ma (mpO kInt sV p.am)]
theorem MapsOf.ksO {ns : List NoteN} {nm : List (List UInt8 × (NoteN × Nat × Dig))} {am : List (Nat × List UInt8)} (h : MapsOf ns nm am) : ∀ p ∈ nm, KeyOk Tryz.prog 9 sV p.1 := fun p hp => sV_ok (h.ks p hp)
theorem MapsOf.ksOA {ns : List NoteN} {nm : List (List UInt8 × (NoteN × Nat × Dig))} {am : List (Nat × List UInt8)} (h : MapsOf ns nm am) : ∀ p ∈ am, KeyOk Tryz.prog 3 kInt p.1 := fun p hp => kInt_ok (by have := (h.ksA p hp).1; omega)
section
variable {ops : Array Oper} {rest : List Oper} {o : Oper} {a : Act} {W : World} {Q : Exit → Act → World → Prop} {d : Option Tmp}
theorem L_buildLg (hd : o.dst = d) (hw : Region.wanted o (yielded ops a.tmps) = true) {x y z : Operand} (ho : o.op = .build 80 #[(0, x), (2, y), (3, z)]) {A : Option Addr} {m c u v : Nat} (hx : a.eval x = .slice A m c) (hy : a.eval y = .map (some u)) (hz : a.eval z = .map (some v))
  (h : wpList Tryz.prog ops Q rest (a.put d (.agg (lgArr A m c none 0 0 u v))) W) : wpList Tryz.prog ops Q (o :: rest) a W :=
 L_buildT hd hw ho Tryz.underlying80 el_log_Log [(0, 1), (1, 1), (2, 1), (3, 1)] (by kernel_rfl) (ps := [(0, .slice A m c), (2, .map (some u)), (3, .map (some v))]) (by simp [hx, hy, hz]) (qs := [(0, [.slice A m c]), (2, [.map (some u)]), (3, [.map (some v)])])
  ⟨rfl, rfl, by simp, rfl, rfl, by simp, rfl, rfl, by simp, trivial⟩ rfl h
end
theorem lgArr_all (A : Option Addr) (m c : Nat) (B : Option Addr) (p q x y : Nat) : (lgArr A m c B p q x y).all (·.oneCell') = true := by simp [lgArr, Value.oneCell']
set_option maxHeartbeats 1000000 in
theorem lnew_any (key : List UInt8) (K : Option Addr) (m c : Nat) (w : World) (hk : SlR w K m c 1 (bytesL key)) (hm : m ≤ 140737488355000) :
  Calls Tryz.prog 8 #[.slice K m c] w fun e w' => ∃ p : LgP, e = .returned (.pointer (some ⟨p.g, 0, none⟩)) ∧ p.m = m ∧ MapsOf [] p.nm p.am ∧ St w w' (lgL p key []) := by
 have hst := St.refl w
 have HC := Lib.hid (fun (w' : World) (h : SlR w' K m c 1 (bytesL key)) => cloneB_any key K m c w' h (by omega))
 go_enter Tryz.func8, Tryz.ntmps8
 go_upto_region 1 with (go_big_may; fail)
 go_wp2_with (first | (go_at_call 30; (try clear hnew); refine (HC.out _ (hst.old (by decide) hk)).mono ?_; rintro e Wc ⟨O, oc, rfl, hnew⟩; replace hst := hst.trans hnew; simp only [List.cons_append, List.nil_append] at hst) | (refine L_makeMap sV lsV (d := some 5) rfl rfl rfl ?_; (try clear hnew); intro Mn W5 hnew; replace hst := hst.trans hnew; simp only [List.cons_append, List.nil_append] at hst) | (refine L_makeMap kInt sV (d := some 6) rfl rfl rfl ?_; (try clear hnew); intro Ma W6 hnew; replace hst := hst.trans hnew; simp only [List.cons_append, List.nil_append] at hst) | (refine L_buildLg (d := some 7) rfl rfl rfl (ev_tmp rfl) (ev_tmp rfl) (ev_tmp rfl) ?_) | (refine L_boxA (d := some 8) rfl rfl rfl (ev_tmp rfl) ?_; (try clear hnew); intro g8 W8 hnew; replace hst := hst.trans hnew; simp only [List.cons_append, List.nil_append] at hst))
 go_ret
 exact ⟨⟨g8, m, oc, 0, Mn, Ma, O, none, [], []⟩, rfl, rfl, MapsOf.nil, (hst.nilRow 32 32).pick [1, 4, 0, 3, 2] (by decide)⟩
end Go.Proofs.YtaebeemnipafbaaGreatDoor

set_option maxRecDepth 20000
set_option linter.unusedSimpArgs false
set_option linter.unusedVariables false
namespace Go.Proofs.YtaebeemnipafbaaGreatDoor
open Go.RowKit
attribute [local simp] prArr_size
theorem lgArr_fit (A : Option Addr) (m c : Nat) (B : Option Addr) (p q x y : Nat) : (lgArr A m c B p q x y).size = 4 := rfl
def AddEnd (key : List UInt8) (ns : List NoteN) (s : List UInt8) (k : Dig) (p : LgP) (w0 : World) (L : List Res) (e : Ending) (w' : World) : Prop :=
 (addE ns s = 0 ∧ e = .returned (.tuple #[.int .i64 (ns.length : Int), .nilIface]) ∧ ∃ p' : LgP, p'.g = p.g ∧ p'.m = p.m ∧ MapsOf (ns ++ [newN ns s k]) p'.nm p'.am ∧ St w0 w' (lgL p' key (ns ++ [newN ns s k]) ++ L)) ∨
 (addE ns s ≠ 0 ∧ e = .returned (.tuple #[.int .i64 0, errV (addE ns s)]) ∧ St w0 w' (lgL p key ns ++ L))
set_option maxHeartbeats 2000000 in
set_option maxRecDepth 100000 in
theorem add_unnamed (key : List UInt8) (ns : List NoteN) (s : List UInt8) (k : Dig) (p : LgP) (w0 w : World) (L : List Res) (hst : St w0 w (lgL p key ns ++ L)) (hs : isNm s = false) :
  Calls Tryz.prog 10 #[.pointer (some ⟨p.g, 0, none⟩), .string (bsOf s), k.v] w (AddEnd key ns s k p w0 L) := by
 have HN := Lib.hid (fun w => by have := named_any s w; rw [hs] at this; exact this)
 have HE := Lib.hid (show addE ns s = 1 by unfold addE; rw [hs]; rfl)
 generalize hres : lgL p key ns ++ L = R at *
 have HR := Lib.hid hres
 clear hs hres
 go_enter Tryz.func10, Tryz.ntmps10
 go_upto_region 1 with (go_big_may; (refine L_boxA (d := some 5) rfl rfl rfl (ev_tmp rfl) ?_; (try clear hnew); intro g5 W5 hnew; replace hst := hst.trans hnew; simp only [List.cons_append, List.nil_append] at hst))
 go_upto_region 2 with (go_big_may; (go_at_call 34; (try clear hnew); refine (HN.out _).mono ?_; rintro e Wk1 ⟨rfl, hnew⟩; replace hst := hst.keep hnew))
 go_wp2_with (fail)
 go_ret2
 refine .inr ⟨by rw [HE.out]; decide, by rw [HE.out]; rfl, ?_⟩
 rw [HR.out]
 exact hst.tail
set_option maxHeartbeats 4000000 in
set_option maxRecDepth 100000 in
theorem add_full1 (key : List UInt8) (ns : List NoteN) (s : List UInt8) (k : Dig) (p : LgP) (w0 w : World) (L : List Res) (hst : St w0 w (lgL p key ns ++ L)) (hm : MapsOf ns p.nm p.am) (hs : isNm s = true) (hf : 256 ≤ ns.length) :
  Calls Tryz.prog 10 #[.pointer (some ⟨p.g, 0, none⟩), .string (bsOf s), k.v] w (AddEnd key ns s k p w0 L) := by
 have HN := Lib.hid (fun w => by have := named_any s w; rw [hs] at this; exact this)
 have HE := Lib.hid (show addE ns s = 4 by unfold addE; rw [if_pos hs, if_pos (.inl hf)])
 have HO := Lib.hid hm.ksO
 have HD := Lib.hid hm.nd
 have HS := Lib.hid (sV_ok hs)
 have hf2 : (256 : Int) ≤ (ns.length : Int) := by omega
 simp only [lgL, List.cons_append, List.nil_append] at hst
 obtain ⟨g, m, c, lc, Mn, Ma, A, O, nm, am⟩ := p
 simp only at *
 cases hr : lookA s nm with
 | none =>
  have HL := Lib.hid hr
  clear hs hf hm hr
  go_enter Tryz.func10, Tryz.ntmps10
  go_upto_region 1 with (go_big_may; (refine L_boxA (d := some 5) rfl rfl rfl (ev_tmp rfl) ?_; (try clear hnew); intro g5 W5 hnew; replace hst := hst.trans hnew; simp only [List.cons_append, List.nil_append] at hst))
  go_upto_region 3 with (go_big_may; (go_at_call 34; (try clear hnew); refine (HN.out _).mono ?_; rintro e Wk2 ⟨rfl, hnew⟩; replace hst := hst.keep hnew))
  go_upto_region 4 with (go_big_may; first | (refine L_look2n (fk := sV) (fv := lsV) (y := s) (l := nm) (d := some 26) rfl rfl rfl keyed_str Tryz.underlying77 el_log_last (ev_tmp rfl) (ev_tmp rfl) sV_inj HO.out HD.out HS.out (hst.obj 4 rfl) HL.out ?_) | (refine L_load1 (d := some 24) rfl rfl rfl (by rfl) Tryz.underlying77 rfl (by (exact cell_of (hst.get 1 rfl) lgArr_2)) ?_) | (refine L_allocA (d := some 8) rfl rfl rfl el_log_last ?_; (try clear hnew); intro g8 W8 hnew; replace hst := hst.trans hnew; simp only [List.cons_append, List.nil_append] at hst) | (refine wpl_at (.store 85 (.tmp 8) (.tmp 27)) rfl ?_; (refine L_storeA rfl rfl hst rfl (by rfl) (ev_tmp rfl) (by (exact lsArr_all _ _ _ _ _)) el_log_last (by (rfl)) 0 rfl (by (rfl)) ?_; clear hst; intro WS10 hst; simp only [List.set_cons_zero, List.set_cons_succ] at hst)))
  go_upto_region 5 with (first | (with_reducible refine L_pass (t := 36) rfl (by kernel_rfl) ?_) | (with_reducible refine L_pass (t := 37) rfl (by kernel_rfl) ?_) | (with_reducible refine L_pass (t := 38) rfl (by kernel_rfl) ?_) | (with_reducible refine L_pass (t := 39) rfl (by kernel_rfl) ?_) | (with_reducible refine L_pass (t := 40) rfl (by kernel_rfl) ?_) | (with_reducible refine L_pass (t := 41) rfl (by kernel_rfl) ?_) | (with_reducible refine L_pass (t := 42) rfl (by kernel_rfl) ?_) | (with_reducible refine L_pass (t := 43) rfl (by kernel_rfl) ?_) | (with_reducible refine L_pass (t := 44) rfl (by kernel_rfl) ?_) | (with_reducible refine L_pass (t := 45) rfl (by kernel_rfl) ?_) | (go_big_may; (refine L_load1 (d := some 32) rfl rfl rfl (by rfl) Tryz.underlying44 rfl (by (exact cell_of (hst.get 2 rfl) lgArr_1)) ?_)))
  go_wp2_with (fail)
  go_ret2
  refine .inr ⟨by rw [HE.out]; decide, by rw [HE.out]; rfl, ?_⟩
  simp only [lgL, List.cons_append, List.nil_append]
  exact hst.tail.tail
 | some x =>
  have HL := Lib.hid hr
  obtain ⟨⟨a1, a2, a3⟩, a4, a5⟩ := x
  clear hs hf hm hr
  go_enter Tryz.func10, Tryz.ntmps10
  go_upto_region 1 with (go_big_may; (refine L_boxA (d := some 5) rfl rfl rfl (ev_tmp rfl) ?_; (try clear hnew); intro g5 W5 hnew; replace hst := hst.trans hnew; simp only [List.cons_append, List.nil_append] at hst))
  go_upto_region 3 with (go_big_may; (go_at_call 34; (try clear hnew); refine (HN.out _).mono ?_; rintro e Wk3 ⟨rfl, hnew⟩; replace hst := hst.keep hnew))
  go_upto_region 4 with (go_big_may; first | (refine L_look2s (fk := sV) (fv := lsV) (y := s) (l := nm) (d := some 26) rfl rfl rfl keyed_str Tryz.underlying77 el_log_last (ev_tmp rfl) (ev_tmp rfl) sV_inj HO.out HD.out HS.out (hst.obj 4 rfl) HL.out ?_) | (refine L_load1 (d := some 24) rfl rfl rfl (by rfl) Tryz.underlying77 rfl (by (exact cell_of (hst.get 1 rfl) lgArr_2)) ?_) | (refine L_allocA (d := some 8) rfl rfl rfl el_log_last ?_; (try clear hnew); intro g8 W8 hnew; replace hst := hst.trans hnew; simp only [List.cons_append, List.nil_append] at hst) | (refine wpl_at (.store 85 (.tmp 8) (.tmp 27)) rfl ?_; (refine L_storeA rfl rfl hst rfl (by rfl) (ev_tmp rfl) (by (exact lsArr_all _ _ _ _ _)) el_log_last (by (exact lsArr_size _ _ _ _ _)) 0 rfl (by (rfl)) ?_; clear hst; intro WS10 hst; simp only [List.set_cons_zero, List.set_cons_succ] at hst)))
  go_upto_region 5 with (first | (with_reducible refine L_pass (t := 36) rfl (by kernel_rfl) ?_) | (with_reducible refine L_pass (t := 37) rfl (by kernel_rfl) ?_) | (with_reducible refine L_pass (t := 38) rfl (by kernel_rfl) ?_) | (with_reducible refine L_pass (t := 39) rfl (by kernel_rfl) ?_) | (with_reducible refine L_pass (t := 40) rfl (by kernel_rfl) ?_) | (with_reducible refine L_pass (t := 41) rfl (by kernel_rfl) ?_) | (with_reducible refine L_pass (t := 42) rfl (by kernel_rfl) ?_) | (with_reducible refine L_pass (t := 43) rfl (by kernel_rfl) ?_) | (with_reducible refine L_pass (t := 44) rfl (by kernel_rfl) ?_) | (with_reducible refine L_pass (t := 45) rfl (by kernel_rfl) ?_) | (go_big_may; (refine L_load1 (d := some 32) rfl rfl rfl (by rfl) Tryz.underlying44 rfl (by (exact cell_of (hst.get 2 rfl) lgArr_1)) ?_)))
  go_wp2_with (fail)
  go_ret2
  refine .inr ⟨by rw [HE.out]; decide, by rw [HE.out]; rfl, ?_⟩
  simp only [lgL, List.cons_append, List.nil_append]
  exact hst.tail.tail
end Go.Proofs.YtaebeemnipafbaaGreatDoor

set_option linter.unusedSimpArgs false
set_option linter.unusedVariables false
namespace Go.Proofs.YtaebeemnipafbaaGreatDoor
open Go.RowKit
set_option maxHeartbeats 4000000 in
set_option maxRecDepth 100000 in
theorem add_full2 (key : List UInt8) (ns : List NoteN) (s : List UInt8) (k : Dig) (p : LgP) (w0 w : World) (L : List Res) (hst : St w0 w (lgL p key ns ++ L)) (hm : MapsOf ns p.nm p.am) (hs : isNm s = true) (hf : ¬ 256 ≤ ns.length) (hn : lastI ns s = none) (hc : 64 ≤ namesC ns) :
  Calls Tryz.prog 10 #[.pointer (some ⟨p.g, 0, none⟩), .string (bsOf s), k.v] w (AddEnd key ns s k p w0 L) := by
 have HN := Lib.hid (fun w => by have := named_any s w; rw [hs] at this; exact this)
 have HE := Lib.hid (show addE ns s = 4 by unfold addE; rw [if_pos hs, if_pos (.inr ⟨hn, hc⟩)])
 have HO := Lib.hid hm.ksO
 have HD := Lib.hid hm.nd
 have HS := Lib.hid (sV_ok hs)
 have hf2 : ¬ (256 : Int) ≤ (ns.length : Int) := by omega
 have hr : lookA s p.nm = none := by rw [hm.look, atName, hn]; rfl
 have hcc : (64 : Int) ≤ (p.nm.length : Int) := by rw [hm.len]; omega
 simp only [lgL, List.cons_append, List.nil_append] at hst
 obtain ⟨g, m, c, lc, Mn, Ma, A, O, nm, am⟩ := p
 simp only at *
 have HL := Lib.hid hr
 clear hs hf hm hr hn hc
 go_enter Tryz.func10, Tryz.ntmps10
 go_upto_region 1 with (go_big_may; (refine L_boxA (d := some 5) rfl rfl rfl (ev_tmp rfl) ?_; (try clear hnew); intro g5 W5 hnew; replace hst := hst.trans hnew; simp only [List.cons_append, List.nil_append] at hst))
 go_upto_region 3 with (go_big_may; (go_at_call 34; (try clear hnew); refine (HN.out _).mono ?_; rintro e Wk1 ⟨rfl, hnew⟩; replace hst := hst.keep hnew))
 go_upto_region 4 with (go_big_may; first | (refine L_look2n (fk := sV) (fv := lsV) (y := s) (l := nm) (d := some 26) rfl rfl rfl keyed_str Tryz.underlying77 el_log_last (ev_tmp rfl) (ev_tmp rfl) sV_inj HO.out HD.out HS.out (hst.obj 4 rfl) HL.out ?_) | (refine L_load1 (d := some 24) rfl rfl rfl (by rfl) Tryz.underlying77 rfl (by (exact cell_of (hst.get 1 rfl) lgArr_2)) ?_) | (refine L_allocA (d := some 8) rfl rfl rfl el_log_last ?_; (try clear hnew); intro g8 W8 hnew; replace hst := hst.trans hnew; simp only [List.cons_append, List.nil_append] at hst) | (refine wpl_at (.store 85 (.tmp 8) (.tmp 27)) rfl ?_; (refine L_storeA rfl rfl hst rfl (by rfl) (ev_tmp rfl) (by (exact lsArr_all _ _ _ _ _)) el_log_last (by (rfl)) 0 rfl (by (rfl)) ?_; clear hst; intro WS10 hst; simp only [List.set_cons_zero, List.set_cons_succ] at hst)))
 go_upto_region 5 with (go_big_may; first | (refine L_lenM (fk := sV) (fv := lsV) (l := nm) (d := some 43) rfl rfl rfl Tryz.underlying77 (ev_tmp rfl) (hst.obj 5 rfl) ?_) | (refine L_load1 (d := some 32) rfl rfl rfl (by rfl) Tryz.underlying44 rfl (by (exact cell_of (hst.get 2 rfl) lgArr_1)) ?_) | (refine L_load1 (d := some 42) rfl rfl rfl (by rfl) Tryz.underlying77 rfl (by (exact cell_of (hst.get 2 rfl) lgArr_2)) ?_))
 go_wp2_with (fail)
 go_ret2
 refine .inr ⟨by rw [HE.out]; decide, by rw [HE.out]; rfl, ?_⟩
 simp only [lgL, List.cons_append, List.nil_append]
 exact hst.tail.tail
set_option maxHeartbeats 8000000 in
set_option maxRecDepth 100000 in
theorem add_twice (key : List UInt8) (ns : List NoteN) (s : List UInt8) (k : Dig) (p : LgP) (w0 w : World) (L : List Res) (hT : Tb w0) (hst : St w0 w (lgL p key ns ++ L)) (hm : MapsOf ns p.nm p.am) (hs : isNm s = true) (hf : ¬ 256 ≤ ns.length) (hc : ¬ (lastI ns s = none ∧ 64 ≤ namesC ns)) (ht : takenN ns s = true) :
  Calls Tryz.prog 10 #[.pointer (some ⟨p.g, 0, none⟩), .string (bsOf s), k.v] w (AddEnd key ns s k p w0 L) := by
 have HT := Lib.hid hT
 have HN := Lib.hid (fun w => by have := named_any s w; rw [hs] at this; exact this)
 have HE := Lib.hid (show addE ns s = 7 by unfold addE; rw [if_pos hs, if_neg (not_or.2 ⟨hf, hc⟩), if_pos ht])
 have HI := Lib.hid (fun (w' : World) (h : Tb w') => index_any s w' h (by have := isNm_len hs; omega))
 have HO := Lib.hid hm.ksO
 have HD := Lib.hid hm.nd
 have HOA := Lib.hid hm.ksOA
 have HDA := Lib.hid hm.ndA
 have HS := Lib.hid (sV_ok hs)
 have HSA := Lib.hid (kInt_ok (n := idxN s) (by have := idxN_lt s; omega))
 obtain ⟨t, ht1, ht2⟩ := (hm.taken s).1 ht
 have HL2 := Lib.hid ht1
 have HNE := Lib.hid (show (!decide (t = s)) = true by rw [decide_eq_false ht2]; rfl)
 have hf2 : ¬ (256 : Int) ≤ (ns.length : Int) := by omega
 have hlen := hm.len
 have hlk := hm.look s
 simp only [lgL, List.cons_append, List.nil_append] at hst
 obtain ⟨g, m, c, lc, Mn, Ma, A, O, nm, am⟩ := p
 simp only at *
 generalize idxN s = ix at *
 cases hr : lookA s nm with
 | none =>
  have hcc : ¬ (64 : Int) ≤ (nm.length : Int) := by
   have h1 : lastI ns s = none := by
    have h2 := atName_isSome ns s
    rw [← hlk, hr] at h2
    cases h3 : lastI ns s with
    | none => rfl
    | some j => rw [h3] at h2; cases h2
   have h4 : ¬ 64 ≤ namesC ns := fun h => hc ⟨h1, h⟩
   rw [hlen]
   omega
  have HL := Lib.hid hr
  clear hT hs hf hm hr hc ht ht1 ht2 hlk hlen
  go_enter Tryz.func10, Tryz.ntmps10
  go_upto_region 1 with (go_big_may; (refine L_boxA (d := some 5) rfl rfl rfl (ev_tmp rfl) ?_; (try clear hnew); intro g5 W5 hnew; replace hst := hst.trans hnew; simp only [List.cons_append, List.nil_append] at hst))
  go_upto_region 3 with (go_big_may; (go_at_call 34; (try clear hnew); refine (HN.out _).mono ?_; rintro e Wk2 ⟨rfl, hnew⟩; replace hst := hst.keep hnew))
  go_upto_region 4 with (go_big_may; first | (refine L_look2n (fk := sV) (fv := lsV) (y := s) (l := nm) (d := some 26) rfl rfl rfl keyed_str Tryz.underlying77 el_log_last (ev_tmp rfl) (ev_tmp rfl) sV_inj HO.out HD.out HS.out (hst.obj 4 rfl) HL.out ?_) | (refine L_load1 (d := some 24) rfl rfl rfl (by rfl) Tryz.underlying77 rfl (by (exact cell_of (hst.get 1 rfl) lgArr_2)) ?_) | (refine L_allocA (d := some 8) rfl rfl rfl el_log_last ?_; (try clear hnew); intro g8 W8 hnew; replace hst := hst.trans hnew; simp only [List.cons_append, List.nil_append] at hst) | (refine wpl_at (.store 85 (.tmp 8) (.tmp 27)) rfl ?_; (refine L_storeA rfl rfl hst rfl (by rfl) (ev_tmp rfl) (by (exact lsArr_all _ _ _ _ _)) el_log_last (by (rfl)) 0 rfl (by (rfl)) ?_; clear hst; intro WS10 hst; simp only [List.set_cons_zero, List.set_cons_succ] at hst)))
  go_upto_region 6 with (go_big_may; first | (refine L_lenM (fk := sV) (fv := lsV) (l := nm) (d := some 43) rfl rfl rfl Tryz.underlying77 (ev_tmp rfl) (hst.obj 5 rfl) ?_) | (refine L_load1 (d := some 32) rfl rfl rfl (by rfl) Tryz.underlying44 rfl (by (exact cell_of (hst.get 2 rfl) lgArr_1)) ?_) | (refine L_load1 (d := some 42) rfl rfl rfl (by rfl) Tryz.underlying77 rfl (by (exact cell_of (hst.get 2 rfl) lgArr_2)) ?_))
  go_upto_region 7 with (go_big_may; (go_at_call 35; (try clear hnew); refine (HI.out _ (HT.out.of hst)).mono ?_; rintro e Wk3 ⟨rfl, hnew⟩; replace hst := hst.keep hnew))
  go_upto_region 8 with (go_big_may; first | (refine L_look2s (fk := kInt) (fv := sV) (y := ix) (l := am) (d := some 56) rfl rfl rfl keyed_int Tryz.underlying78 el_string (ev_tmp rfl) (ev_tmp rfl) kInt_inj HOA.out HDA.out HSA.out (hst.obj 6 rfl) HL2.out ?_) | (refine L_load1 (d := some 54) rfl rfl rfl (by rfl) Tryz.underlying78 rfl (by (exact cell_of (hst.get 2 rfl) lgArr_3)) ?_))
  go_upto_region 9 with (go_big_may; (refine L_neStr (d := some 63) rfl rfl rfl eqG_str Tryz.underlying9 (ev_tmp rfl) (ev_tmp rfl) ?_; (try rw [HNE.out])))
  go_wp2_with (fail)
  go_ret2
  refine .inr ⟨by rw [HE.out]; decide, by rw [HE.out]; rfl, ?_⟩
  simp only [lgL, List.cons_append, List.nil_append]
  exact hst.tail.tail
 | some x =>
  have HL := Lib.hid hr
  obtain ⟨⟨a1, a2, a3⟩, a4, a5⟩ := x
  clear hT hs hf hm hr hc ht ht1 ht2 hlk hlen
  go_enter Tryz.func10, Tryz.ntmps10
  go_upto_region 1 with (go_big_may; (refine L_boxA (d := some 5) rfl rfl rfl (ev_tmp rfl) ?_; (try clear hnew); intro g5 W5 hnew; replace hst := hst.trans hnew; simp only [List.cons_append, List.nil_append] at hst))
  go_upto_region 3 with (go_big_may; (go_at_call 34; (try clear hnew); refine (HN.out _).mono ?_; rintro e Wk4 ⟨rfl, hnew⟩; replace hst := hst.keep hnew))
  go_upto_region 4 with (go_big_may; first | (refine L_look2s (fk := sV) (fv := lsV) (y := s) (l := nm) (d := some 26) rfl rfl rfl keyed_str Tryz.underlying77 el_log_last (ev_tmp rfl) (ev_tmp rfl) sV_inj HO.out HD.out HS.out (hst.obj 4 rfl) HL.out ?_) | (refine L_load1 (d := some 24) rfl rfl rfl (by rfl) Tryz.underlying77 rfl (by (exact cell_of (hst.get 1 rfl) lgArr_2)) ?_) | (refine L_allocA (d := some 8) rfl rfl rfl el_log_last ?_; (try clear hnew); intro g8 W8 hnew; replace hst := hst.trans hnew; simp only [List.cons_append, List.nil_append] at hst) | (refine wpl_at (.store 85 (.tmp 8) (.tmp 27)) rfl ?_; (refine L_storeA rfl rfl hst rfl (by rfl) (ev_tmp rfl) (by (exact lsArr_all _ _ _ _ _)) el_log_last (by (exact lsArr_size _ _ _ _ _)) 0 rfl (by (rfl)) ?_; clear hst; intro WS10 hst; simp only [List.set_cons_zero, List.set_cons_succ] at hst)))
  go_upto_region 6 with (first | (with_reducible refine L_pass (t := 39) rfl (by kernel_rfl) ?_) | (with_reducible refine L_pass (t := 40) rfl (by kernel_rfl) ?_) | (with_reducible refine L_pass (t := 41) rfl (by kernel_rfl) ?_) | (with_reducible refine L_pass (t := 42) rfl (by kernel_rfl) ?_) | (with_reducible refine L_pass (t := 43) rfl (by kernel_rfl) ?_) | (with_reducible refine L_pass (t := 44) rfl (by kernel_rfl) ?_) | (go_big_may; (refine L_load1 (d := some 32) rfl rfl rfl (by rfl) Tryz.underlying44 rfl (by (exact cell_of (hst.get 2 rfl) lgArr_1)) ?_)))
  go_upto_region 7 with (go_big_may; (go_at_call 35; (try clear hnew); refine (HI.out _ (HT.out.of hst)).mono ?_; rintro e Wk5 ⟨rfl, hnew⟩; replace hst := hst.keep hnew))
  go_upto_region 8 with (go_big_may; first | (refine L_look2s (fk := kInt) (fv := sV) (y := ix) (l := am) (d := some 56) rfl rfl rfl keyed_int Tryz.underlying78 el_string (ev_tmp rfl) (ev_tmp rfl) kInt_inj HOA.out HDA.out HSA.out (hst.obj 6 rfl) HL2.out ?_) | (refine L_load1 (d := some 54) rfl rfl rfl (by rfl) Tryz.underlying78 rfl (by (exact cell_of (hst.get 2 rfl) lgArr_3)) ?_))
  go_upto_region 9 with (go_big_may; (refine L_neStr (d := some 63) rfl rfl rfl eqG_str Tryz.underlying9 (ev_tmp rfl) (ev_tmp rfl) ?_; (try rw [HNE.out])))
  go_wp2_with (fail)
  go_ret2
  refine .inr ⟨by rw [HE.out]; decide, by rw [HE.out]; rfl, ?_⟩
  simp only [lgL, List.cons_append, List.nil_append]
  exact hst.tail.tail
end Go.Proofs.YtaebeemnipafbaaGreatDoor

set_option maxRecDepth 20000
set_option linter.unusedSimpArgs false
set_option linter.unusedVariables false
namespace Go.Proofs.YtaebeemnipafbaaGreatDoor
open Go.RowKit
theorem lvN_snoc (ns : List NoteN) (n : NoteN) : digsL (lvN ns) ++ (ntLeaf n).arr.toList = digsL (lvN (ns ++ [n])) := by simp [lvN, digsL, Dig.toList]
theorem snoc_len (ns : List NoteN) (n : NoteN) : ((ns ++ [n]).length) = ns.length + 1 := by simp
set_option maxHeartbeats 16000000 in
set_option maxRecDepth 100000 in
theorem add_ok_nn (key : List UInt8) (ns : List NoteN) (s : List UInt8) (k : Dig) (p : LgP) (w0 w : World) (L : List Res) (hT : Tb w0) (hst : St w0 w (lgL p key ns ++ L)) (hm : MapsOf ns p.nm p.am) (hl : Logged ns) (he : addE ns s = 0) (hx : atName ns s = none) (hi : lookA (idxN s) p.am = none) :
  Calls Tryz.prog 10 #[.pointer (some ⟨p.g, 0, none⟩), .string (bsOf s), k.v] w (AddEnd key ns s k p w0 L) := by
 have HT := Lib.hid hT
 obtain ⟨hs, hlen, hnc, hid⟩ := addE_zero he
 have HN := Lib.hid (fun w => by have := named_any s w; rw [hs] at this; exact this)
 have HE := Lib.hid he
 have HI := Lib.hid (fun (w' : World) (h : Tb w') => index_any s w' h (by have := isNm_len hs; omega))
 have HO := Lib.hid hm.ksO
 have HD := Lib.hid hm.nd
 have HOA := Lib.hid hm.ksOA
 have HDA := Lib.hid hm.ndA
 have HS := Lib.hid (sV_ok hs)
 have HSA := Lib.hid (kInt_ok (n := idxN s) (by have := idxN_lt s; omega))
 have hf2 : ¬ (256 : Int) ≤ (ns.length : Int) := by omega
 have HM := Lib.hid (hm.add he k)
 have htl := hl.turn_le s
 have HLF := Lib.hid (fun (w' : World) (h : Tb w') => leafOf_any (newN ns s k) w' h (hl.new_ok hs k))
 have HLV := Lib.hid (lvN_snoc ns (newN ns s k))
 have hx1 : lastI ns s = none := by
  have h2 := atName_isSome ns s
  rw [hx] at h2
  cases h3 : lastI ns s with
  | none => rfl
  | some j => rw [h3] at h2; cases h2
 have htu : turnN ns s = 0 := by unfold turnN lastN?; rw [hx1]; rfl
 have HL := Lib.hid (show lookA s p.nm = none by rw [hm.look]; exact hx)
 have hcc : ¬ (64 : Int) ≤ (p.nm.length : Int) := by have := hnc hx1; rw [hm.len]; omega
 have HL2 := Lib.hid hi
 have HEQ := Lib.hid (show (!decide (s = s)) = false by simp)
 simp only [lgL, List.cons_append, List.nil_append] at hst
 obtain ⟨g, m, c, lc, Mn, Ma, A, O, nm, am⟩ := p
 simp only at *
 obtain ⟨n', hn'⟩ : ∃ n', n' = newN ns s k := ⟨_, rfl⟩
 obtain ⟨df, hdf⟩ : ∃ df, df = ntLeaf (newN ns s k) := ⟨_, rfl⟩
 have HDF := Lib.hid hdf
 have HNN := Lib.hid hn'
 rw [← hn'] at HM hdf HLF HLV
 rw [← hdf] at HLF HLV HM
 have hn2 : (n'.name = s ∧ n'.key = k ∧ n'.turn = turnN ns s) := by rw [hn']; exact ⟨rfl, rfl, rfl⟩
 obtain ⟨q1, q2, q3⟩ := hn2
 rw [q1, q2, q3] at HLF
 obtain ⟨tt, htt⟩ : ∃ tt, tt = turnN ns s := ⟨_, rfl⟩
 rw [← htt] at HLF htl htu q3
 have hn3 : n' = ⟨s, k, tt⟩ := NoteN.ext' q1 q2 q3
 generalize idxN s = ix at *
 subst htu
 have hl256 : ns.length ≤ 256 := by omega
 clear hT hs hm hl he hx hi htl hdf hn' hid hnc hlen q1 q2 q3 hx1 htt
 subst hn3
 go_enter Tryz.func10, Tryz.ntmps10
 go_upto_region 1 with (go_big_may; (refine L_boxA (d := some 5) rfl rfl rfl (ev_tmp rfl) ?_; (try clear hnew); intro g5 W5 hnew; replace hst := hst.trans hnew; simp only [List.cons_append, List.nil_append] at hst))
 go_upto_region 3 with (go_big_may; (go_at_call 34; (try clear hnew); refine (HN.out _).mono ?_; rintro e Wk1 ⟨rfl, hnew⟩; replace hst := hst.keep hnew))
 go_upto_region 4 with (go_big_may; first | (refine L_look2n (fk := sV) (fv := lsV) (y := s) (l := nm) (d := some 26) rfl rfl rfl keyed_str Tryz.underlying77 el_log_last (ev_tmp rfl) (ev_tmp rfl) sV_inj HO.out HD.out HS.out (hst.obj 4 rfl) HL.out ?_) | (refine L_load1 (d := some 24) rfl rfl rfl (by rfl) Tryz.underlying77 rfl (by (exact cell_of (hst.get 1 rfl) lgArr_2)) ?_) | (refine L_allocA (d := some 8) rfl rfl rfl el_log_last ?_; (try clear hnew); intro g8 W8 hnew; replace hst := hst.trans hnew; simp only [List.cons_append, List.nil_append] at hst) | (refine wpl_at (.store 85 (.tmp 8) (.tmp 27)) rfl ?_; (refine L_storeA rfl rfl hst rfl (by rfl) (ev_tmp rfl) (by (exact lsArr_all _ _ _ _ _)) el_log_last (by (rfl)) 0 rfl (by (rfl)) ?_; clear hst; intro WS10 hst; simp only [List.set_cons_zero, List.set_cons_succ] at hst)))
 go_upto_region 6 with (go_big_may; first | (refine L_lenM (fk := sV) (fv := lsV) (l := nm) (d := some 43) rfl rfl rfl Tryz.underlying77 (ev_tmp rfl) (hst.obj 5 rfl) ?_) | (refine L_load1 (d := some 32) rfl rfl rfl (by rfl) Tryz.underlying44 rfl (by (exact cell_of (hst.get 2 rfl) lgArr_1)) ?_) | (refine L_load1 (d := some 42) rfl rfl rfl (by rfl) Tryz.underlying77 rfl (by (exact cell_of (hst.get 2 rfl) lgArr_2)) ?_))
 go_upto_region 7 with (go_big_may; (go_at_call 35; (try clear hnew); refine (HI.out _ (HT.out.of hst)).mono ?_; rintro e Wk2 ⟨rfl, hnew⟩; replace hst := hst.keep hnew))
 go_upto_region 8 with (go_big_may; first | (refine L_look2n (fk := kInt) (fv := sV) (y := ix) (l := am) (d := some 56) rfl rfl rfl keyed_int Tryz.underlying78 el_string (ev_tmp rfl) (ev_tmp rfl) kInt_inj HOA.out HDA.out HSA.out (hst.obj 6 rfl) HL2.out ?_) | (refine L_load1 (d := some 54) rfl rfl rfl (by rfl) Tryz.underlying78 rfl (by (exact cell_of (hst.get 2 rfl) lgArr_3)) ?_))
 go_upto_region 10 with (first | (with_reducible refine L_pass (t := 61) rfl (by kernel_rfl) ?_) | (with_reducible refine L_pass (t := 62) rfl (by kernel_rfl) ?_) | (with_reducible refine L_pass (t := 63) rfl (by kernel_rfl) ?_))
 go_upto_region 11 with (go_big_may; first | (refine L_buildN (d := some 68) rfl rfl rfl (ev_tmp rfl) (ev_tmp rfl) ?_) | ((refine L_loadA (d := some 67) rfl rfl rfl (by rfl) Tryz.underlying32 rfl el_api_Digest (by (exact hst.get 1 rfl)) (by (exact Dig.size _)) ?_)) | (refine L_allocA (d := some 13) rfl rfl rfl el_api_Note ?_; (try clear hnew); intro g13 W13 hnew; replace hst := hst.trans hnew; simp only [List.cons_append, List.nil_append] at hst) | (refine wpl_at (.store 34 (.tmp 13) (.tmp 68)) rfl ?_; (refine L_storeA rfl rfl hst rfl (by rfl) (ev_tmp rfl) (by (exact ntArr_all _ _ _)) el_api_Note (by (exact ntArr_size _ _ _)) 0 rfl (by (rfl)) ?_; clear hst; intro WS4 hst; simp only [List.set_cons_zero, List.set_cons_succ] at hst)))
 go_upto_region 13 with (go_big_may; fail)
 go_upto_region 14 with (go_big_may; first | (go_at_call 36; (try clear hnew); refine (HLF.out _ (HT.out.of hst)).mono ?_; rintro e Wk3 ⟨rfl, hnew⟩; replace hst := hst.keep hnew) | ((refine L_loadA (d := some 76) rfl rfl rfl (by rfl) Tryz.underlying34 rfl el_api_Note (by (exact hst.get 0 rfl)) (by (exact ntArr_size _ _ _)) ?_)) | (refine L_allocA (d := some 14) rfl rfl rfl el_api_Digest ?_; (try clear hnew); intro g14 W14 hnew; replace hst := hst.trans hnew; simp only [List.cons_append, List.nil_append] at hst) | (refine wpl_at (.store 32 (.tmp 14) (.tmp 78)) rfl ?_; (refine L_storeA rfl rfl hst rfl (by rfl) (ev_tmp rfl) (by (exact Dig.one _)) el_api_Digest (by (exact Dig.size _)) 0 rfl (by (rfl)) ?_; clear hst; intro WS6 hst; simp only [List.set_cons_zero, List.set_cons_succ] at hst)))
 go_upto_region 16 with (go_big_may; fail)
 clear hnew
 refine wp_region_idx [(0, 0), (1, 0), (2, 0), (3, 0), (4, 0), (5, 0), (6, 0), (7, 0), (8, 0), (9, 0), (10, 0), (11, 2), (12, 2), (13, 1)] (by kernel_rfl) (by kernel_rfl) ?_
 replace hst := hst.drew
 refine idx_q rfl rfl ?_; go_wp2_with fail
 refine idx_q rfl rfl ?_; go_wp2_with fail
 refine idx_qf rfl rfl (by kernel_rfl) ?_; go_wp2_with fail
 refine idx_q rfl rfl ?_; go_wp2_with ((refine L_load1 (d := some 86) rfl rfl rfl (by rfl) Tryz.underlying77 rfl (by (exact cell_of (hst.get 4 rfl) lgArr_2)) ?_))
 refine idx_q rfl rfl ?_; go_wp2_with fail
 refine idx_q rfl rfl ?_; go_wp2_with (((refine L_loadA (d := some 88) rfl rfl rfl (by rfl) Tryz.underlying34 rfl el_api_Note (by (exact hst.get 1 rfl)) (by (exact ntArr_size _ _ _)) ?_)))
 refine idx_q rfl rfl ?_; go_wp2_with fail
 refine idx_q rfl rfl ?_; go_wp2_with fail
 refine idx_qf rfl rfl (by kernel_rfl) ?_; go_wp2_with fail
 refine idx_q rfl rfl ?_; go_wp2_with ((refine L_load1 (d := some 92) rfl rfl rfl (by rfl) Tryz.underlying44 rfl (by (exact cell_of (hst.get 4 rfl) lgArr_1)) ?_))
 refine idx_q rfl rfl ?_; go_wp2_with (fail)
 refine idx_g rfl ?_; go_wp2_with (((refine L_loadA (d := some 94) rfl rfl rfl (by rfl) Tryz.underlying32 rfl el_api_Digest (by (exact hst.get 0 rfl)) (by (exact Dig.size _)) ?_))); refine ⟨by (exact Below.refl _ _), ?_⟩
 refine idx_g rfl ?_; go_wp2_with ((refine L_buildL (d := some 95) rfl rfl rfl (ev_tmp rfl) (ev_tmp rfl) (ev_tmp rfl) ?_)); refine ⟨by (exact Below.refl _ _), ?_⟩
 refine idx_e rfl ?_; go_wp2_with ((refine L_mapUpd (fk := sV) (fv := lsV) (l := nm) (u := s) (v := (⟨s, k, 0⟩, ns.length, df)) rfl rfl hst rfl keyed_str Tryz.underlying77 (ev_tmp rfl) (ev_tmp rfl) (ev_tmp rfl) sV_inj HO.out HD.out HS.out 7 rfl ?_; clear hst; intro WM hst; simp only [List.set_cons_zero, List.set_cons_succ] at hst))
 refine idx_nil ?_
 go_upto_region 18 with (go_big_may; first | (refine L_mapUpd (fk := kInt) (fv := sV) (l := am) (u := ix) (v := s) rfl rfl hst rfl keyed_int Tryz.underlying78 (ev_tmp rfl) (ev_tmp rfl) (ev_tmp rfl) kInt_inj HOA.out HDA.out HSA.out 8 rfl ?_; clear hst; intro WN hst; simp only [List.set_cons_zero, List.set_cons_succ] at hst) | (refine L_load1 (d := some 99) rfl rfl rfl (by rfl) Tryz.underlying78 rfl (by (exact cell_of (hst.get 4 rfl) lgArr_3)) ?_))
 refine wp_region_pm (.one 0 3 (.one 1 3 (.one 2 0 (.one 3 0 (.one 4 0 (.one 5 2 (.one 6 2 (.one 7 1 (.one 8 2 (.one 9 2 (.one 10 1 .nil))))))))))) (by kernel_rfl) (by kernel_rfl) ?_
 replace hst := hst.drew
 refine pm_p rfl rfl ?_; go_wp2_with fail
 refine pm_p rfl rfl ?_; go_wp2_with fail
 refine pm_q rfl rfl ?_; go_wp2_with fail
 refine pm_qf rfl rfl (by kernel_rfl) ?_; go_wp2_with fail
 refine pm_q rfl rfl ?_; go_wp2_with ((refine L_load1 (d := some 106) rfl rfl rfl (by rfl) Tryz.underlying44 rfl (by (exact cell_of (hst.get 4 rfl) lgArr_1)) ?_))
 refine pm_g rfl ?_; go_wp2_with (((refine L_loadA (d := some 107) rfl rfl rfl (by rfl) Tryz.underlying32 rfl el_api_Digest (by (exact hst.get 0 rfl)) (by (exact Dig.size _)) ?_))); refine ⟨by (exact Below.refl _ _), ?_⟩
 refine pm_g rfl ?_; go_wp2_with ((refine L_buildS (d := some 108) rfl rfl rfl [_] (bs_1 (ev_tmp rfl)) rfl Tryz.underlying44 el_api_Digest rfl (by (simp [Value.cells, Dig.size]; done)) (by decide) (by decide) ?_; (try clear hnew); intro g108 W108 hnew; replace hst := hst.trans hnew; simp only [List.cons_append, List.nil_append] at hst; simp only [List.flatMap_cons, List.flatMap_nil, List.append_nil, Value.cells, List.toList_toArray] at hst)); refine ⟨by (exact hnew.below), ?_⟩
 refine pm_e rfl ?_; go_wp2_with ((refine L_appendO (d := some 109) rfl rfl hst rfl (by rfl) (by rfl) Tryz.underlying44 el_api_Digest rfl (by decide) (by decide) 7 rfl (by (rfl)) (by (exact hst.sl 0 rfl)) (by (exact oneCell_bytes)) (by omega) ?_; clear hst; intro A109 c109 W109 hst; simp only [List.set_cons_zero, List.set_cons_succ, List.nil_append, Nat.zero_add] at hst))
 refine pm_g rfl ?_; go_wp2_with fail; refine ⟨by (exact Below.refl _ _), ?_⟩
 refine pm_g rfl ?_; go_wp2_with fail; refine ⟨by (exact Below.refl _ _), ?_⟩
 refine pm_e rfl ?_; go_wp2_with ((refine wpl_at (.store 44 (.tmp 111) (.tmp 109)) rfl ?_; (refine L_store1 rfl rfl hst rfl (by rfl) (ev_tmp rfl) rfl el_S_api_Digest 5 rfl (by (exact of_decide_eq_true rfl)) ?_; clear hst; intro WS10 hst; simp only [List.set_cons_zero, List.set_cons_succ, lgArr_s1 _ _ _, HLV.out] at hst)))
 refine pm_nil ?_
 go_wp2_with ((refine L_load1 (d := some 115) rfl rfl rfl (by rfl) Tryz.underlying44 rfl (by (exact cell_of (hst.get 5 rfl) lgArr_1)) ?_))
 go_ret2
 refine .inl ⟨HE.out, ?_, ⟨g, m, c, c109, Mn, Ma, A, A109, updA s (⟨s, k, 0⟩, ns.length, df) nm, updA ix s am⟩, rfl, rfl, ?_, ?_⟩
 ·(rfl)
 ·rw [← HNN.out]
  exact HM.out
 ·simp only [lgL, List.cons_append, List.nil_append]
  rw [← HNN.out, snoc_len]
  exact hst.tail.tail.tail.tail.tail
end Go.Proofs.YtaebeemnipafbaaGreatDoor

set_option linter.unusedSimpArgs false
set_option linter.unusedVariables false
namespace Go.Proofs.YtaebeemnipafbaaGreatDoor
open Go.RowKit
attribute [local simp] ntArr_size
set_option maxHeartbeats 16000000 in
set_option maxRecDepth 100000 in
theorem add_ok_hi (key : List UInt8) (ns : List NoteN) (s : List UInt8) (k : Dig) (p : LgP) (w0 w : World) (L : List Res) (hT : Tb w0) (hst : St w0 w (lgL p key ns ++ L)) (hm : MapsOf ns p.nm p.am) (hl : Logged ns) (he : addE ns s = 0) (x : NoteN × Nat × Dig) (hx : atName ns s = some x) (hi : lookA (idxN s) p.am = some s) :
  Calls Tryz.prog 10 #[.pointer (some ⟨p.g, 0, none⟩), .string (bsOf s), k.v] w (AddEnd key ns s k p w0 L) := by
 have HT := Lib.hid hT
 obtain ⟨hs, hlen, hnc, hid⟩ := addE_zero he
 have HN := Lib.hid (fun w => by have := named_any s w; rw [hs] at this; exact this)
 have HE := Lib.hid he
 have HI := Lib.hid (fun (w' : World) (h : Tb w') => index_any s w' h (by have := isNm_len hs; omega))
 have HO := Lib.hid hm.ksO
 have HD := Lib.hid hm.nd
 have HOA := Lib.hid hm.ksOA
 have HDA := Lib.hid hm.ndA
 have HS := Lib.hid (sV_ok hs)
 have HSA := Lib.hid (kInt_ok (n := idxN s) (by have := idxN_lt s; omega))
 have hf2 : ¬ (256 : Int) ≤ (ns.length : Int) := by omega
 have HM := Lib.hid (hm.add he k)
 have htl := hl.turn_le s
 have HLF := Lib.hid (fun (w' : World) (h : Tb w') => leafOf_any (newN ns s k) w' h (hl.new_ok hs k))
 have HLV := Lib.hid (lvN_snoc ns (newN ns s k))
 have hx4 := (atName_some hx).2.2.2
 have htu : turnN ns s = x.1.turn + 1 := by unfold turnN; rw [hx4]
 have HL := Lib.hid (show lookA s p.nm = some x by rw [hm.look]; exact hx)
 have HL2 := Lib.hid hi
 have HEQ := Lib.hid (show (!decide (s = s)) = false by simp)
 simp only [lgL, List.cons_append, List.nil_append] at hst
 obtain ⟨g, m, c, lc, Mn, Ma, A, O, nm, am⟩ := p
 obtain ⟨⟨a1, a2, a3⟩, a4, a5⟩ := x
 simp only at *
 obtain ⟨n', hn'⟩ : ∃ n', n' = newN ns s k := ⟨_, rfl⟩
 obtain ⟨df, hdf⟩ : ∃ df, df = ntLeaf (newN ns s k) := ⟨_, rfl⟩
 have HDF := Lib.hid hdf
 have HNN := Lib.hid hn'
 rw [← hn'] at HM hdf HLF HLV
 rw [← hdf] at HLF HLV HM
 have hn2 : (n'.name = s ∧ n'.key = k ∧ n'.turn = turnN ns s) := by rw [hn']; exact ⟨rfl, rfl, rfl⟩
 obtain ⟨q1, q2, q3⟩ := hn2
 rw [q1, q2, q3] at HLF
 obtain ⟨tt, htt⟩ : ∃ tt, tt = turnN ns s := ⟨_, rfl⟩
 rw [← htt] at HLF htl htu q3
 have hn3 : n' = ⟨s, k, tt⟩ := NoteN.ext' q1 q2 q3
 generalize idxN s = ix at *
 have HTT := Lib.hid htu
 have ha3 : 0 ≤ a3 + 1 ∧ a3 + 1 ≤ 256 := by omega
 obtain ⟨ha31, ha32⟩ := ha3
 have hl256 : ns.length ≤ 256 := by omega
 clear hT hs hm hl he hx hi htl hdf hn' hid hnc hlen q1 q2 q3 htu hx4 htt
 subst hn3
 go_enter Tryz.func10, Tryz.ntmps10
 go_upto_region 1 with (go_big_may; (refine L_boxA (d := some 5) rfl rfl rfl (ev_tmp rfl) ?_; (try clear hnew); intro g5 W5 hnew; replace hst := hst.trans hnew; simp only [List.cons_append, List.nil_append] at hst))
 go_upto_region 3 with (go_big_may; (go_at_call 34; (try clear hnew); refine (HN.out _).mono ?_; rintro e Wk1 ⟨rfl, hnew⟩; replace hst := hst.keep hnew))
 go_upto_region 4 with (go_big_may; first | (refine L_look2s (fk := sV) (fv := lsV) (y := s) (l := nm) (d := some 26) rfl rfl rfl keyed_str Tryz.underlying77 el_log_last (ev_tmp rfl) (ev_tmp rfl) sV_inj HO.out HD.out HS.out (hst.obj 4 rfl) HL.out ?_) | (refine L_load1 (d := some 24) rfl rfl rfl (by rfl) Tryz.underlying77 rfl (by (exact cell_of (hst.get 1 rfl) lgArr_2)) ?_) | (refine L_allocA (d := some 8) rfl rfl rfl el_log_last ?_; (try clear hnew); intro g8 W8 hnew; replace hst := hst.trans hnew; simp only [List.cons_append, List.nil_append] at hst) | (refine wpl_at (.store 85 (.tmp 8) (.tmp 27)) rfl ?_; (refine L_storeA rfl rfl hst rfl (by rfl) (ev_tmp rfl) (by (exact lsArr_all _ _ _ _ _)) el_log_last (by (exact lsArr_size _ _ _ _ _)) 0 rfl (by (rfl)) ?_; clear hst; intro WS10 hst; simp only [List.set_cons_zero, List.set_cons_succ] at hst)))
 go_upto_region 6 with (first | (with_reducible refine L_pass (t := 39) rfl (by kernel_rfl) ?_) | (with_reducible refine L_pass (t := 40) rfl (by kernel_rfl) ?_) | (with_reducible refine L_pass (t := 41) rfl (by kernel_rfl) ?_) | (with_reducible refine L_pass (t := 42) rfl (by kernel_rfl) ?_) | (with_reducible refine L_pass (t := 43) rfl (by kernel_rfl) ?_) | (with_reducible refine L_pass (t := 44) rfl (by kernel_rfl) ?_) | (go_big_may; (refine L_load1 (d := some 32) rfl rfl rfl (by rfl) Tryz.underlying44 rfl (by (exact cell_of (hst.get 2 rfl) lgArr_1)) ?_)))
 go_upto_region 7 with (go_big_may; (go_at_call 35; (try clear hnew); refine (HI.out _ (HT.out.of hst)).mono ?_; rintro e Wk2 ⟨rfl, hnew⟩; replace hst := hst.keep hnew))
 go_upto_region 8 with (go_big_may; first | (refine L_look2s (fk := kInt) (fv := sV) (y := ix) (l := am) (d := some 56) rfl rfl rfl keyed_int Tryz.underlying78 el_string (ev_tmp rfl) (ev_tmp rfl) kInt_inj HOA.out HDA.out HSA.out (hst.obj 6 rfl) HL2.out ?_) | (refine L_load1 (d := some 54) rfl rfl rfl (by rfl) Tryz.underlying78 rfl (by (exact cell_of (hst.get 2 rfl) lgArr_3)) ?_))
 go_upto_region 10 with (go_big_may; (refine L_neStr (d := some 63) rfl rfl rfl eqG_str Tryz.underlying9 (ev_tmp rfl) (ev_tmp rfl) ?_; (try rw [HEQ.out])))
 go_upto_region 11 with (go_big_may; first | (refine L_buildN (d := some 68) rfl rfl rfl (ev_tmp rfl) (ev_tmp rfl) ?_) | ((refine L_loadA (d := some 67) rfl rfl rfl (by rfl) Tryz.underlying32 rfl el_api_Digest (by (exact hst.get 1 rfl)) (by (exact Dig.size _)) ?_)) | (refine L_allocA (d := some 13) rfl rfl rfl el_api_Note ?_; (try clear hnew); intro g13 W13 hnew; replace hst := hst.trans hnew; simp only [List.cons_append, List.nil_append] at hst) | (refine wpl_at (.store 34 (.tmp 13) (.tmp 68)) rfl ?_; (refine L_storeA rfl rfl hst rfl (by rfl) (ev_tmp rfl) (by (exact ntArr_all _ _ _)) el_api_Note (by (exact ntArr_size _ _ _)) 0 rfl (by (rfl)) ?_; clear hst; intro WS4 hst; simp only [List.set_cons_zero, List.set_cons_succ] at hst)))
 go_upto_region 12 with (go_big_may; fail)
 (try clear hnew)
 go_upto_region 13 with (go_big_may; first | (refine L_load1 (d := some 72) rfl rfl rfl (by rfl) Tryz.underlying3 rfl (by (exact cell_of (hst.get 1 rfl) lsArr_33)) ?_) | (refine wpl_at (.store 3 (.tmp 74) (.tmp 73)) rfl ?_; (refine L_store1 rfl rfl hst rfl (by rfl) (ev_tmp rfl) rfl el_int 0 rfl (by (simp; done)) ?_; clear hst; intro WS5 hst; simp only [List.set_cons_zero, List.set_cons_succ, ntArr_turn _ _ _ _] at hst)))
 rw [← HTT.out] at hst
 go_upto_region 14 with (go_big_may; first | (go_at_call 36; (try clear hnew); refine (HLF.out _ (HT.out.of hst)).mono ?_; rintro e Wk3 ⟨rfl, hnew⟩; replace hst := hst.keep hnew) | ((refine L_loadA (d := some 76) rfl rfl rfl (by rfl) Tryz.underlying34 rfl el_api_Note (by (exact hst.get 0 rfl)) (by (exact ntArr_size _ _ _)) ?_)) | (refine L_allocA (d := some 14) rfl rfl rfl el_api_Digest ?_; (try clear hnew); intro g14 W14 hnew; replace hst := hst.trans hnew; simp only [List.cons_append, List.nil_append] at hst) | (refine wpl_at (.store 32 (.tmp 14) (.tmp 78)) rfl ?_; (refine L_storeA rfl rfl hst rfl (by rfl) (ev_tmp rfl) (by (exact Dig.one _)) el_api_Digest (by (exact Dig.size _)) 0 rfl (by (rfl)) ?_; clear hst; intro WS6 hst; simp only [List.set_cons_zero, List.set_cons_succ] at hst)))
 go_upto_region 16 with (go_big_may; fail)
 clear hnew
 refine wp_region_idx [(0, 0), (1, 0), (2, 0), (3, 0), (4, 0), (5, 0), (6, 0), (7, 0), (8, 0), (9, 0), (10, 0), (11, 2), (12, 2), (13, 1)] (by kernel_rfl) (by kernel_rfl) ?_
 replace hst := hst.drew
 refine idx_q rfl rfl ?_; go_wp2_with fail
 refine idx_q rfl rfl ?_; go_wp2_with fail
 refine idx_qf rfl rfl (by kernel_rfl) ?_; go_wp2_with fail
 refine idx_q rfl rfl ?_; go_wp2_with ((refine L_load1 (d := some 86) rfl rfl rfl (by rfl) Tryz.underlying77 rfl (by (exact cell_of (hst.get 4 rfl) lgArr_2)) ?_))
 refine idx_q rfl rfl ?_; go_wp2_with fail
 refine idx_q rfl rfl ?_; go_wp2_with (((refine L_loadA (d := some 88) rfl rfl rfl (by rfl) Tryz.underlying34 rfl el_api_Note (by (exact hst.get 1 rfl)) (by (exact ntArr_size _ _ _)) ?_)))
 refine idx_q rfl rfl ?_; go_wp2_with fail
 refine idx_q rfl rfl ?_; go_wp2_with fail
 refine idx_qf rfl rfl (by kernel_rfl) ?_; go_wp2_with fail
 refine idx_q rfl rfl ?_; go_wp2_with ((refine L_load1 (d := some 92) rfl rfl rfl (by rfl) Tryz.underlying44 rfl (by (exact cell_of (hst.get 4 rfl) lgArr_1)) ?_))
 refine idx_q rfl rfl ?_; go_wp2_with (fail)
 refine idx_g rfl ?_; go_wp2_with (((refine L_loadA (d := some 94) rfl rfl rfl (by rfl) Tryz.underlying32 rfl el_api_Digest (by (exact hst.get 0 rfl)) (by (exact Dig.size _)) ?_))); refine ⟨by (exact Below.refl _ _), ?_⟩
 refine idx_g rfl ?_; go_wp2_with ((refine L_buildL (d := some 95) rfl rfl rfl (ev_tmp rfl) (ev_tmp rfl) (ev_tmp rfl) ?_)); refine ⟨by (exact Below.refl _ _), ?_⟩
 refine idx_e rfl ?_; go_wp2_with ((refine L_mapUpd (fk := sV) (fv := lsV) (l := nm) (u := s) (v := (⟨s, k, tt⟩, ns.length, df)) rfl rfl hst rfl keyed_str Tryz.underlying77 (ev_tmp rfl) (ev_tmp rfl) (ev_tmp rfl) sV_inj HO.out HD.out HS.out 7 rfl ?_; clear hst; intro WM hst; simp only [List.set_cons_zero, List.set_cons_succ] at hst))
 refine idx_nil ?_
 go_upto_region 18 with (go_big_may; first | (refine L_mapUpd (fk := kInt) (fv := sV) (l := am) (u := ix) (v := s) rfl rfl hst rfl keyed_int Tryz.underlying78 (ev_tmp rfl) (ev_tmp rfl) (ev_tmp rfl) kInt_inj HOA.out HDA.out HSA.out 8 rfl ?_; clear hst; intro WN hst; simp only [List.set_cons_zero, List.set_cons_succ] at hst) | (refine L_load1 (d := some 99) rfl rfl rfl (by rfl) Tryz.underlying78 rfl (by (exact cell_of (hst.get 4 rfl) lgArr_3)) ?_))
 refine wp_region_pm (.one 0 3 (.one 1 3 (.one 2 0 (.one 3 0 (.one 4 0 (.one 5 2 (.one 6 2 (.one 7 1 (.one 8 2 (.one 9 2 (.one 10 1 .nil))))))))))) (by kernel_rfl) (by kernel_rfl) ?_
 replace hst := hst.drew
 refine pm_p rfl rfl ?_; go_wp2_with fail
 refine pm_p rfl rfl ?_; go_wp2_with fail
 refine pm_q rfl rfl ?_; go_wp2_with fail
 refine pm_qf rfl rfl (by kernel_rfl) ?_; go_wp2_with fail
 refine pm_q rfl rfl ?_; go_wp2_with ((refine L_load1 (d := some 106) rfl rfl rfl (by rfl) Tryz.underlying44 rfl (by (exact cell_of (hst.get 4 rfl) lgArr_1)) ?_))
 refine pm_g rfl ?_; go_wp2_with (((refine L_loadA (d := some 107) rfl rfl rfl (by rfl) Tryz.underlying32 rfl el_api_Digest (by (exact hst.get 0 rfl)) (by (exact Dig.size _)) ?_))); refine ⟨by (exact Below.refl _ _), ?_⟩
 refine pm_g rfl ?_; go_wp2_with ((refine L_buildS (d := some 108) rfl rfl rfl [_] (bs_1 (ev_tmp rfl)) rfl Tryz.underlying44 el_api_Digest rfl (by (simp [Value.cells, Dig.size]; done)) (by decide) (by decide) ?_; (try clear hnew); intro g108 W108 hnew; replace hst := hst.trans hnew; simp only [List.cons_append, List.nil_append] at hst; simp only [List.flatMap_cons, List.flatMap_nil, List.append_nil, Value.cells, List.toList_toArray] at hst)); refine ⟨by (exact hnew.below), ?_⟩
 refine pm_e rfl ?_; go_wp2_with ((refine L_appendO (d := some 109) rfl rfl hst rfl (by rfl) (by rfl) Tryz.underlying44 el_api_Digest rfl (by decide) (by decide) 7 rfl (by (rfl)) (by (exact hst.sl 0 rfl)) (by (exact oneCell_bytes)) (by omega) ?_; clear hst; intro A109 c109 W109 hst; simp only [List.set_cons_zero, List.set_cons_succ, List.nil_append, Nat.zero_add] at hst))
 refine pm_g rfl ?_; go_wp2_with fail; refine ⟨by (exact Below.refl _ _), ?_⟩
 refine pm_g rfl ?_; go_wp2_with fail; refine ⟨by (exact Below.refl _ _), ?_⟩
 refine pm_e rfl ?_; go_wp2_with ((refine wpl_at (.store 44 (.tmp 111) (.tmp 109)) rfl ?_; (refine L_store1 rfl rfl hst rfl (by rfl) (ev_tmp rfl) rfl el_S_api_Digest 5 rfl (by (exact of_decide_eq_true rfl)) ?_; clear hst; intro WS10 hst; simp only [List.set_cons_zero, List.set_cons_succ, lgArr_s1 _ _ _, HLV.out] at hst)))
 refine pm_nil ?_
 go_wp2_with ((refine L_load1 (d := some 115) rfl rfl rfl (by rfl) Tryz.underlying44 rfl (by (exact cell_of (hst.get 5 rfl) lgArr_1)) ?_))
 go_ret2
 refine .inl ⟨HE.out, ?_, ⟨g, m, c, c109, Mn, Ma, A, A109, updA s (⟨s, k, tt⟩, ns.length, df) nm, updA ix s am⟩, rfl, rfl, ?_, ?_⟩
 ·(rfl)
 ·rw [← HNN.out]
  exact HM.out
 ·simp only [lgL, List.cons_append, List.nil_append]
  rw [← HNN.out, snoc_len]
  exact hst.tail.tail.tail.tail.tail
theorem atName_none {ns : List NoteN} {s : List UInt8} (h : lastI ns s = none) : atName ns s = none := by unfold atName; rw [h]; rfl
theorem add_any (key : List UInt8) (ns : List NoteN) (s : List UInt8) (k : Dig) (p : LgP) (w0 w : World) (L : List Res) (hT : Tb w0) (hst : St w0 w (lgL p key ns ++ L)) (hm : MapsOf ns p.nm p.am) (hl : Logged ns) :
  Calls Tryz.prog 10 #[.pointer (some ⟨p.g, 0, none⟩), .string (bsOf s), k.v] w (AddEnd key ns s k p w0 L) := by
 cases hs : isNm s with
 | false => exact add_unnamed key ns s k p w0 w L hst hs
 | true =>
  by_cases hf : 256 ≤ ns.length
  ·exact add_full1 key ns s k p w0 w L hst hm hs hf
  by_cases hc : lastI ns s = none ∧ 64 ≤ namesC ns
  ·exact add_full2 key ns s k p w0 w L hst hm hs hf hc.1 hc.2
  cases ht : takenN ns s with
  | true => exact add_twice key ns s k p w0 w L hT hst hm hs hf hc ht
  | false =>
   have he : addE ns s = 0 := by unfold addE; rw [if_pos hs, if_neg (not_or.2 ⟨hf, hc⟩), if_neg (by rw [ht]; decide)]
   cases hx : atName ns s with
   | some x =>
    refine add_ok_hi key ns s k p w0 w L hT hst hm hl he x hx ?_
    obtain ⟨h1, h2, _, _⟩ := atName_some hx
    obtain ⟨n, h3, h4⟩ := lastI_some h1
    exact (hm.lookA_ _ _).2 ⟨n, List.mem_of_getElem? h3, h4, rfl⟩
   | none =>
    refine add_ok_nn key ns s k p w0 w L hT hst hm hl he hx ?_
    cases hi : lookA (idxN s) p.am with
    | none => rfl
    | some t =>
     exfalso
     by_cases hts : t = s
     ·subst hts
      obtain ⟨n, h1, h2, _⟩ := (hm.lookA_ _ _).1 hi
      have h3 := atName_isSome ns t
      rw [hx] at h3
      cases h4 : lastI ns t with
      | none => exact (lastI_none.1 h4) n h1 h2
      | some j => rw [h4] at h3; cases h3
     ·have := (hm.taken s).2 ⟨t, hi, hts⟩
      rw [ht] at this
      cases this
end Go.Proofs.YtaebeemnipafbaaGreatDoor

set_option maxRecDepth 20000
set_option linter.unusedSimpArgs false
set_option linter.unusedVariables false
namespace Go.Proofs.YtaebeemnipafbaaGreatDoor
open Go.RowKit
theorem length_addL (ns : List NoteN) (s : List UInt8) (k : Dig) : ns.length ≤ (addL ns s k).length ∧ (addL ns s k).length ≤ ns.length + 1 := by
 unfold addL
 split
 ·rw [List.length_append]; exact ⟨by simp, by simp⟩
 ·exact ⟨Nat.le_refl _, by omega⟩
theorem addL_take (ns : List NoteN) (s : List UInt8) (k : Dig) {m : Nat} (h : m ≤ ns.length) : (addL ns s k).take m = ns.take m := by
 unfold addL
 split
 ·rw [List.take_append_of_le_length h]
 ·rfl
theorem mapN_nil : mapN [] = zeroD := mRoot_zero (fun _ _ _ => rfl)
theorem addU_any (key : List UInt8) (ns : List NoteN) (s : List UInt8) (k : Dig) (p : LgP) (w0 w : World) (L : List Res) (hT : Tb w0) (hst : St w0 w (lgL p key ns ++ L)) (hm : MapsOf ns p.nm p.am) (hl : Logged ns) :
  Calls Tryz.prog 10 #[.pointer (some ⟨p.g, 0, none⟩), .string (bsOf s), k.v] w fun e w' =>
   e = .returned (.tuple #[.int .i64 (if addE ns s = 0 then (ns.length : Int) else 0), if addE ns s = 0 then .nilIface else errV (addE ns s)]) ∧ ∃ p' : LgP, p'.g = p.g ∧ p'.m = p.m ∧ MapsOf (addL ns s k) p'.nm p'.am ∧ St w0 w' (lgL p' key (addL ns s k) ++ L) := by
 refine (add_any key ns s k p w0 w L hT hst hm hl).mono ?_
 rintro e w' (⟨h0, rfl, p', h1, h2, h3, h4⟩ | ⟨h0, rfl, h4⟩)
 ·unfold addL
  rw [if_pos h0, if_pos h0, if_pos h0]
  exact ⟨rfl, p', h1, h2, h3, h4⟩
 ·unfold addL
  rw [if_neg h0, if_neg h0, if_neg h0]
  exact ⟨rfl, p, rfl, rfl, hm, h4⟩
theorem note_name {W : World} {g off i : Nat} {ns : List NoteN} (h : W.rangeAt g (off + (i : Int).toNat * 34) (((notesL ns).drop ((i : Int).toNat * 34)).take 34)) (hi : i < ns.length) : W.cell? ⟨g, off + (i : Int).toNat * 34 + 0, none⟩ = some (.string (bsOf ns[i].name)) :=
 note_cells h hi 0 _ rfl
theorem note_key {W : World} {g off i : Nat} {ns : List NoteN} (h : W.rangeAt g (off + (i : Int).toNat * 34) (((notesL ns).drop ((i : Int).toNat * 34)).take 34)) (hi : i < ns.length) : W.rangeAt g (off + (i : Int).toNat * 34 + 1) ns[i].key.arr.toList := by
 have := rangeAt_take (k := 32) (rangeAt_drop (k := 1) (note_cells h hi))
 have e : ((ns[i].arr.toList.drop 1).take 32) = ns[i].key.arr.toList := ntArr_part _ _ _
 rwa [e] at this
theorem bool_at {W : World} {g off i n : Nat} {f : Nat → Bool} (h : W.rangeAt g (off + (i : Int).toNat * 1) ((((List.range n).map fun i => .bool (f i)).drop ((i : Int).toNat * 1)).take 1)) (hi : i < n) : W.cell? ⟨g, off + (i : Int).toNat * 1, none⟩ = some (.bool (f i)) := by
 have := h 0 (.bool (f i)) (by simp [hi])
 simpa using this
end Go.Proofs.YtaebeemnipafbaaGreatDoor

set_option maxRecDepth 20000
set_option linter.unusedSimpArgs false
set_option linter.unusedVariables false
namespace Go.Proofs.YtaebeemnipafbaaGreatDoor
open Go.RowKit
def fL (nm : List (List UInt8 × (NoteN × Nat × Dig))) (s : List UInt8) : Dig := ((lookA s nm).map fun x => x.2.2).getD zeroD
def enN (nm : List (List UInt8 × (NoteN × Nat × Dig))) (am : List (Nat × List UInt8)) (i : Nat) : Nat × Dig := match am[i]? with | some p => (p.1, fL nm p.2) | none => (0, zeroD)
theorem enN_all (nm : List (List UInt8 × (NoteN × Nat × Dig))) (am : List (Nat × List UInt8)) : (List.range am.length).map (enN nm am) = am.map fun p => (p.1, fL nm p.2) := by
 apply List.ext_getElem?
 intro i
 rw [List.getElem?_map, List.getElem?_map]
 by_cases h : i < am.length
 ·rw [List.getElem?_range h, List.getElem?_eq_getElem h]
  simp [enN, h]
 ·rw [List.getElem?_eq_none (by simpa using h), List.getElem?_eq_none (by omega)]
  rfl
theorem ent_snoc (es : List (Nat × Dig)) (k : Nat) (d : Dig) : entL es ++ (prArr (k : Int) d).toList = entL (es ++ [(k, d)]) := by
 rw [entL_app]
 congr 1
 rw [entL, entI, List.map_cons, List.map_nil, pairsL_one]
attribute [local simp] prArr_size
set_option maxHeartbeats 8000000 in
set_option maxRecDepth 100000 in
theorem entries_any (key : List UInt8) (ns : List NoteN) (p : LgP) (w0 w : World) (L : List Res) (hst : St w0 w (lgL p key ns ++ L)) (hm : MapsOf ns p.nm p.am) (hl : Logged ns) :
  Calls Tryz.prog 40 #[.pointer (some ⟨p.g, 0, none⟩)] w fun e w' => ∃ (es : List (Nat × Dig)) (O : Option Addr) (oc : Nat), e = .returned (.slice O es.length oc) ∧ es.length ≤ 64 ∧ (∀ e ∈ es, e.1 < 4294967296) ∧ (es.map (·.1)).Nodup ∧ leafAt es = lgF ns ∧
   St w0 w' (.row O es.length oc 110 33 (entL es) :: (lgL p key ns ++ L)) := by
 have HO := Lib.hid hm.ksO
 have HD := Lib.hid hm.nd
 have HM := Lib.hid hm
 have HLg := Lib.hid hl
 have hlen : p.am.length ≤ 64 := by rw [hm.lenA, hm.len]; exact hl.names
 have HAt := Lib.hid (fun (i : Nat) (q : Nat × List UInt8) (h : p.am[i]? = some q) => show ∃ x, lookA q.2 p.nm = some x ∧ enN p.nm p.am i = (q.1, x.2.2) ∧ KeyOk Tryz.prog 9 sV q.2 from by
  have hmem := List.mem_of_getElem? h
  obtain ⟨x, hx⟩ := hm.total (k := q.1) (s := q.2) hmem
  exact ⟨x, hx, by unfold enN fL; rw [h]; simp only [hx]; rfl, sV_ok (hm.ksA q hmem).2⟩)
 simp only [lgL, List.cons_append, List.nil_append] at hst
 obtain ⟨g, m, c, lc, Mn, Ma, A, O0, nm, am⟩ := p
 simp only at *
 obtain ⟨n, hn⟩ : ∃ n, n = am.length := ⟨_, rfl⟩
 have HN := Lib.hid hn
 rw [← hn] at hlen
 clear hm hl hn
 go_enter Tryz.func40, Tryz.ntmps40
 go_upto_region 1 with (go_big_may; fail)
 go_upto_region 2 with (go_big_may; fail)
 go_wp2_with (first | (refine L_load1 (d := some 9) rfl rfl rfl (by rfl) Tryz.underlying78 rfl (cell_of (hst.get 0 rfl) lgArr_3) ?_) | (refine L_range (fk := kInt) (fv := sV) (l := am) (d := some 10) rfl rfl rfl Tryz.underlying78 (ev_tmp rfl) (hst.obj 4 rfl) ?_; intro r W10 hnew; replace hst := hst.trans hnew; simp only [List.cons_append, List.nil_append] at hst))
 (try simp only [Act.put, List.setIfInBounds_toArray, List.set_cons_succ, List.set_cons_zero])
 rw [← HN.out] at hst
 clear hnew
 have hst := hst.nilRow 110 33
 go_loopg [3] n (fun gk s3 wr => ∃ (dn : List Nat) (O : Option Addr) (k oc : Nat), Hid (dn.length + gk = n ∧ dn.Nodup ∧ (∀ i ∈ dn, i < n) ∧ k = dn.length) ∧ s3 = .slice O k oc ∧
  St w0 wr (.row O k oc 110 33 (entL (dn.map (enN nm am))) :: .obj r (.mapIter (some Ma) n dn.toArray n) :: .blk g 80 (lgArr A m c O0 ns.length lc Mn Ma) :: .row A m c 5 1 (bytesL key) :: .row O0 ns.length lc 32 32 (digsL (lvN ns)) :: .obj Mn (mpO sV lsV nm) :: .obj Ma (mpO kInt sV am) :: L))
 case atStart => exact ⟨[], none, 0, 0, Lib.hid ⟨by simp, List.nodup_nil, by simp, rfl⟩, rfl, hst⟩
 case round =>
  clear hst
  obtain ⟨dn, O, k, oc, HG, rfl, hst⟩ := hrel
  go_wp2_with ((refine L_next (fk := kInt) (fv := sV) (l := am) (d := some 11) rfl rfl hst rfl (ev_tmp rfl) HN.out (Nat.le_refl _) (hst.obj 6 rfl) 1 rfl ?_ ?_))
  ·intro hall
   go_wp2_with fail
   go_ret
   obtain ⟨g1, g2, g3, rfl⟩ := HG.out
   have hn := HN.out
   have hp := range_perm g2 g3 hall
   have hpm : (dn.map (enN nm am)).Perm (am.map fun p => (p.1, fL nm p.2)) := by
    rw [← enN_all, ← hn]
    exact hp.map _
   have hM := HM.out
   have hnd : ((am.map fun p => (p.1, fL nm p.2)).map (·.1)).Nodup := by
    rw [List.map_map]
    exact hM.ndA
   have hlen2 : (dn.map (enN nm am)).length = dn.length := by simp
   refine ⟨dn.map (enN nm am), O, oc, by rw [hlen2]; rfl, by rw [hpm.length_eq, List.length_map, ← hn]; exact hlen, ?_, ((hpm.map _).nodup_iff).2 hnd, ?_, ?_⟩
   ·intro e he
    obtain ⟨q, hq, rfl⟩ := List.mem_map.1 (hpm.mem_iff.1 he)
    exact (hM.ksA q hq).1
   ·funext k
    rw [leafAt_perm (((hpm.map _).nodup_iff).2 hnd) hpm]
    exact hM.entries HLg.out (fL nm) (fun q _ x hx => by unfold fL; rw [hx]; rfl) k
   ·simp only [lgL, List.cons_append, List.nil_append]
    rw [hlen2]
    exact hst.drop ((List.sublist_cons_self _ _).cons_cons _)
  ·intro i q W11 hq hi hst'
   clear hst
   have hst := hst'
   clear hst'
   simp only [List.set_cons_zero, List.set_cons_succ] at hst
   obtain ⟨x, hx, he, hko⟩ := HAt.out i q hq
   obtain ⟨k1, s1⟩ := q
   obtain ⟨⟨a1, a2, a3⟩, a4, a5⟩ := x
   simp only at hx he hko
   have HX := Lib.hid hx
   have HK := Lib.hid hko
   have HQ := Lib.hid hq
   have HIn := Lib.hid hi
   have HSn := Lib.hid (show entL (dn.map (enN nm am)) ++ (prArr (k1 : Int) a5).toList = entL ((dn ++ [i]).map (enN nm am)) by
    rw [ent_snoc, List.map_append, List.map_singleton, he])
   have hk64 : k ≤ 64 := by
    obtain ⟨g1, g2, g3, g4⟩ := HG.out
    omega
   clear hx hko hq he hi
   generalize entL (dn.map (enN nm am)) = e0 at *
   go_wp2_with (first | (refine L_entry (fk := kInt) (fv := sV) (l := am) (i := i) (d := some 13) rfl rfl rfl (ev_tmp rfl) HN.out (hst.obj 6 rfl) (hst.obj 1 rfl) HQ.out ?_) | (refine L_look1s (fk := sV) (fv := lsV) (y := s1) (l := nm) (d := some 23) rfl rfl rfl keyed_str Tryz.underlying77 el_log_last (ev_tmp rfl) (ev_tmp rfl) sV_inj HO.out HD.out HK.out (hst.obj 5 rfl) HX.out ?_) | (refine L_fieldD (d := some 24) rfl rfl rfl Tryz.underlying85 rfl (ev_tmp rfl) Tryz.underlying32 el_api_Digest lsArr_leaf ?_) | (refine L_buildE (d := some 25) rfl rfl rfl (ev_tmp rfl) (ev_tmp rfl) ?_) | (refine L_load1 (d := some 21) rfl rfl rfl (by rfl) Tryz.underlying77 rfl (by (exact cell_of (hst.get 2 rfl) lgArr_2)) ?_) | (refine L_buildS (d := some 26) rfl rfl rfl [_] (bs_1 (ev_tmp rfl)) rfl Tryz.underlying93 el_api_Entry rfl (by (simp [Value.cells]; done)) (by decide) (by decide) ?_; (try clear hnew); intro g26 W26 hnew; replace hst := hst.trans hnew; simp only [List.cons_append, List.nil_append] at hst; simp only [List.flatMap_cons, List.flatMap_nil, List.append_nil, Value.cells, List.toList_toArray] at hst) | (refine L_appendO (d := some 27) rfl rfl hst rfl (by rfl) (by rfl) Tryz.underlying93 el_api_Entry rfl (by decide) (by decide) 1 rfl (by (rfl)) (by (exact hst.sl 0 rfl)) (by (exact prArr_one _ _)) (by omega) ?_; clear hst; intro A27 c27 W27 hst; simp only [List.set_cons_zero, List.set_cons_succ, List.nil_append, Nat.zero_add] at hst))
   have hG2 : (dn ++ [i]).length + (gk - 1) = n ∧ (dn ++ [i]).Nodup ∧ (∀ j ∈ dn ++ [i], j < n) ∧ k + 1 = (dn ++ [i]).length ∧ 0 < gk := by
    obtain ⟨g1, g2, g3, g4⟩ := HG.out
    have hin : i < n := by rw [HN.out]; exact (List.getElem?_eq_some_iff.1 HQ.out).1
    have hnd : (dn ++ [i]).Nodup := by
     rw [List.nodup_append]
     refine ⟨g2, by simp, fun a ha b hb => ?_⟩
     rw [List.mem_singleton.1 hb]
     intro e
     exact HIn.out (e ▸ ha)
    have hlt : ∀ j ∈ dn ++ [i], j < n := fun j hj => by
     rcases List.mem_append.1 hj with hj | hj
     ·exact g3 j hj
     ·rw [List.mem_singleton.1 hj]; exact hin
    have hle := nodup_le n _ hnd hlt
    rw [List.length_append, List.length_singleton] at hle
    refine ⟨?_, hnd, hlt, ?_, ?_⟩
    ·rw [List.length_append, List.length_singleton]; omega
    ·rw [List.length_append, List.length_singleton]; omega
    ·omega
   obtain ⟨q1, q2, q3, q4, q5⟩ := hG2
   go_roundg (gk - 1)
   case measure => omega
   case rel =>
    refine ⟨dn ++ [i], A27, k + 1, c27, Lib.hid ⟨q1, q2, q3, q4⟩, rfl, ?_⟩
    rw [← HSn.out]
    exact hst.tail
end Go.Proofs.YtaebeemnipafbaaGreatDoor

set_option maxRecDepth 20000
set_option linter.unusedSimpArgs false
set_option linter.unusedVariables false
namespace Go.Proofs.YtaebeemnipafbaaGreatDoor
open Go.RowKit Go.Shelf
theorem nodup_perm {ss es : List (Nat × Dig)} (hs : ss.Pairwise fun a b => a.1 < b.1) (hp : ss.Perm es) : leafAt ss = leafAt es := by
 funext k
 exact leafAt_perm (pw_nodup hs) hp k
theorem troot32 (es ss : List (Nat × Dig)) (O : Option Addr) (n oc : Nat) (w' : World) (ht : Tb w') (h : SlR w' O n oc 33 (entL ss)) (hs : ss.Pairwise fun a b => a.1 < b.1) (hp : ss.Perm es) (hk : ∀ e ∈ es, e.1 < 4294967296) :
  Calls Tryz.prog 85 #[.slice O n oc, .int .i64 32] w' fun e w'' => e = .returned (mRoot (leafAt es) 32 0).v ∧ St w' w'' [] := by
 obtain ⟨b, hb⟩ : ∃ b : Nat, b = 32 := ⟨_, rfl⟩
 have hbi : (32 : Int) = ((b : Nat) : Int) := by rw [hb]; rfl
 have h1 := troot_any b ss O n oc 0 w' ht h (by omega) hs (fun e he => ⟨by omega, by
  have := hk e (hp.mem_iff.1 he)
  have e2 : 2 ^ b = 4294967296 := by rw [hb]
  omega⟩) (by
  have e2 : 2 ^ b = 4294967296 := by rw [hb]
  omega)
 rw [nodup_perm hs hp, Nat.zero_mul] at h1
 rw [hbi, ← hb]
 exact h1
set_option maxHeartbeats 1000000 in
theorem tRootM_any (es : List (Nat × Dig)) (A : Option Addr) (n c : Nat) (w : World) (hT : Tb w) (hx : SlR w A n c 33 (entL es)) (hn : n ≤ 64) (hk : ∀ e ∈ es, e.1 < 4294967296) (hd : (es.map (·.1)).Nodup) :
  Calls Tryz.prog 39 #[.slice A n c] w fun e w' => e = .returned (.tuple #[(mRoot (leafAt es) 32 0).v, .nilIface]) ∧ St w w' [] := by
 have hst := St.refl w
 have HT := Lib.hid hT
 have HS := Lib.hid (fun (w' : World) (h : SlR w' A n c 33 (entL es)) => tsorted_any es A n c w' h hn hk hd)
 have HR := Lib.hid (fun (ss : List (Nat × Dig)) (O : Option Addr) (oc : Nat) (w' : World) (ht : Tb w') (hs : ss.Pairwise fun a b => a.1 < b.1) (hp : ss.Perm es) (h : SlR w' O n oc 33 (entL ss)) =>
  troot32 es ss O n oc w' ht h hs hp hk)
 generalize mRoot (leafAt es) 32 0 = r at *
 clear hT hk hd
 go_enter Tryz.func39, Tryz.ntmps39
 go_upto_region 1 with (go_big_may; (refine L_allocA (d := some 2) rfl rfl rfl el_api_Digest ?_; (try clear hnew); intro g2 W2 hnew; replace hst := hst.trans hnew; simp only [List.cons_append, List.nil_append] at hst))
 go_upto_region 2 with (go_big_may; (go_at_call 84; (try clear hnew); refine (HS.out _ (hst.old (by decide) hx)).mono ?_; rintro e Ws ⟨ss, O, oc, rfl, hs, hp, hnew⟩; have HSP := Lib.hid (And.intro hs hp); clear hs hp; replace hst := hst.trans hnew; simp only [List.cons_append, List.nil_append] at hst))
 go_upto_region 4 with (go_big_may; fail)
 go_wp2_with (first | (go_at_call 85; (try clear hnew); refine (HR.out ss _ _ _ (HT.out.of hst) HSP.out.1 HSP.out.2 (hst.sl 0 rfl)).mono ?_; rintro e Wr ⟨rfl, hnew⟩; replace hst := hst.keep hnew) | (refine wpl_at (.store 32 (.tmp 2) (.tmp 16)) rfl ?_; (refine L_storeA rfl rfl hst rfl (by rfl) (ev_tmp rfl) (by (exact Dig.one _)) el_api_Digest (by (exact Dig.size _)) 1 rfl (by (rfl)) ?_; clear hst; intro WS2 hst; simp only [List.set_cons_zero, List.set_cons_succ] at hst)))
 refine bp_cell_tmp rfl rfl rfl rfl (hst.get 1 rfl) Tryz.underlying32 rfl el_api_Digest (by (exact Dig.size _)) ?_
 exact ⟨rfl, hst.forget⟩
def pthN (f : Nat → Dig) (k j : Nat) : List Dig := (List.range 32).map fun i => if i < j then zeroD else mRoot f i (sibN i k)
theorem pthN_len (f : Nat → Dig) (k j : Nat) : (pthN f k j).length = 32 := by simp [pthN]
theorem pthN_0 (f : Nat → Dig) (k : Nat) : pthN f k 0 = mPath f k 32 := by simp [pthN, mPath]
theorem pthN_32 (f : Nat → Dig) (k : Nat) : pthN f k 32 = List.replicate 32 zeroD := by
 unfold pthN
 apply List.ext_getElem?
 intro i
 rw [List.getElem?_map]
 by_cases h : i < 32
 ·rw [List.getElem?_range h, List.getElem?_replicate, if_pos h]
  simp [h]
 ·rw [List.getElem?_eq_none (by simpa using h), List.getElem?_eq_none (by simpa using h)]; rfl
theorem pthN_set (f : Nat → Dig) (k j : Nat) (h : j < 32) : (pthN f k (j + 1)).set j (mRoot f j (sibN j k)) = pthN f k j := by
 apply List.ext_getElem?
 intro i
 rw [List.getElem?_set]
 unfold pthN
 by_cases hi : i < 32
 ·by_cases hj : j = i
  ·subst hj
   simp [h]
  ·rw [if_neg hj, List.getElem?_map, List.getElem?_map, List.getElem?_range hi]
   simp only [Option.map_some]
   congr 1
   by_cases h1 : i < j
   ·rw [if_pos (by omega), if_pos h1]
   ·rw [if_neg (by omega), if_neg h1]
 ·have : ¬ j = i := by omega
  simp [this, hi]
theorem digsL_putD (ds : List Dig) (j : Nat) (d : Dig) (h : j < ds.length) : (digsL ds).take (j * 32) ++ d.arr.toList ++ (digsL ds).drop (j * 32 + 32) = digsL (ds.set j d) := by
 have e : ds.set j d = ds.take j ++ ([d] ++ ds.drop (j + 1)) := by rw [List.set_eq_take_append_cons_drop, if_pos h]; rfl
 have h1 := digsL_cut ds 0 j
 have h2 := digsL_cut ds (j + 1) (ds.length - (j + 1))
 rw [Nat.zero_mul, List.drop_zero, List.drop_zero] at h1
 rw [show j * 32 + 32 = (j + 1) * 32 by omega, h1, e]
 have h3 : (digsL ds).drop ((j + 1) * 32) = digsL (ds.drop (j + 1)) := by
  rw [List.take_of_length_le (by rw [List.length_drop, length_digsL, ← Nat.sub_mul]; exact Nat.le_refl _), List.take_of_length_le (by rw [List.length_drop]; exact Nat.le_refl _)] at h2
  exact h2
 rw [h3]
 simp [digsL, Dig.toList]
theorem under_step {es : List (Nat × Dig)} {b q k : Nat} {f : Nat → Dig} (hs : es.Pairwise fun x y => x.1 < y.1) (hr : ∀ e ∈ es, q * 2 ^ (b + 1) ≤ e.1 ∧ e.1 < q * 2 ^ (b + 1) + 2 ^ (b + 1)) (hq : q = k / 2 ^ (b + 1))
  (hf : ∀ x, q * 2 ^ (b + 1) ≤ x → x < q * 2 ^ (b + 1) + 2 ^ (b + 1) → leafAt es x = f x) :
  ∀ own oth : List (Nat × Dig), (own, oth) = (if k / 2 ^ b % 2 = 1 then (es.drop (cutI b es), es.take (cutI b es)) else (es.take (cutI b es), es.drop (cutI b es))) →
  (own.Pairwise fun x y => x.1 < y.1) ∧ (∀ e ∈ own, k / 2 ^ b * 2 ^ b ≤ e.1 ∧ e.1 < k / 2 ^ b * 2 ^ b + 2 ^ b) ∧ (∀ x, k / 2 ^ b * 2 ^ b ≤ x → x < k / 2 ^ b * 2 ^ b + 2 ^ b → leafAt own x = f x) ∧
  (oth.Pairwise fun x y => x.1 < y.1) ∧ (∀ e ∈ oth, sibN b k ≤ e.1 ∧ e.1 < sibN b k + 2 ^ b) ∧ (∀ x, sibN b k ≤ x → x < sibN b k + 2 ^ b → leafAt oth x = f x) := by
 have hcut := cutI_mid hr
 have hlow : es.take (cutI b es) = es.filter fun e => decide (e.1 < q * 2 ^ (b + 1) + 2 ^ b) := by rw [hcut]; exact cut_low es _ hs
 have hhigh : es.drop (cutI b es) = es.filter fun e => decide (q * 2 ^ (b + 1) + 2 ^ b ≤ e.1) := by rw [hcut]; exact cut_high es _ hs
 have e1 : 2 ^ (b + 1) = 2 ^ b + 2 ^ b := by rw [Nat.pow_succ]; omega
 have hp := Nat.two_pow_pos b
 have e2 : k / 2 ^ (b + 1) = k / 2 ^ b / 2 := half_step k b
 rw [e2] at hq
 have e3 : q * 2 ^ (b + 1) = 2 * q * 2 ^ b := by rw [Nat.pow_succ, Nat.mul_comm (2 ^ b) 2, ← Nat.mul_assoc, Nat.mul_comm q 2]
 have e4 : (2 * q + 1) * 2 ^ b = 2 * q * 2 ^ b + 2 ^ b := by rw [Nat.add_mul, Nat.one_mul]
 have pl : (es.take (cutI b es)).Pairwise fun x y => x.1 < y.1 := hs.sublist (List.take_sublist _ _)
 have ph : (es.drop (cutI b es)).Pairwise fun x y => x.1 < y.1 := hs.sublist (List.drop_sublist _ _)
 have rl : ∀ e ∈ es.take (cutI b es), 2 * q * 2 ^ b ≤ e.1 ∧ e.1 < 2 * q * 2 ^ b + 2 ^ b := fun e he => by
  have h1 := hr e ((List.take_sublist _ _).subset he)
  rw [hlow] at he
  have h2 := of_decide_eq_true (List.mem_filter.1 he).2
  omega
 have rh : ∀ e ∈ es.drop (cutI b es), (2 * q + 1) * 2 ^ b ≤ e.1 ∧ e.1 < (2 * q + 1) * 2 ^ b + 2 ^ b := fun e he => by
  have h1 := hr e ((List.drop_sublist _ _).subset he)
  rw [hhigh] at he
  have h2 := of_decide_eq_true (List.mem_filter.1 he).2
  omega
 have fl : ∀ x, 2 * q * 2 ^ b ≤ x → x < 2 * q * 2 ^ b + 2 ^ b → leafAt (es.take (cutI b es)) x = f x := fun x h1 h2 => by
  rw [hlow, leafAt_filter es (fun y => decide (y < q * 2 ^ (b + 1) + 2 ^ b)) (decide_eq_true (by omega))]
  exact hf x (by omega) (by omega)
 have fh : ∀ x, (2 * q + 1) * 2 ^ b ≤ x → x < (2 * q + 1) * 2 ^ b + 2 ^ b → leafAt (es.drop (cutI b es)) x = f x := fun x h1 h2 => by
  rw [hhigh, leafAt_filter es (fun y => decide (q * 2 ^ (b + 1) + 2 ^ b ≤ y)) (decide_eq_true (by omega))]
  exact hf x (by omega) (by omega)
 intro own oth ho
 unfold sibN
 by_cases hb : k / 2 ^ b % 2 = 1
 ·rw [if_pos hb] at ho ⊢
  obtain ⟨rfl, rfl⟩ := Prod.mk.inj ho
  have hk : k / 2 ^ b = 2 * q + 1 := by omega
  rw [hk, Nat.add_sub_cancel]
  exact ⟨ph, rh, fh, pl, rl, fl⟩
 ·rw [if_neg hb] at ho ⊢
  obtain ⟨rfl, rfl⟩ := Prod.mk.inj ho
  have hk : k / 2 ^ b = 2 * q := by omega
  rw [hk]
  exact ⟨pl, rl, fl, ph, rh, fh⟩
theorem par_le {k b : Nat} (hk : k < 4294967296) (hb : b ≤ 31) : k / 2 ^ (b + 1) * 2 ^ (b + 1) + 2 ^ (b + 1) ≤ 4294967296 := by
 have e : (4294967296 : Nat) = 2 ^ (31 - b) * 2 ^ (b + 1) := by rw [← Nat.pow_add, show 31 - b + (b + 1) = 32 by omega]
 have h1 : k / 2 ^ (b + 1) < 2 ^ (31 - b) := (Nat.div_lt_iff_lt_mul (Nat.two_pow_pos _)).2 (by rw [← e]; exact hk)
 have h2 := Nat.mul_le_mul_right (2 ^ (b + 1)) h1
 rw [Nat.succ_mul, ← e] at h2
 exact h2
theorem sib_form {k b : Nat} (hk : k < 4294967296) (hb : b ≤ 31) : ∃ q, sibN b k = q * 2 ^ b ∧ q * 2 ^ b + 2 ^ b ≤ 4294967296 := by
 have h := par_le hk hb
 have hp := Nat.two_pow_pos b
 have e1 : 2 ^ (b + 1) = 2 ^ b + 2 ^ b := by rw [Nat.pow_succ]; omega
 have e2 : k / 2 ^ (b + 1) = k / 2 ^ b / 2 := half_step k b
 have e3 : k / 2 ^ (b + 1) * 2 ^ (b + 1) = 2 * (k / 2 ^ (b + 1)) * 2 ^ b := by rw [Nat.pow_succ, Nat.mul_comm (2 ^ b) 2, ← Nat.mul_assoc, Nat.mul_comm (k / (2 * 2 ^ b)) 2]
 unfold sibN
 by_cases hb1 : k / 2 ^ b % 2 = 1
 ·rw [if_pos hb1]
  refine ⟨_, rfl, ?_⟩
  have : k / 2 ^ b - 1 = 2 * (k / 2 ^ (b + 1)) := by omega
  rw [this]
  omega
 ·rw [if_neg hb1]
  refine ⟨_, rfl, ?_⟩
  have : k / 2 ^ b + 1 = 2 * (k / 2 ^ (b + 1)) + 1 := by omega
  rw [this, Nat.add_mul, Nat.one_mul]
  omega
section
variable {P : Program} {ops : Array Oper} {rest : List Oper} {o : Oper} {a : Act} {W : World} {Q : Exit → Act → World → Prop} {d : Option Tmp}
theorem zero_cells : ∀ v ∈ zeroD.arr.toList, v = .int .u8 0 := by
 intro v hv
 rw [Dig.toList] at hv
 obtain ⟨b, hb, rfl⟩ := List.mem_map.1 hv
 rw [show b = 0 from List.eq_of_mem_replicate hb]
 rfl
theorem digs_zero (n : Nat) : digsL (List.replicate n zeroD) = List.replicate (n * 32) (.int .u8 0) := by
 rw [List.eq_replicate_iff]
 refine ⟨by rw [length_digsL, List.length_replicate], fun v hv => ?_⟩
 unfold digsL at hv
 obtain ⟨d, hd, hv⟩ := List.mem_flatMap.1 hv
 rw [List.eq_of_mem_replicate hd, ← Dig.toList] at hv
 exact zero_cells v hv
theorem L_makeD (hd : o.dst = d) (hw : Region.wanted o (yielded ops a.tmps) = true) {T : TypeId} {x y : Operand} (ho : o.op = .makeSlice T x y) {n : Nat} (hx : a.eval x = .int .i64 (n : Int)) (hy : a.eval y = .int .i64 (n : Int))
  {e : TypeId} (hu : P.underlying T = some (.slice e)) {b : Nat} (he : ElemIs P e (.agg zeroD.arr) 32 b) (hb : n * b ≤ 281474976710656) (hn : n ≤ maxLen)
  (h : ∀ (g : Option Addr) (W' : World), St W W' [.row g n n e 32 (digsL (List.replicate n zeroD))] → wpList P ops Q rest (a.put d (.slice g n n)) W') : wpList P ops Q (o :: rest) a W := by
 obtain ⟨i, hi, hiz, his, hib⟩ := he.parts
 have hn' : (n : Int) ≤ 9223372036854775807 := by simp only [maxLen] at hn; omega
 have hr := run_make (P := P) W T e i (.agg zeroD.arr) hu hi hiz .i64 .i64 n n (by omega) (Int.le_refl _) (by rw [hib, Int.mul_comm]; omega) hn'
 simp only [Int.toNat_natCast] at hr
 have hsz := size_madeCells (Value.agg zeroD.arr).cells (n * i.size)
 have hcells : (madeCells (Value.agg zeroD.arr).cells (n * i.size)).toList = digsL (List.replicate n zeroD) := by
  rw [digs_zero, List.eq_replicate_iff]
  refine ⟨by rw [Array.length_toList, hsz, his], fun v hv => ?_⟩
  rw [Array.mem_toList_iff] at hv
  unfold madeCells at hv
  simp only [Value.cells] at hv
  obtain ⟨j, hj, rfl⟩ := Array.mem_map.1 hv
  have hlt : j % zeroD.arr.size < zeroD.arr.size := Nat.mod_lt _ (by rw [Dig.size]; decide)
  have h5 : zeroD.arr[j % zeroD.arr.size]! = zeroD.arr[j % zeroD.arr.size]'hlt := getElem!_pos zeroD.arr _ hlt
  rw [h5]
  exact zero_cells _ (Array.mem_toList_iff.2 (Array.getElem_mem hlt))
 have hrow := St.newRow (W := W) e (n := n) (s := 32) (cs := madeCells (Value.agg zeroD.arr).cells (n * i.size)) (by rw [hsz, his]) hn
 rw [hcells] at hrow
 refine L_val hd hw ?_ (h _ _ hrow)
 unfold execOp
 simp only [ho, hx, hy]
 simp [hr]
end
attribute [local simp] prArr_size
set_option maxHeartbeats 8000000 in
set_option maxRecDepth 100000 in
theorem tPathM_any (es : List (Nat × Dig)) (A : Option Addr) (n c k : Nat) (w : World) (hT : Tb w) (hx : SlR w A n c 33 (entL es)) (hn : n ≤ 64) (hk : ∀ e ∈ es, e.1 < 4294967296) (hd : (es.map (·.1)).Nodup) (hk2 : k < 4294967296) :
  Calls Tryz.prog 46 #[.slice A n c, .int .i64 (k : Int)] w fun e w' => ∃ O oc, e = .returned (.tuple #[.slice O 32 oc, .nilIface]) ∧ St w w' [.row O 32 oc 32 32 (digsL (mPath (leafAt es) k 32))] := by
 have hst := St.refl w
 have HT := Lib.hid hT
 have HS := Lib.hid (fun (w' : World) (h : SlR w' A n c 33 (entL es)) => tsorted_any es A n c w' h hn hk hd)
 have HK := Lib.hid (fun w : World => by have h := tkey_any (k : Int) w; rw [decide_eq_true (show 0 ≤ (k : Int) ∧ (k : Int) < 4294967296 by omega)] at h; exact h)
 have HE := Lib.hid (fun (ss : List (Nat × Dig)) (hs : ss.Pairwise fun a b => a.1 < b.1) (hp : ss.Perm es) => nodup_perm hs hp)
 have HB := Lib.hid (fun (ss : List (Nat × Dig)) (hp : ss.Perm es) (e : Nat × Dig) (he : e ∈ ss) => hk e (hp.mem_iff.1 he))
 generalize hf : leafAt es = f at *
 have Hk2 := Lib.hid hk2
 have hZ := Lib.hid (show digsL (List.replicate 32 zeroD) = digsL (pthN f k 32) from by rw [pthN_32])
 have h0Z := Lib.hid (pthN_0 f k)
 clear hT hk hd hf hk2
 go_enter Tryz.func46, Tryz.ntmps46
 go_upto_region 1 with (go_big_may; fail)
 go_upto_region 2 with (go_big_may; (go_at_call 84; (try clear hnew); refine (HS.out _ (hst.old (by decide) hx)).mono ?_; rintro e Ws ⟨ss, O, oc, rfl, hs, hp, hnew⟩; have HSP := Lib.hid (And.intro hs hp); clear hs hp; replace hst := hst.trans hnew; simp only [List.cons_append, List.nil_append] at hst))
 go_upto_region 4 with (go_big_may; fail)
 go_upto_region 6 with (go_big_may; (go_at_call 89; (try clear hnew); refine (HK.out _).mono ?_; rintro e Wk1 ⟨rfl, hnew⟩; replace hst := hst.keep hnew))
 (try clear hnew)
 go_upto_region 7 with (go_big_may; (refine L_makeD (d := some 24) (n := 32) rfl rfl rfl (by rfl) (by rfl) Tryz.underlying44 el_api_Digest (by decide) (by decide) ?_; intro Pp W24 hnew; replace hst := hst.trans hnew; simp only [List.cons_append, List.nil_append] at hst; rw [hZ.out] at hst))
 go_upto_region 8 with (go_big_may; fail)
 (try clear hnew)
 go_loopg [6, 9] 32 (fun gk s6 s9 wr => ∃ (own : List (Nat × Dig)) (A' : Option Addr) (n' c' : Nat), Hid (gk ≤ 32 ∧ (own.Pairwise fun x y => x.1 < y.1) ∧ (∀ e ∈ own, k / 2 ^ gk * 2 ^ gk ≤ e.1 ∧ e.1 < k / 2 ^ gk * 2 ^ gk + 2 ^ gk) ∧ (∀ x, k / 2 ^ gk * 2 ^ gk ≤ x → x < k / 2 ^ gk * 2 ^ gk + 2 ^ gk → leafAt own x = f x)) ∧
  Hid (∀ V, SlR V O n oc 33 (entL ss) → SlR V A' n' c' 33 (entL own)) ∧ s9 = .int .i64 ((gk : Int) - 1) ∧ s6 = .slice A' n' c' ∧ St w wr [.row Pp 32 32 32 32 (digsL (pthN f k gk)), .row O n oc 110 33 (entL ss)])
 case atStart =>
  refine ⟨ss, O, n, oc, Lib.hid ⟨Nat.le_refl _, HSP.out.1, ?_, ?_⟩, Lib.hid (fun V h => h), rfl, rfl, hst⟩
  ·intro e he
   have := HB.out ss HSP.out.2 e he
   have hk := Hk2.out
   rw [Nat.div_eq_of_lt (by omega)]
   omega
  ·intro x _ _
   rw [HE.out ss HSP.out.1 HSP.out.2]
 case round =>
  clear hst
  obtain ⟨es', A', n', c', HG, HO, rfl, rfl, hst⟩ := hrel
  cases gk with
  | zero =>
   rw [h0Z.out] at hst
   go_wp2_with (fail)
   go_ret2
   exact ⟨Pp, 32, rfl, hst.pick [0] (by decide)⟩
  | succ b =>
   obtain ⟨hb32, g1, g2, g3⟩ := HG.out
   have hk := Hk2.out
   have hb31 : b ≤ 31 := by omega
   have e1 : ((b + 1 : Nat) : Int) - 1 = (b : Int) := by omega
   rw [e1]
   have hus := under_step (b := b) (k := k) g1 g2 rfl g3
   obtain ⟨q, hq1, hq2⟩ := sib_form hk hb31
   have hps := pthN_set f k b (by omega)
   have hds := digsL_putD (pthN f k (b + 1)) b (mRoot f b (sibN b k)) (by rw [pthN_len]; omega)
   rw [hps] at hds
   have HSET := Lib.hid (show List.take (((b : Nat) : Int).toNat * 32) (digsL (pthN f k (b + 1))) ++ (mRoot f b (sibN b k)).arr.toList ++ List.drop (((b : Nat) : Int).toNat * 32 + 32) (digsL (pthN f k (b + 1))) = digsL (pthN f k b) from hds)
   have HH := Lib.hid (fun (w' : World) (h : SlR w' A' n' c' 33 (entL es')) => halves_any es' A' n' c' b w' h hb31 (fun e he => by
    have h1 := g2 e he
    have h2 := par_le hk hb31
    omega))
   have HRT0 := fun (oth : List (Nat × Dig)) (ho1 : oth.Pairwise fun x y => x.1 < y.1) (ho2 : ∀ e ∈ oth, sibN b k ≤ e.1 ∧ e.1 < sibN b k + 2 ^ b) (ho3 : ∀ x, sibN b k ≤ x → x < sibN b k + 2 ^ b → leafAt oth x = f x) (A1 : Option Addr) (n1 c1 : Nat) (w' : World) (ht : Tb w') (h : SlR w' A1 n1 c1 33 (entL oth)) =>
    show Calls Tryz.prog 85 #[.slice A1 n1 c1, .int .i64 (b : Int)] w' fun e w'' => e = .returned (mRoot f b (sibN b k)).v ∧ St w' w'' [] from by
     have h1 := troot_any b oth A1 n1 c1 q w' ht h (by omega) ho1 (fun e he => by rw [← hq1]; exact ho2 e he) hq2
     rw [← hq1, mRoot_congr b (sibN b k) ho3] at h1
     exact h1
   have hq : k / 2 ^ b < 2 ^ 63 := Nat.lt_of_le_of_lt (Nat.div_le_self _ _) (by omega)
   by_cases hb1 : k / 2 ^ b % 2 = 1
   ·obtain ⟨own, hown0⟩ : ∃ own, own = es'.drop (cutI b es') := ⟨_, rfl⟩
    obtain ⟨oth, hoth0⟩ : ∃ oth, oth = es'.take (cutI b es') := ⟨_, rfl⟩
    obtain ⟨u1, u2, u3, u4, u5, u6⟩ := hus own oth (by rw [if_pos hb1, hown0, hoth0])
    have HU := Lib.hid (And.intro u1 (And.intro u2 u3))
    have HRT := Lib.hid (HRT0 oth u4 u5 u6)
    have HB2 := Lib.hid hb1
    rw [← hown0, ← hoth0] at HH
    clear u1 u2 u3 u4 u5 u6 hus HRT0 hb1 hown0 hoth0 g1 g2 g3 hq1 hq2 hps hds e1 HG hk
    generalize mRoot f b (sibN b k) = rt at *
    generalize digsL (pthN f k (b + 1)) = x1 at *
    generalize hx00 : digsL (pthN f k b) = x0 at *
    have HX0 := Lib.hid hx00
    clear hx00
    generalize entL oth = eo at *
    generalize entL es' = e' at *
    go_wp2_with (first | (go_at_call 90; (try clear hnew); refine (HH.out _ (HO.out _ (hst.sl 1 rfl))).mono ?_; rintro e Wh ⟨A1, n1, c1, A2, n2, c2, rfl, hx1, hx2, hnew⟩; have HX1 := Lib.hid hx1; have HX2 := Lib.hid hx2; clear hx1 hx2; replace hst := hst.keep hnew; clear hnew) | (refine L_shrN (d := some 37) rfl rfl rfl (ev_tmp rfl) (ev_tmp rfl) (by omega) ?_) | (refine L_and1 (d := some 38) rfl rfl rfl (ev_tmp rfl) ev_const hq ?_; rw [HB2.out]) | (go_at_call 85; (try clear hnew); refine (HRT.out _ _ _ _ (HT.out.of hst) (HX1.out _ (HO.out _ (hst.sl 1 rfl)))).mono ?_; rintro e Wr ⟨rfl, hnew⟩; replace hst := hst.keep hnew) | ((refine L_idxO (d := some 48) rfl rfl hst rfl (by rfl) (by rfl) Tryz.underlying44 el_api_Digest 0 rfl (by (rfl)) (by omega) (by omega) ?_; intro o48 p48 ha48; ((subst ha48)))) | (refine wpl_at (.store 32 (.tmp 48) (.tmp 47)) rfl ?_; (refine L_storeRM rfl rfl hst rfl (by rfl) (ev_tmp rfl) (by (exact Dig.one _)) el_api_Digest (by (exact Dig.size _)) 0 rfl (by (omega)) ?_; clear hst; intro WS6 hst; simp only [List.set_cons_zero, List.set_cons_succ, HSET.out] at hst)))
    go_roundg b
    case measure => exact Nat.lt_succ_self b
    case rel =>
     refine ⟨own, A2, n2, c2, Lib.hid ⟨by omega, HU.out⟩, Lib.hid (fun V hV => HX2.out V (HO.out V hV)), by go_num, rfl, ?_⟩
     rw [HX0.out]
     exact hst
   ·obtain ⟨own, hown0⟩ : ∃ own, own = es'.take (cutI b es') := ⟨_, rfl⟩
    obtain ⟨oth, hoth0⟩ : ∃ oth, oth = es'.drop (cutI b es') := ⟨_, rfl⟩
    obtain ⟨u1, u2, u3, u4, u5, u6⟩ := hus own oth (by rw [if_neg hb1, hown0, hoth0])
    have HU := Lib.hid (And.intro u1 (And.intro u2 u3))
    have HRT := Lib.hid (HRT0 oth u4 u5 u6)
    have HB2 := Lib.hid (show k / 2 ^ b % 2 = 0 by omega)
    rw [← hown0, ← hoth0] at HH
    clear u1 u2 u3 u4 u5 u6 hus HRT0 hb1 hown0 hoth0 g1 g2 g3 hq1 hq2 hps hds e1 HG hk
    generalize mRoot f b (sibN b k) = rt at *
    generalize digsL (pthN f k (b + 1)) = x1 at *
    generalize hx00 : digsL (pthN f k b) = x0 at *
    have HX0 := Lib.hid hx00
    clear hx00
    generalize entL oth = eo at *
    generalize entL es' = e' at *
    go_wp2_with (first | (go_at_call 90; (try clear hnew); refine (HH.out _ (HO.out _ (hst.sl 1 rfl))).mono ?_; rintro e Wh ⟨A1, n1, c1, A2, n2, c2, rfl, hx1, hx2, hnew⟩; have HX1 := Lib.hid hx1; have HX2 := Lib.hid hx2; clear hx1 hx2; replace hst := hst.keep hnew; clear hnew) | (refine L_shrN (d := some 37) rfl rfl rfl (ev_tmp rfl) (ev_tmp rfl) (by omega) ?_) | (refine L_and1 (d := some 38) rfl rfl rfl (ev_tmp rfl) ev_const hq ?_; rw [HB2.out]) | (go_at_call 85; (try clear hnew); refine (HRT.out _ _ _ _ (HT.out.of hst) (HX2.out _ (HO.out _ (hst.sl 1 rfl)))).mono ?_; rintro e Wr ⟨rfl, hnew⟩; replace hst := hst.keep hnew) | ((refine L_idxO (d := some 48) rfl rfl hst rfl (by rfl) (by rfl) Tryz.underlying44 el_api_Digest 0 rfl (by (rfl)) (by omega) (by omega) ?_; intro o48 p48 ha48; ((subst ha48)))) | (refine wpl_at (.store 32 (.tmp 48) (.tmp 47)) rfl ?_; (refine L_storeRM rfl rfl hst rfl (by rfl) (ev_tmp rfl) (by (exact Dig.one _)) el_api_Digest (by (exact Dig.size _)) 0 rfl (by (omega)) ?_; clear hst; intro WS6 hst; simp only [List.set_cons_zero, List.set_cons_succ, HSET.out] at hst)))
    go_roundg b
    case measure => exact Nat.lt_succ_self b
    case rel =>
     refine ⟨own, A1, n1, c1, Lib.hid ⟨by omega, HU.out⟩, Lib.hid (fun V hV => HX1.out V (HO.out V hV)), by go_num, rfl, ?_⟩
     rw [HX0.out]
     exact hst
end Go.Proofs.YtaebeemnipafbaaGreatDoor

set_option maxRecDepth 20000
set_option linter.unusedSimpArgs false
set_option linter.unusedVariables false
namespace Go.Proofs.YtaebeemnipafbaaGreatDoor
open Go.RowKit
theorem St.swap {w0 W : World} {X Y L : List Res} (h : St w0 W (X ++ (Y ++ L))) : St w0 W (Y ++ (X ++ L)) :=
 h.perm (by
  rw [← List.append_assoc, ← List.append_assoc]
  exact (List.perm_append_comm).append_right L)
theorem hdArr_putMap (n : Int) (x y z d : Dig) : putAt (hdArr n x y z) 33 d.arr.toList = hdArr n x d z :=
 put_part (cs := hdArr n x y z) (ds := hdArr n x d z) (.int .i64 n :: x.arr.toList) y.arr.toList d.arr.toList z.arr.toList (by rw [hdArr_list]; simp) (by rw [hdArr_list]; simp) (by rw [dig_len, dig_len]) (by simp [Dig.size])
section
variable {ops : Array Oper} {rest : List Oper} {o : Oper} {a : Act} {W : World} {Q : Exit → Act → World → Prop} {d : Option Tmp}
theorem L_buildHd (hd : o.dst = d) (hw : Region.wanted o (yielded ops a.tmps) = true) {x : Operand} (ho : o.op = .build 41 #[(0, x)]) {n : Int} (hx : a.eval x = .int .i64 n)
  (h : wpList Tryz.prog ops Q rest (a.put d (.agg (hdArr n zeroD zeroD zeroD))) W) : wpList Tryz.prog ops Q (o :: rest) a W :=
 L_buildT hd hw ho Tryz.underlying41 el_api_Head [(0, 1), (1, 32), (33, 32), (65, 32)] (by kernel_rfl) (ps := [(0, .int .i64 n)]) (by simp [hx]) (qs := [(0, [.int .i64 n])])
  ⟨rfl, rfl, by simp [hdArr_size], trivial⟩
  (put_part (cs := hdArr 0 zeroD zeroD zeroD) (ds := hdArr n zeroD zeroD zeroD) [] [.int .i64 0] [.int .i64 n] (zeroD.arr.toList ++ (zeroD.arr.toList ++ zeroD.arr.toList)) rfl rfl rfl rfl) h
end
def headR (key : List UInt8) (ns : List NoteN) : Dig := tagN key (ns.length : Int) (rootN (lvN ns)) (mapN ns)
def headA (key : List UInt8) (ns : List NoteN) : Array Value := hdArr (ns.length : Int) (rootN (lvN ns)) (mapN ns) (headR key ns)
attribute [local simp] hdArr_size
set_option maxHeartbeats 8000000 in
set_option maxRecDepth 100000 in
theorem head_any (key : List UInt8) (ns : List NoteN) (p : LgP) (w0 w : World) (L : List Res) (hT : Tb w0) (hst : St w0 w (lgL p key ns ++ L)) (hm : MapsOf ns p.nm p.am) (hl : Logged ns) (hpm : p.m ≤ 140737488355000) :
  Calls Tryz.prog 12 #[.pointer (some ⟨p.g, 0, none⟩)] w fun e w' => e = .returned (.agg (headA key ns)) ∧ St w0 w' (lgL p key ns ++ L) := by
 have HT := Lib.hid hT
 have hn := hl.len
 have HE := Lib.hid (fun (w' : World) (X : List Res) (h : St w0 w' (X ++ (lgL p key ns ++ L))) => entries_any key ns p w0 w' (X ++ L) (St.swap h) hm hl)
 have HRt := Lib.hid (fun (es : List (Nat × Dig)) (O : Option Addr) (oc : Nat) (w' : World) (ht : Tb w') (h1 : es.length ≤ 64) (h2 : ∀ e ∈ es, e.1 < 4294967296) (h3 : (es.map (·.1)).Nodup) (h4 : leafAt es = lgF ns) (h : SlR w' O es.length oc 33 (entL es)) => by
  have := tRootM_any es O es.length oc w' ht h h1 h2 h3
  rw [h4] at this
  exact this)
 have HTg := Lib.hid (show headR key ns = tagN key (ns.length : Int) (rootN (lvN ns)) (mapN ns) from rfl)
 have HMp := Lib.hid (show mRoot (lgF ns) 32 0 = mapN ns from rfl)
 rw [HMp.out] at HRt
 unfold headA
 have HP := Lib.hid (show ∀ (X : List Res) (w' : World), St w0 w' (lgL p key ns ++ (X ++ L)) → St w0 w' (X ++ (lgL p key ns ++ L)) from fun X w' h => St.swap h)
 obtain ⟨g, m, c, lc, Mn, Ma, A, O0, nm, am⟩ := p
 simp only at *
 have hst0 := hst
 simp only [lgL, List.cons_append, List.nil_append] at hst
 have HTt := Lib.hid (fun (w' : World) (x y : Dig) (ht : Tb w') (hk : SlR w' A m c 1 (bytesL key)) => tag_any key A m c (ns.length : Int) x y zeroD w' (by omega) (by omega) ht hk hpm)
 generalize headR key ns = tg at *
 generalize mapN ns = mp at *
 clear hT hm hl hst0 hpm
 go_enter Tryz.func12, Tryz.ntmps12
 go_upto_region 1 with (go_big_may; (refine L_allocA (d := some 2) rfl rfl rfl el_api_Head ?_; (try clear hnew); intro g2 W2 hnew; replace hst := hst.trans hnew; simp only [List.cons_append, List.nil_append] at hst))
 go_upto_region 2 with (go_big_may; first | (refine L_buildHd (d := some 9) rfl rfl rfl (ev_tmp rfl) ?_) | (refine L_load1 (d := some 7) rfl rfl rfl (by rfl) Tryz.underlying44 rfl (by (exact cell_of (hst.get 1 rfl) lgArr_1)) ?_) | (refine L_allocA (d := some 3) rfl rfl rfl el_api_Head ?_; (try clear hnew); intro g3 W3 hnew; replace hst := hst.trans hnew; simp only [List.cons_append, List.nil_append] at hst) | (refine wpl_at (.store 41 (.tmp 3) (.tmp 9)) rfl ?_; (refine L_storeA rfl rfl hst rfl (by rfl) (ev_tmp rfl) (by (exact hdArr_all _ _ _ _)) el_api_Head (by (rfl)) 0 rfl (by (rfl)) ?_; clear hst; intro WS7 hst; simp only [List.set_cons_zero, List.set_cons_succ, hdArr_putRoot _ _ _ _ _] at hst)))
 go_upto_region 3 with (go_big_may; first | (go_at_call 38; (try clear hnew); refine (tRoot_any (lvN ns) _ _ _ _ (HT.out.of hst) (by (exact hst.sl 4 rfl)) hn).mono ?_; rintro e Wk1 ⟨rfl, hnew⟩; replace hst := hst.keep hnew) | (refine L_load1 (d := some 14) rfl rfl rfl (by rfl) Tryz.underlying44 rfl (by (exact cell_of (hst.get 2 rfl) lgArr_1)) ?_) | (refine wpl_at (.store 32 (.tmp 18) (.tmp 16)) rfl ?_; (refine L_storeM rfl rfl hst rfl (by rfl) (ev_tmp rfl) (by (exact Dig.one _)) el_api_Digest (by (exact Dig.size _)) 0 rfl (by (exact of_decide_eq_true rfl)) ?_; clear hst; intro WS9 hst; simp only [List.set_cons_zero, List.set_cons_succ, hdArr_putRoot _ _ _ _ _] at hst)))
 go_upto_region 4 with (go_big_may; first | (go_at_call 40; refine (HE.out _ [_, _] hst).mono ?_; rintro e We ⟨es, Oe, oe, rfl, h1, h2, h3, h4, hst'⟩; clear hst; have hst := hst'; clear hst'; have H1 := Lib.hid h1; have H2 := Lib.hid h2; have H3 := Lib.hid h3; have H4 := Lib.hid h4; clear h1 h2 h3 h4; simp only [lgL, List.cons_append, List.nil_append] at hst) | (go_at_call 39; (try clear hnew); refine (HRt.out es _ _ _ (HT.out.of hst) H1.out H2.out H3.out H4.out (hst.sl 0 rfl)).mono ?_; rintro e Wk2 ⟨rfl, hnew⟩; replace hst := hst.keep hnew) | (refine wpl_at (.store 32 (.tmp 25) (.tmp 23)) rfl ?_; (refine L_storeM rfl rfl hst rfl (by rfl) (ev_tmp rfl) (by (exact Dig.one _)) el_api_Digest (by (exact Dig.size _)) 6 rfl (by (simp; done)) ?_; clear hst; intro WS7 hst; simp only [List.set_cons_zero, List.set_cons_succ, hdArr_putMap _ _ _ _ _] at hst)))
 refine wp_region_idx [(0, 0), (1, 0), (2, 0), (3, 0), (4, 2), (5, 2), (6, 2), (7, 1)] (by kernel_rfl) (by kernel_rfl) ?_
 replace hst := hst.drew
 refine idx_q rfl rfl ?_; go_wp2_with fail
 refine idx_q rfl rfl ?_; go_wp2_with fail
 refine idx_qf rfl rfl (by kernel_rfl) ?_; go_wp2_with fail
 refine idx_q rfl rfl ?_; go_wp2_with ((refine L_load1 (d := some 29) rfl rfl rfl (by rfl) Tryz.underlying22 rfl (by (exact cell_of (hst.get 1 rfl) lgArr_0)) ?_))
 refine idx_g rfl ?_; go_wp2_with (((refine L_loadA (d := some 30) rfl rfl rfl (by rfl) Tryz.underlying41 rfl el_api_Head (by (exact hst.get 6 rfl)) (by (exact hdArr_size _ _ _ _)) ?_))); refine ⟨by (exact Below.refl _ _), ?_⟩
 refine idx_g rfl ?_; go_wp2_with ((go_at_call 24; (try clear hnew); refine (HTt.out _ _ _ (HT.out.of hst) (hst.sl 2 rfl)).mono ?_; rintro e Wk3 ⟨rfl, hnew⟩; replace hst := hst.keep hnew)); refine ⟨by (exact hnew.below), ?_⟩
 refine idx_g rfl ?_; go_wp2_with fail; refine ⟨by (exact Below.refl _ _), ?_⟩
 refine idx_e rfl ?_; go_wp2_with ((refine wpl_at (.store 32 (.tmp 32) (.tmp 31)) rfl ?_; (refine L_storeM rfl rfl hst rfl (by rfl) (ev_tmp rfl) (by (exact Dig.one _)) el_api_Digest (by (rfl)) 6 rfl (by (simp; done)) ?_; clear hst; intro WS7 hst; simp only [List.set_cons_zero, List.set_cons_succ, hdArr_putTag _ _ _ _ _] at hst)))
 refine idx_nil ?_
 go_wp2_with (first | ((refine L_loadA (d := some 33) rfl rfl rfl (by rfl) Tryz.underlying41 rfl el_api_Head (by (exact hst.get 6 rfl)) (by (exact hdArr_size _ _ _ _)) ?_)) | (refine wpl_at (.store 41 (.tmp 2) (.tmp 33)) rfl ?_; (refine L_storeA rfl rfl hst rfl (by rfl) (ev_tmp rfl) (by (exact hdArr_all _ _ _ _)) el_api_Head (by (exact hdArr_size _ _ _ _)) 7 rfl (by (rfl)) ?_; clear hst; intro WS1 hst; simp only [List.set_cons_zero, List.set_cons_succ] at hst)))
 refine bp_cell rfl rfl rfl (hst.get 7 rfl) Tryz.underlying41 rfl el_api_Head (by (simp; done)) ?_
 rw [HTg.out]
 simp only [lgL, List.cons_append, List.nil_append]
 exact ⟨trivial, hst.drop (.cons _ (.cons_cons _ (.cons_cons _ (.cons_cons _ (.cons_cons _ (.cons_cons _ (.cons _ (.cons _ (List.Sublist.refl L)))))))))⟩
def sinceA (ns : List NoteN) (m : Int) : Option (List Dig) := if 256 < ns.length then none else if m < 1 ∨ (ns.length : Int) < m then none else some (gpN (lvN ns) m.toNat true)
theorem since_any (key : List UInt8) (ns : List NoteN) (p : LgP) (m : Int) (w0 w : World) (L : List Res) (hT : Tb w0) (hst : St w0 w (lgL p key ns ++ L)) (hl : Logged ns) (h1 : 1 ≤ m) (h2 : m ≤ (ns.length : Int)) :
  Calls Tryz.prog 19 #[.pointer (some ⟨p.g, 0, none⟩), .int .i64 m] w fun e w' => ∃ O oc, e = .returned (.tuple #[.slice O (plN ns.length m.toNat true) oc, .nilIface]) ∧
   St w0 w' (.row O (plN ns.length m.toNat true) oc 32 32 (digsL (gpN (lvN ns) m.toNat true)) :: (lgL p key ns ++ L)) := by
 have hn := hl.len
 obtain ⟨k, rfl⟩ := Int.eq_ofNat_of_zero_le (show 0 ≤ m by omega)
 rw [Int.toNat_natCast]
 obtain ⟨g, mm, c, lc, Mn, Ma, A, O0, nm, am⟩ := p
 have hst0 := hst
 simp only [lgL, List.cons_append, List.nil_append] at hst
 have HP := Lib.hid (gProof_any (lvN ns) O0 ns.length lc k w (hT.of hst) (hst.sl 2 rfl) (by omega) (by omega) hn)
 go_enter Tryz.func19, Tryz.ntmps19
 go_wp2_with (first | (go_at_call 51; refine HP.out.mono ?_; rintro e W21 ⟨O, oc, rfl, hnew⟩; replace hst := hst0.trans hnew) | (refine L_load1 (d := some 9) rfl rfl rfl (by rfl) Tryz.underlying44 rfl (by (exact cell_of (hst.get 0 rfl) lgArr_1)) ?_))
 exact bp_two rfl rfl rfl rfl ⟨_, _, rfl, hst⟩
theorem since_no (key : List UInt8) (ns : List NoteN) (p : LgP) (m : Int) (w0 w : World) (L : List Res) (hst : St w0 w (lgL p key ns ++ L)) (hl : Logged ns) (hi : m < 1 ∨ (ns.length : Int) < m) :
  Calls Tryz.prog 19 #[.pointer (some ⟨p.g, 0, none⟩), .int .i64 m] w fun e w' => e = .returned (.tuple #[.slice none 0 0, errV 2]) ∧ St w0 w' (lgL p key ns ++ L) := by
 have hn := hl.len
 obtain ⟨g, mm, c, lc, Mn, Ma, A, O0, nm, am⟩ := p
 have hst0 := hst
 simp only [lgL, List.cons_append, List.nil_append] at hst
 have HP := Lib.hid (gProof_range O0 ns.length lc m w hn hi)
 go_enter Tryz.func19, Tryz.ntmps19
 go_wp2_with (first | (go_at_call 51; refine HP.out.mono ?_; rintro e W21 ⟨rfl, hnew⟩; replace hst := hst0.keep hnew) | (refine L_load1 (d := some 9) rfl rfl rfl (by rfl) Tryz.underlying44 rfl (by (exact cell_of (hst.get 0 rfl) lgArr_1)) ?_))
 exact bp_two rfl rfl rfl rfl ⟨rfl, hst⟩
end Go.Proofs.YtaebeemnipafbaaGreatDoor

set_option maxRecDepth 20000
set_option linter.unusedSimpArgs false
set_option linter.unusedVariables false
namespace Go.Proofs.YtaebeemnipafbaaGreatDoor
open Go.RowKit
theorem find_no (key : List UInt8) (ns : List NoteN) (s : List UInt8) (p : LgP) (w0 w : World) (L : List Res) (hst : St w0 w (lgL p key ns ++ L)) (hs : isNm s = false) :
  Calls Tryz.prog 15 #[.pointer (some ⟨p.g, 0, none⟩), .string (bsOf s)] w fun e w' => e = .returned (.tuple #[.agg (fdArr [] zeroD 0 0 none 0 0 none 0 0), errV 1]) ∧ St w0 w' (lgL p key ns ++ L) := by
 have HN := Lib.hid (fun w => by have := named_any s w; rw [hs] at this; exact this)
 generalize lgL p key ns ++ L = L0 at *
 clear hs
 go_enter Tryz.func15, Tryz.ntmps15
 go_upto_region 1 with (go_big_may; (refine L_allocA (d := some 4) rfl rfl rfl el_api_Found ?_; (try clear hnew); intro g4 W4 hnew; replace hst := hst.trans hnew; simp only [List.cons_append, List.nil_append] at hst))
 go_upto_region 2 with (go_big_may; (go_at_call 34; (try clear hnew); refine (HN.out _).mono ?_; rintro e Wk1 ⟨rfl, hnew⟩; replace hst := hst.keep hnew))
 go_wp2_with (first | (refine L_buildFz (d := some 12) rfl rfl rfl ?_) | (refine wpl_at (.store 46 (.tmp 4) (.tmp 12)) rfl ?_; (refine L_storeA rfl rfl hst rfl (by rfl) (ev_tmp rfl) (by (exact fdArr_all _ _ _ _ _ _ _ _ _ _)) el_api_Found (by (rfl)) 0 rfl (by (rfl)) ?_; clear hst; intro WS2 hst; simp only [List.set_cons_zero, List.set_cons_succ] at hst)))
 refine bp_cell_tmp rfl rfl rfl rfl (hst.get 0 rfl) Tryz.underlying46 rfl el_api_Found (by (rfl)) ?_
 exact ⟨rfl, hst.tail⟩
def FindEnd (key : List UInt8) (ns : List NoteN) (s : List UInt8) (p : LgP) (w0 : World) (L : List Res) : Ending → World → Prop := fun e w' =>
 ∃ A c B q, e = .returned (.tuple #[.agg (fdArr (findN ns s).note.name (findN ns s).note.key (findN ns s).note.turn (findN ns s).at_ A (findN ns s).path.length c B (findN ns s).mpath.length q), .nilIface]) ∧
  St w0 w' (.row A (findN ns s).path.length c 32 32 (digsL (findN ns s).path) :: .row B (findN ns s).mpath.length q 32 32 (digsL (findN ns s).mpath) :: (lgL p key ns ++ L))
set_option maxHeartbeats 8000000 in
set_option maxRecDepth 100000 in
theorem find_none (key : List UInt8) (ns : List NoteN) (s : List UInt8) (p : LgP) (w0 w : World) (L : List Res) (hT : Tb w0) (hst : St w0 w (lgL p key ns ++ L)) (hm : MapsOf ns p.nm p.am) (hl : Logged ns) (hs : isNm s = true) (hi : lastI ns s = none) :
  Calls Tryz.prog 15 #[.pointer (some ⟨p.g, 0, none⟩), .string (bsOf s)] w (FindEnd key ns s p w0 L) := by
 have HT := Lib.hid hT
 have HF := Lib.hid (show findN ns s = ⟨zeroNt, 0, [], mPath (lgF ns) (idxN s) 32⟩ by unfold findN; rw [if_pos hs, hi])
 have HN := Lib.hid (fun w => by have := named_any s w; rw [hs] at this; exact this)
 have HI := Lib.hid (fun (w' : World) (h : Tb w') => index_any s w' h (by have := isNm_len hs; omega))
 have HE := Lib.hid (fun (w' : World) (X : List Res) (h : St w0 w' (X ++ (lgL p key ns ++ L))) => entries_any key ns p w0 w' (X ++ L) (St.swap h) hm hl)
 have HPt := Lib.hid (fun (es : List (Nat × Dig)) (O : Option Addr) (oc : Nat) (w' : World) (ht : Tb w') (h1 : es.length ≤ 64) (h2 : ∀ e ∈ es, e.1 < 4294967296) (h3 : (es.map (·.1)).Nodup) (h4 : leafAt es = lgF ns) (h : SlR w' O es.length oc 33 (entL es)) => by
  have := tPathM_any es O es.length oc (idxN s) w' ht h h1 h2 h3 (idxN_lt s)
  rw [h4] at this
  exact this)
 have HO := Lib.hid hm.ksO
 have HD := Lib.hid hm.nd
 have HS := Lib.hid (sV_ok hs)
 have HL := Lib.hid (show lookA s p.nm = none by rw [hm.look, atName, hi]; rfl)
 have HML := Lib.hid (length_mPath (lgF ns) (idxN s) 32)
 unfold FindEnd
 rw [HF.out]
 simp only [HML.out, List.length_nil]
 generalize mPath (lgF ns) (idxN s) 32 = mp at *
 generalize idxN s = ix at *
 obtain ⟨g, m, c, lc, Mn, Ma, A, O0, nm, am⟩ := p
 simp only at *
 have hst0 := hst
 simp only [lgL, List.cons_append, List.nil_append] at hst
 clear hT hm hl hst0 hs hi
 go_enter Tryz.func15, Tryz.ntmps15
 go_upto_region 1 with (go_big_may; (refine L_allocA (d := some 4) rfl rfl rfl el_api_Found ?_; (try clear hnew); intro g4 W4 hnew; replace hst := hst.trans hnew; simp only [List.cons_append, List.nil_append] at hst))
 go_upto_region 3 with (go_big_may; (go_at_call 34; (try clear hnew); refine (HN.out _).mono ?_; rintro e Wk2 ⟨rfl, hnew⟩; replace hst := hst.keep hnew))
 go_upto_region 4 with (go_big_may; (refine L_allocA (d := some 6) rfl rfl rfl el_api_Found ?_; (try clear hnew); intro g6 W6 hnew; replace hst := hst.trans hnew; simp only [List.cons_append, List.nil_append] at hst))
 go_upto_region 5 with (go_big_may; first | (go_at_call 35; (try clear hnew); refine (HI.out _ (HT.out.of hst)).mono ?_; rintro e Wk3 ⟨rfl, hnew⟩; replace hst := hst.keep hnew) | (go_at_call 40; refine (HE.out _ [_, _] hst).mono ?_; rintro e We ⟨es, Oe, oe, rfl, h1, h2, h3, h4, hst'⟩; clear hst; have hst := hst'; clear hst'; have H1 := Lib.hid h1; have H2 := Lib.hid h2; have H3 := Lib.hid h3; have H4 := Lib.hid h4; clear h1 h2 h3 h4; simp only [lgL, List.cons_append, List.nil_append] at hst) | (go_at_call 46; (try clear hnew); refine (HPt.out es _ _ _ (HT.out.of hst) H1.out H2.out H3.out H4.out (hst.sl 0 rfl)).mono ?_; rintro e Wp ⟨Op, op, rfl, hnew⟩; replace hst := hst.trans hnew; clear hnew; simp only [List.cons_append, List.nil_append] at hst) | (refine wpl_at (.store 44 (.tmp 22) (.tmp 20)) rfl ?_; (refine L_store1 rfl rfl hst rfl (by rfl) (ev_tmp rfl) rfl el_S_api_Digest 7 rfl (by (exact of_decide_eq_true rfl)) ?_; clear hst; intro WS9 hst; simp only [List.set_cons_zero, List.set_cons_succ, fdArr_put36 _ _ _] at hst)))
 go_upto_region 6 with (go_big_may; first | (refine L_look2n (fk := sV) (fv := lsV) (y := s) (l := nm) (d := some 29) rfl rfl rfl keyed_str Tryz.underlying77 el_log_last (ev_tmp rfl) (ev_tmp rfl) sV_inj HO.out HD.out HS.out (hst.obj 5 rfl) HL.out ?_) | (refine L_load1 (d := some 27) rfl rfl rfl (by rfl) Tryz.underlying77 rfl (by (exact cell_of (hst.get 2 rfl) lgArr_2)) ?_) | (refine L_allocA (d := some 7) rfl rfl rfl el_log_last ?_; (try clear hnew); intro g7 W7 hnew; replace hst := hst.trans hnew; simp only [List.cons_append, List.nil_append] at hst) | (refine wpl_at (.store 85 (.tmp 7) (.tmp 30)) rfl ?_; (refine L_storeA rfl rfl hst rfl (by rfl) (ev_tmp rfl) (by (exact lsArr_all _ _ _ _ _)) el_log_last (by (rfl)) 0 rfl (by (rfl)) ?_; clear hst; intro WS10 hst; simp only [List.set_cons_zero, List.set_cons_succ] at hst)))
 go_upto_region 9 with (go_big_may; fail)
 go_wp2_with (first | ((refine L_loadA (d := some 50) rfl rfl rfl (by rfl) Tryz.underlying46 rfl el_api_Found (by (exact hst.get 8 rfl)) (by (exact fdArr_size _ _ _ _ _ _ _ _ _ _)) ?_)) | (refine wpl_at (.store 46 (.tmp 4) (.tmp 50)) rfl ?_; (refine L_storeA rfl rfl hst rfl (by rfl) (ev_tmp rfl) (by (exact fdArr_all _ _ _ _ _ _ _ _ _ _)) el_api_Found (by (rfl)) 9 rfl (by (rfl)) ?_; clear hst; intro WS1 hst; simp only [List.set_cons_zero, List.set_cons_succ] at hst)))
 refine bp_cell_tmp rfl rfl rfl rfl (hst.get 9 rfl) Tryz.underlying46 rfl el_api_Found (by (rfl)) ?_
 refine ⟨none, 0, Op, op, rfl, ?_⟩
 simp only [lgL, List.cons_append, List.nil_append]
 exact (hst.drop (.cons _ (.cons_cons _ (.cons _ (.cons_cons _ (.cons_cons _ (.cons_cons _ (.cons_cons _ (.cons_cons _ (.cons _ (.cons _ (List.Sublist.refl L))))))))))) : St w0 _ (_ :: (_ :: _ :: _ :: _ :: _ :: L))).nilRow 32 32
set_option maxHeartbeats 8000000 in
set_option maxRecDepth 100000 in
theorem find_has (key : List UInt8) (ns : List NoteN) (s : List UInt8) (p : LgP) (w0 w : World) (L : List Res) (hT : Tb w0) (hst : St w0 w (lgL p key ns ++ L)) (hm : MapsOf ns p.nm p.am) (hl : Logged ns) (hs : isNm s = true) (i : Nat) (hi : lastI ns s = some i) :
  Calls Tryz.prog 15 #[.pointer (some ⟨p.g, 0, none⟩), .string (bsOf s)] w (FindEnd key ns s p w0 L) := by
 have HT := Lib.hid hT
 obtain ⟨nt, h1, h2⟩ := lastI_some hi
 have hn := hl.len
 have hin := lastI_lt hi
 have hpl : (pathN (lvN ns) i).length = longN i ns.length := length_pathN _ _ _ (length_lvN ns)
 have HTP := Lib.hid (fun (w' : World) (O : Option Addr) (c : Nat) (ht : Tb w') (hx : SlR w' O ns.length c 32 (digsL (lvN ns))) => by
  have := tPath_any (lvN ns) O ns.length c i w' ht hx hn hin
  rw [← hpl] at this
  exact this)
 have HF := Lib.hid (show findN ns s = ⟨nt, (i : Int), pathN (lvN ns) i, mPath (lgF ns) (idxN s) 32⟩ by unfold findN; rw [if_pos hs, hi]; simp only [h1, Option.getD_some])
 have HN := Lib.hid (fun w => by have := named_any s w; rw [hs] at this; exact this)
 have HI := Lib.hid (fun (w' : World) (h : Tb w') => index_any s w' h (by have := isNm_len hs; omega))
 have HE := Lib.hid (fun (w' : World) (X : List Res) (h : St w0 w' (X ++ (lgL p key ns ++ L))) => entries_any key ns p w0 w' (X ++ L) (St.swap h) hm hl)
 have HPt := Lib.hid (fun (es : List (Nat × Dig)) (O : Option Addr) (oc : Nat) (w' : World) (ht : Tb w') (h1 : es.length ≤ 64) (h2 : ∀ e ∈ es, e.1 < 4294967296) (h3 : (es.map (·.1)).Nodup) (h4 : leafAt es = lgF ns) (h : SlR w' O es.length oc 33 (entL es)) => by
  have := tPathM_any es O es.length oc (idxN s) w' ht h h1 h2 h3 (idxN_lt s)
  rw [h4] at this
  exact this)
 have HO := Lib.hid hm.ksO
 have HD := Lib.hid hm.nd
 have HS := Lib.hid (sV_ok hs)
 have HL := Lib.hid (show lookA s p.nm = some (nt, i, ntLeaf nt) by rw [hm.look, atName, hi]; simp only [Option.bind_some, h1, Option.map_some])
 have HML := Lib.hid (length_mPath (lgF ns) (idxN s) 32)
 unfold FindEnd
 rw [HF.out]
 simp only [HML.out]
 generalize mPath (lgF ns) (idxN s) 32 = mp at *
 generalize idxN s = ix at *
 generalize pathN (lvN ns) i = tp at *
 generalize ntLeaf nt = df at *
 obtain ⟨a1, a2, a3⟩ := nt
 obtain ⟨g, m, c, lc, Mn, Ma, A, O0, nm, am⟩ := p
 simp only at *
 have hst0 := hst
 simp only [lgL, List.cons_append, List.nil_append] at hst
 clear hT hm hl hst0 hs hi h1 h2 hin hpl hn
 go_enter Tryz.func15, Tryz.ntmps15
 go_upto_region 1 with (go_big_may; (refine L_allocA (d := some 4) rfl rfl rfl el_api_Found ?_; (try clear hnew); intro g4 W4 hnew; replace hst := hst.trans hnew; simp only [List.cons_append, List.nil_append] at hst))
 go_upto_region 3 with (go_big_may; (go_at_call 34; (try clear hnew); refine (HN.out _).mono ?_; rintro e Wk4 ⟨rfl, hnew⟩; replace hst := hst.keep hnew))
 go_upto_region 4 with (go_big_may; (refine L_allocA (d := some 6) rfl rfl rfl el_api_Found ?_; (try clear hnew); intro g6 W6 hnew; replace hst := hst.trans hnew; simp only [List.cons_append, List.nil_append] at hst))
 go_upto_region 5 with (go_big_may; first | (go_at_call 35; (try clear hnew); refine (HI.out _ (HT.out.of hst)).mono ?_; rintro e Wk5 ⟨rfl, hnew⟩; replace hst := hst.keep hnew) | (go_at_call 40; refine (HE.out _ [_, _] hst).mono ?_; rintro e We ⟨es, Oe, oe, rfl, h1, h2, h3, h4, hst'⟩; clear hst; have hst := hst'; clear hst'; have H1 := Lib.hid h1; have H2 := Lib.hid h2; have H3 := Lib.hid h3; have H4 := Lib.hid h4; clear h1 h2 h3 h4; simp only [lgL, List.cons_append, List.nil_append] at hst) | (go_at_call 46; (try clear hnew); refine (HPt.out es _ _ _ (HT.out.of hst) H1.out H2.out H3.out H4.out (hst.sl 0 rfl)).mono ?_; rintro e Wp ⟨Op, op, rfl, hnew⟩; replace hst := hst.trans hnew; clear hnew; simp only [List.cons_append, List.nil_append] at hst) | (refine wpl_at (.store 44 (.tmp 22) (.tmp 20)) rfl ?_; (refine L_store1 rfl rfl hst rfl (by rfl) (ev_tmp rfl) rfl el_S_api_Digest 7 rfl (by (exact of_decide_eq_true rfl)) ?_; clear hst; intro WS9 hst; simp only [List.set_cons_zero, List.set_cons_succ, fdArr_put36 _ _ _] at hst)))
 go_upto_region 6 with (go_big_may; first | (refine L_look2s (fk := sV) (fv := lsV) (y := s) (l := nm) (d := some 29) rfl rfl rfl keyed_str Tryz.underlying77 el_log_last (ev_tmp rfl) (ev_tmp rfl) sV_inj HO.out HD.out HS.out (hst.obj 5 rfl) HL.out ?_) | (refine L_load1 (d := some 27) rfl rfl rfl (by rfl) Tryz.underlying77 rfl (by (exact cell_of (hst.get 2 rfl) lgArr_2)) ?_) | (refine L_allocA (d := some 7) rfl rfl rfl el_log_last ?_; (try clear hnew); intro g7 W7 hnew; replace hst := hst.trans hnew; simp only [List.cons_append, List.nil_append] at hst) | (refine wpl_at (.store 85 (.tmp 7) (.tmp 30)) rfl ?_; (refine L_storeA rfl rfl hst rfl (by rfl) (ev_tmp rfl) (by (exact lsArr_all _ _ _ _ _)) el_log_last (by (exact lsArr_size _ _ _ _ _)) 0 rfl (by (rfl)) ?_; clear hst; intro WS10 hst; simp only [List.set_cons_zero, List.set_cons_succ] at hst)))
 go_upto_region 7 with (go_big_may; fail)
 clear hnew
 refine wp_region_pm (.one 0 3 (.one 2 3 (.one 1 0 (.one 4 3 (.two 3 2 (.one 5 1 (.one 6 2 (.one 7 1 .nil))) 5 1 (.one 3 2 (.one 6 2 (.one 7 1 .nil)))))))) (by kernel_rfl) (by kernel_rfl) ?_
 replace hst := hst.drew
 refine pm_pv rfl (pureV_fieldAddr rfl (by rfl) Tryz.underlying85 rfl (by kernel_rfl)) ?_; go_wp2_with fail
 refine pm_pv rfl (pureV_fieldAddr rfl (by rfl) Tryz.underlying85 rfl (by kernel_rfl)) ?_; go_wp2_with fail
 refine pm_q rfl rfl ?_; go_wp2_with (((refine L_loadM (d := some 34) rfl rfl rfl (by rfl) Tryz.underlying34 rfl el_api_Note (by (exact lsArr_note (hst.get 0 rfl))) (by (exact ntArr_size _ _ _)) ?_)))
 refine pm_pv rfl (pureV_fieldAddr rfl (by rfl) Tryz.underlying46 rfl (by kernel_rfl)) ?_; go_wp2_with fail
 refine pm_two (ki := 2) (kj := 1) rfl rfl ?_ ?_
 ·go_wp2_with ((refine L_load1 (d := some 36) rfl rfl rfl (by rfl) Tryz.underlying3 rfl (by (exact cell_of (hst.get 0 rfl) lsArr_34)) ?_)); refine ⟨fun _ => (by (exact Below.refl _ _)), ?_⟩
  refine pm_e rfl ?_; go_wp2_with ((refine wpl_at (.store 34 (.tmp 37) (.tmp 34)) rfl ?_; (refine L_storeM rfl rfl hst rfl (by rfl) (ev_tmp rfl) (by (exact ntArr_all _ _ _)) el_api_Note (by (exact ntArr_size _ _ _)) 8 rfl (by (exact of_decide_eq_true rfl)) ?_; clear hst; intro WS5 hst; simp only [List.set_cons_zero, List.set_cons_succ, fdArr_put34 _, fdArr_putNote _ _ _] at hst)))
  refine pm_g rfl ?_; go_wp2_with fail; refine ⟨by (exact Below.refl _ _), ?_⟩
  refine pm_e rfl ?_; go_wp2_with ((refine wpl_at (.store 3 (.tmp 38) (.tmp 36)) rfl ?_; (refine L_store1 rfl rfl hst rfl (by rfl) (ev_tmp rfl) rfl el_int 8 rfl (by (rw [fdArr_size _ _ _ _ _ _ _ _ _ _]; decide)) ?_; clear hst; intro WS7 hst; simp only [List.set_cons_zero, List.set_cons_succ, fdArr_put34 _, fdArr_putNote _ _ _] at hst)))
  refine pm_nil ?_
  go_upto_region 8 with fail
  refine wp_region_pm (.one 0 3 (.one 4 3 (.one 1 0 (.one 2 3 (.one 3 0 (.one 5 2 (.one 6 2 (.one 7 2 (.one 8 3 (.one 9 3 (.one 10 2 (.one 11 1 .nil)))))))))))) (by kernel_rfl) (by kernel_rfl) ?_
  replace hst := hst.drew
  refine pm_p rfl rfl ?_; go_wp2_with fail
  refine pm_pv rfl (pureV_fieldAddr rfl (by rfl) Tryz.underlying85 rfl (by kernel_rfl)) ?_; go_wp2_with fail
  refine pm_q rfl rfl ?_; go_wp2_with fail
  refine pm_pv rfl (pureV_fieldAddr rfl (by rfl) Tryz.underlying80 rfl (by kernel_rfl)) ?_; go_wp2_with fail
  refine pm_q rfl rfl ?_; go_wp2_with ((refine L_load1 (d := some 43) rfl rfl rfl (by rfl) Tryz.underlying44 rfl (by (exact cell_of (hst.get 3 rfl) lgArr_1)) ?_))
  refine pm_g rfl ?_; go_wp2_with ((refine L_load1 (d := some 45) rfl rfl rfl (by rfl) Tryz.underlying3 rfl (by (exact cell_of (hst.get 0 rfl) lsArr_34)) ?_)); refine ⟨by (exact Below.refl _ _), ?_⟩
  refine pm_g rfl ?_; go_wp2_with ((go_at_call 47; (try clear hnew); refine (HTP.out _ _ _ (HT.out.of hst) (hst.sl 5 rfl)).mono ?_; rintro e Wq ⟨Oq, oq, rfl, hnew⟩; replace hst := hst.trans hnew; simp only [List.cons_append, List.nil_append] at hst)); refine ⟨by (exact hnew.below), ?_⟩
  refine pm_g rfl ?_; go_wp2_with fail; refine ⟨by (exact Below.refl _ _), ?_⟩
  refine pm_p rfl rfl ?_; go_wp2_with fail
  refine pm_p rfl rfl ?_; go_wp2_with fail
  refine pm_g rfl ?_; go_wp2_with fail; refine ⟨by (exact Below.refl _ _), ?_⟩
  refine pm_e rfl ?_; go_wp2_with ((refine wpl_at (.store 44 (.tmp 49) (.tmp 47)) rfl ?_; (refine L_store1 rfl rfl hst rfl (by rfl) (ev_tmp rfl) rfl el_S_api_Digest 9 rfl (by (rw [fdArr_size _ _ _ _ _ _ _ _ _ _]; decide)) ?_; clear hst; intro WS11 hst; simp only [List.set_cons_zero, List.set_cons_succ, fdArr_put35 _ _ _] at hst)))
  refine pm_nil ?_
  go_wp2_with (first | ((refine L_loadA (d := some 50) rfl rfl rfl (by rfl) Tryz.underlying46 rfl el_api_Found (by (exact hst.get 9 rfl)) (by (exact fdArr_size _ _ _ _ _ _ _ _ _ _)) ?_)) | (refine wpl_at (.store 46 (.tmp 4) (.tmp 50)) rfl ?_; (refine L_storeA rfl rfl hst rfl (by rfl) (ev_tmp rfl) (by (exact fdArr_all _ _ _ _ _ _ _ _ _ _)) el_api_Found (by (exact fdArr_size _ _ _ _ _ _ _ _ _ _)) 10 rfl (by (rfl)) ?_; clear hst; intro WS1 hst; simp only [List.set_cons_zero, List.set_cons_succ] at hst)))
  refine bp_cell_tmp rfl rfl rfl rfl (hst.get 10 rfl) Tryz.underlying46 rfl el_api_Found (fdArr_size _ _ _ _ _ _ _ _ _ _) ?_
  refine ⟨Oq, oq, Op, op, rfl, ?_⟩
  simp only [lgL, List.cons_append, List.nil_append]
  exact hst.drop (.cons_cons _ (.cons _ (.cons_cons _ (.cons _ (.cons_cons _ (.cons_cons _ (.cons_cons _ (.cons_cons _ (.cons_cons _ (.cons _ (.cons _ (List.Sublist.refl L))))))))))))
 ·go_wp2_with ((refine wpl_at (.store 34 (.tmp 37) (.tmp 34)) rfl ?_; (refine L_storeM rfl rfl hst rfl (by rfl) (ev_tmp rfl) (by (exact ntArr_all _ _ _)) el_api_Note (by (exact ntArr_size _ _ _)) 8 rfl (by (exact of_decide_eq_true rfl)) ?_; clear hst; intro WS5 hst; simp only [List.set_cons_zero, List.set_cons_succ, fdArr_put34 _, fdArr_putNote _ _ _] at hst))); refine ⟨fun h => absurd h (by decide), ?_⟩
  refine pm_g rfl ?_; go_wp2_with ((refine L_load1 (d := some 36) rfl rfl rfl (by rfl) Tryz.underlying3 rfl (by (exact cell_of (hst.get 0 rfl) lsArr_34)) ?_)); refine ⟨by (exact Below.refl _ _), ?_⟩
  refine pm_g rfl ?_; go_wp2_with fail; refine ⟨by (exact Below.refl _ _), ?_⟩
  refine pm_e rfl ?_; go_wp2_with ((refine wpl_at (.store 3 (.tmp 38) (.tmp 36)) rfl ?_; (refine L_store1 rfl rfl hst rfl (by rfl) (ev_tmp rfl) rfl el_int 8 rfl (by (rw [fdArr_size _ _ _ _ _ _ _ _ _ _]; decide)) ?_; clear hst; intro WS7 hst; simp only [List.set_cons_zero, List.set_cons_succ, fdArr_put34 _, fdArr_putNote _ _ _] at hst)))
  refine pm_nil ?_
  go_upto_region 8 with fail
  refine wp_region_pm (.one 0 3 (.one 4 3 (.one 1 0 (.one 2 3 (.one 3 0 (.one 5 2 (.one 6 2 (.one 7 2 (.one 8 3 (.one 9 3 (.one 10 2 (.one 11 1 .nil)))))))))))) (by kernel_rfl) (by kernel_rfl) ?_
  replace hst := hst.drew
  refine pm_p rfl rfl ?_; go_wp2_with fail
  refine pm_pv rfl (pureV_fieldAddr rfl (by rfl) Tryz.underlying85 rfl (by kernel_rfl)) ?_; go_wp2_with fail
  refine pm_q rfl rfl ?_; go_wp2_with fail
  refine pm_pv rfl (pureV_fieldAddr rfl (by rfl) Tryz.underlying80 rfl (by kernel_rfl)) ?_; go_wp2_with fail
  refine pm_q rfl rfl ?_; go_wp2_with ((refine L_load1 (d := some 43) rfl rfl rfl (by rfl) Tryz.underlying44 rfl (by (exact cell_of (hst.get 3 rfl) lgArr_1)) ?_))
  refine pm_g rfl ?_; go_wp2_with ((refine L_load1 (d := some 45) rfl rfl rfl (by rfl) Tryz.underlying3 rfl (by (exact cell_of (hst.get 0 rfl) lsArr_34)) ?_)); refine ⟨by (exact Below.refl _ _), ?_⟩
  refine pm_g rfl ?_; go_wp2_with ((go_at_call 47; (try clear hnew); refine (HTP.out _ _ _ (HT.out.of hst) (hst.sl 5 rfl)).mono ?_; rintro e Wq ⟨Oq, oq, rfl, hnew⟩; replace hst := hst.trans hnew; simp only [List.cons_append, List.nil_append] at hst)); refine ⟨by (exact hnew.below), ?_⟩
  refine pm_g rfl ?_; go_wp2_with fail; refine ⟨by (exact Below.refl _ _), ?_⟩
  refine pm_p rfl rfl ?_; go_wp2_with fail
  refine pm_p rfl rfl ?_; go_wp2_with fail
  refine pm_g rfl ?_; go_wp2_with fail; refine ⟨by (exact Below.refl _ _), ?_⟩
  refine pm_e rfl ?_; go_wp2_with ((refine wpl_at (.store 44 (.tmp 49) (.tmp 47)) rfl ?_; (refine L_store1 rfl rfl hst rfl (by rfl) (ev_tmp rfl) rfl el_S_api_Digest 9 rfl (by (rw [fdArr_size _ _ _ _ _ _ _ _ _ _]; decide)) ?_; clear hst; intro WS11 hst; simp only [List.set_cons_zero, List.set_cons_succ, fdArr_put35 _ _ _] at hst)))
  refine pm_nil ?_
  go_wp2_with (first | ((refine L_loadA (d := some 50) rfl rfl rfl (by rfl) Tryz.underlying46 rfl el_api_Found (by (exact hst.get 9 rfl)) (by (exact fdArr_size _ _ _ _ _ _ _ _ _ _)) ?_)) | (refine wpl_at (.store 46 (.tmp 4) (.tmp 50)) rfl ?_; (refine L_storeA rfl rfl hst rfl (by rfl) (ev_tmp rfl) (by (exact fdArr_all _ _ _ _ _ _ _ _ _ _)) el_api_Found (by (exact fdArr_size _ _ _ _ _ _ _ _ _ _)) 10 rfl (by (rfl)) ?_; clear hst; intro WS1 hst; simp only [List.set_cons_zero, List.set_cons_succ] at hst)))
  refine bp_cell_tmp rfl rfl rfl rfl (hst.get 10 rfl) Tryz.underlying46 rfl el_api_Found (fdArr_size _ _ _ _ _ _ _ _ _ _) ?_
  refine ⟨Oq, oq, Op, op, rfl, ?_⟩
  simp only [lgL, List.cons_append, List.nil_append]
  exact hst.drop (.cons_cons _ (.cons _ (.cons_cons _ (.cons _ (.cons_cons _ (.cons_cons _ (.cons_cons _ (.cons_cons _ (.cons_cons _ (.cons _ (.cons _ (List.Sublist.refl L))))))))))))
end Go.Proofs.YtaebeemnipafbaaGreatDoor

set_option maxRecDepth 20000
set_option linter.unusedSimpArgs false
set_option linter.unusedVariables false
namespace Go.Proofs.YtaebeemnipafbaaGreatDoor
open Go.RowKit
attribute [local simp] prArr_size
structure LgAt (w : World) (p : LgP) (key : List UInt8) (ns : List NoteN) : Prop where
 blk : w.heap[p.g]? = some (.cells (lgArr p.A p.m p.c p.O ns.length p.lc p.Mn p.Ma) 80 (0, 0))
 key : SlR w p.A p.m p.c 1 (bytesL key)
 lv : SlR w p.O ns.length p.lc 32 (digsL (lvN ns))
 nm : w.heap[p.Mn]? = some (mpO sV lsV p.nm)
 am : w.heap[p.Ma]? = some (mpO kInt sV p.am)
theorem lgAt_of {key : List UInt8} {ns : List NoteN} {p : LgP} {w0 w : World} {L : List Res} (h : St w0 w (lgL p key ns ++ L)) : LgAt w p key ns :=
 ⟨h.get 0 rfl, h.sl 1 rfl, h.sl 2 rfl, h.obj 3 rfl, h.obj 4 rfl⟩
theorem lt_of_at {w : World} {g : Nat} {o : Obj} (h : w.heap[g]? = some o) : g < w.heap.size := (Array.getElem?_eq_some_iff.1 h).1
theorem St.stood {w W : World} {L : List Res} (h : St w W L) {g : Nat} {o : Obj} (hg : w.heap[g]? = some o) : W.heap[g]? = some o := by
 rw [h.below.block g (lt_of_at hg)]; exact hg
theorem LgAt.old {key : List UInt8} {ns : List NoteN} {p : LgP} {w W : World} {L : List Res} (h : LgAt w p key ns) (hst : St w W L) : LgAt W p key ns :=
 ⟨hst.stood h.blk, hst.old (by decide) h.key, hst.old (by decide) h.lv, hst.stood h.nm, hst.stood h.am⟩
set_option maxHeartbeats 8000000 in
set_option maxRecDepth 100000 in
theorem entriesK_any (key : List UInt8) (ns : List NoteN) (p : LgP) (w : World) (hp : LgAt w p key ns) (hm : MapsOf ns p.nm p.am) (hl : Logged ns) :
  Calls Tryz.prog 40 #[.pointer (some ⟨p.g, 0, none⟩)] w fun e w' => ∃ (es : List (Nat × Dig)) (O : Option Addr) (oc : Nat), e = .returned (.slice O es.length oc) ∧ (es.length ≤ 64 ∧ (∀ e ∈ es, e.1 < 4294967296) ∧ (es.map (·.1)).Nodup ∧ leafAt es = lgF ns) ∧
   St w w' [.row O es.length oc 110 33 (entL es)] := by
 have hst := St.refl w
 have HO := Lib.hid hm.ksO
 have HD := Lib.hid hm.nd
 have HM := Lib.hid hm
 have HLg := Lib.hid hl
 have hlen : p.am.length ≤ 64 := by rw [hm.lenA, hm.len]; exact hl.names
 have HAt := Lib.hid (fun (i : Nat) (q : Nat × List UInt8) (h : p.am[i]? = some q) => show ∃ x, lookA q.2 p.nm = some x ∧ enN p.nm p.am i = (q.1, x.2.2) ∧ KeyOk Tryz.prog 9 sV q.2 from by
  have hmem := List.mem_of_getElem? h
  obtain ⟨x, hx⟩ := hm.total (k := q.1) (s := q.2) hmem
  exact ⟨x, hx, by unfold enN fL; rw [h]; simp only [hx]; rfl, sV_ok (hm.ksA q hmem).2⟩)
 obtain ⟨q1, q2, q3, q4, q5⟩ := hp
 obtain ⟨g, m, c, lc, Mn, Ma, A, O0, nm, am⟩ := p
 simp only at *
 have HBk := Lib.hid q1
 have HNm := Lib.hid q4
 have HAm := Lib.hid q5
 obtain ⟨n, hn⟩ : ∃ n, n = am.length := ⟨_, rfl⟩
 have HN := Lib.hid hn
 rw [← hn] at hlen
 clear hm hl hn q1 q2 q3 q4 q5
 go_enter Tryz.func40, Tryz.ntmps40
 go_upto_region 1 with (go_big_may; fail)
 go_upto_region 2 with (go_big_may; fail)
 go_wp2_with (first | (refine L_load1 (d := some 9) rfl rfl rfl (by rfl) Tryz.underlying78 rfl (cell_of (hst.stood HBk.out) lgArr_3) ?_) | (refine L_range (fk := kInt) (fv := sV) (l := am) (d := some 10) rfl rfl rfl Tryz.underlying78 (ev_tmp rfl) (hst.stood HAm.out) ?_; intro r W10 hnew; replace hst := hst.trans hnew; simp only [List.cons_append, List.nil_append] at hst))
 (try simp only [Act.put, List.setIfInBounds_toArray, List.set_cons_succ, List.set_cons_zero])
 rw [← HN.out] at hst
 clear hnew
 have hst := hst.nilRow 110 33
 go_loopg [3] n (fun gk s3 wr => ∃ (dn : List Nat) (O : Option Addr) (k oc : Nat), Hid (dn.length + gk = n ∧ dn.Nodup ∧ (∀ i ∈ dn, i < n) ∧ k = dn.length) ∧ s3 = .slice O k oc ∧
  St w wr [.row O k oc 110 33 (entL (dn.map (enN nm am))), .obj r (.mapIter (some Ma) n dn.toArray n)])
 case atStart => exact ⟨[], none, 0, 0, Lib.hid ⟨by simp, List.nodup_nil, by simp, rfl⟩, rfl, hst⟩
 case round =>
  clear hst
  obtain ⟨dn, O, k, oc, HG, rfl, hst⟩ := hrel
  go_wp2_with ((refine L_next (fk := kInt) (fv := sV) (l := am) (d := some 11) rfl rfl hst rfl (ev_tmp rfl) HN.out (Nat.le_refl _) (hst.stood HAm.out) 1 rfl ?_ ?_))
  ·intro hall
   go_wp2_with fail
   go_ret
   obtain ⟨g1, g2, g3, rfl⟩ := HG.out
   have hn := HN.out
   have hp := range_perm g2 g3 hall
   have hpm : (dn.map (enN nm am)).Perm (am.map fun p => (p.1, fL nm p.2)) := by
    rw [← enN_all, ← hn]
    exact hp.map _
   have hM := HM.out
   have hnd : ((am.map fun p => (p.1, fL nm p.2)).map (·.1)).Nodup := by
    rw [List.map_map]
    exact hM.ndA
   have hlen2 : (dn.map (enN nm am)).length = dn.length := by simp
   refine ⟨dn.map (enN nm am), O, oc, by rw [hlen2]; rfl, ⟨by rw [hpm.length_eq, List.length_map, ← hn]; exact hlen, ?_, ((hpm.map _).nodup_iff).2 hnd, ?_⟩, ?_⟩
   ·intro e he
    obtain ⟨q, hq, rfl⟩ := List.mem_map.1 (hpm.mem_iff.1 he)
    exact (hM.ksA q hq).1
   ·funext k
    rw [leafAt_perm (((hpm.map _).nodup_iff).2 hnd) hpm]
    exact hM.entries HLg.out (fL nm) (fun q _ x hx => by unfold fL; rw [hx]; rfl) k
   ·rw [hlen2]
    exact hst.pick [0] (by decide)
  ·intro i q W11 hq hi hst'
   clear hst
   have hst := hst'
   clear hst'
   simp only [List.set_cons_zero, List.set_cons_succ] at hst
   obtain ⟨x, hx, he, hko⟩ := HAt.out i q hq
   obtain ⟨k1, s1⟩ := q
   obtain ⟨⟨a1, a2, a3⟩, a4, a5⟩ := x
   simp only at hx he hko
   have HX := Lib.hid hx
   have HK := Lib.hid hko
   have HQ := Lib.hid hq
   have HIn := Lib.hid hi
   have HSn := Lib.hid (show entL (dn.map (enN nm am)) ++ (prArr (k1 : Int) a5).toList = entL ((dn ++ [i]).map (enN nm am)) by
    rw [ent_snoc, List.map_append, List.map_singleton, he])
   have hk64 : k ≤ 64 := by
    obtain ⟨g1, g2, g3, g4⟩ := HG.out
    omega
   clear hx hko hq he hi
   generalize entL (dn.map (enN nm am)) = e0 at *
   go_wp2_with (first | (refine L_load1 (d := some 21) rfl rfl rfl (by rfl) Tryz.underlying77 rfl (cell_of (hst.stood HBk.out) lgArr_2) ?_) | (refine L_entry (fk := kInt) (fv := sV) (l := am) (i := i) (d := some 13) rfl rfl rfl (ev_tmp rfl) HN.out (hst.stood HAm.out) (hst.obj 1 rfl) HQ.out ?_) | (refine L_look1s (fk := sV) (fv := lsV) (y := s1) (l := nm) (d := some 23) rfl rfl rfl keyed_str Tryz.underlying77 el_log_last (ev_tmp rfl) (ev_tmp rfl) sV_inj HO.out HD.out HK.out (hst.stood HNm.out) HX.out ?_) | (refine L_fieldD (d := some 24) rfl rfl rfl Tryz.underlying85 rfl (ev_tmp rfl) Tryz.underlying32 el_api_Digest lsArr_leaf ?_) | (refine L_buildE (d := some 25) rfl rfl rfl (ev_tmp rfl) (ev_tmp rfl) ?_) | (refine L_buildS (d := some 26) rfl rfl rfl [_] (bs_1 (ev_tmp rfl)) rfl Tryz.underlying93 el_api_Entry rfl (by (simp [Value.cells]; done)) (by decide) (by decide) ?_; (try clear hnew); intro g26 W26 hnew; replace hst := hst.trans hnew; simp only [List.cons_append, List.nil_append] at hst; simp only [List.flatMap_cons, List.flatMap_nil, List.append_nil, Value.cells, List.toList_toArray] at hst) | (refine L_appendO (d := some 27) rfl rfl hst rfl (by rfl) (by rfl) Tryz.underlying93 el_api_Entry rfl (by decide) (by decide) 1 rfl (by (rfl)) (by (exact hst.sl 0 rfl)) (by (exact prArr_one _ _)) (by omega) ?_; clear hst; intro A27 c27 W27 hst; simp only [List.set_cons_zero, List.set_cons_succ, List.nil_append, Nat.zero_add] at hst))
   have hG2 : (dn ++ [i]).length + (gk - 1) = n ∧ (dn ++ [i]).Nodup ∧ (∀ j ∈ dn ++ [i], j < n) ∧ k + 1 = (dn ++ [i]).length ∧ 0 < gk := by
    obtain ⟨g1, g2, g3, g4⟩ := HG.out
    have hin : i < n := by rw [HN.out]; exact (List.getElem?_eq_some_iff.1 HQ.out).1
    have hnd : (dn ++ [i]).Nodup := by
     rw [List.nodup_append]
     refine ⟨g2, by simp, fun a ha b hb => ?_⟩
     rw [List.mem_singleton.1 hb]
     intro e
     exact HIn.out (e ▸ ha)
    have hlt : ∀ j ∈ dn ++ [i], j < n := fun j hj => by
     rcases List.mem_append.1 hj with hj | hj
     ·exact g3 j hj
     ·rw [List.mem_singleton.1 hj]; exact hin
    have hle := nodup_le n _ hnd hlt
    rw [List.length_append, List.length_singleton] at hle
    refine ⟨?_, hnd, hlt, ?_, ?_⟩
    ·rw [List.length_append, List.length_singleton]; omega
    ·rw [List.length_append, List.length_singleton]; omega
    ·omega
   obtain ⟨q1, q2, q3, q4, q5⟩ := hG2
   go_roundg (gk - 1)
   case measure => omega
   case rel =>
    refine ⟨dn ++ [i], A27, k + 1, c27, Lib.hid ⟨q1, q2, q3, q4⟩, rfl, ?_⟩
    rw [← HSn.out]
    exact hst.tail
attribute [local simp] hdArr_size
set_option maxHeartbeats 8000000 in
set_option maxRecDepth 100000 in
theorem headK_any (key : List UInt8) (ns : List NoteN) (p : LgP) (w : World) (hT : Tb w) (hp : LgAt w p key ns) (hm : MapsOf ns p.nm p.am) (hl : Logged ns) (hpm : p.m ≤ 140737488355000) :
  Calls Tryz.prog 12 #[.pointer (some ⟨p.g, 0, none⟩)] w fun e w' => e = .returned (.agg (hdArr (ns.length : Int) (rootN (lvN ns)) (mapN ns) (headR key ns))) ∧ St w w' [] := by
 have hst := St.refl w
 have HT := Lib.hid hT
 have hn := hl.len
 have HE := Lib.hid (fun (w' : World) (h : LgAt w' p key ns) => entriesK_any key ns p w' h hm hl)
 have HRt := Lib.hid (fun (es : List (Nat × Dig)) (O : Option Addr) (oc : Nat) (w' : World) (ht : Tb w') (h1 : es.length ≤ 64 ∧ (∀ e ∈ es, e.1 < 4294967296) ∧ (es.map (·.1)).Nodup ∧ leafAt es = lgF ns) (h : SlR w' O es.length oc 33 (entL es)) => by
  have := tRootM_any es O es.length oc w' ht h h1.1 h1.2.1 h1.2.2.1
  rw [h1.2.2.2] at this
  exact this)
 have HTg := Lib.hid (show headR key ns = tagN key (ns.length : Int) (rootN (lvN ns)) (mapN ns) from rfl)
 have HMp := Lib.hid (show mRoot (lgF ns) 32 0 = mapN ns from rfl)
 rw [HMp.out] at HRt
 have HRo := Lib.hid (fun (w' : World) (ht : Tb w') (h : SlR w' p.O ns.length p.lc 32 (digsL (lvN ns))) => tRoot_any (lvN ns) _ _ _ w' ht h hn)
 have HLA := Lib.hid hp
 obtain ⟨q1, q2, q3, q4, q5⟩ := hp
 obtain ⟨g, m, c, lc, Mn, Ma, A, O0, nm, am⟩ := p
 simp only at *
 have HBk := Lib.hid q1
 have HKy := Lib.hid q2
 have HLv := Lib.hid q3
 have HTt := Lib.hid (fun (w' : World) (x y : Dig) (ht : Tb w') (hk : SlR w' A m c 1 (bytesL key)) => tag_any key A m c (ns.length : Int) x y zeroD w' (by omega) (by omega) ht hk hpm)
 generalize headR key ns = tg at *
 generalize mapN ns = mp at *
 clear hT hm hl hpm q1 q2 q3 q4 q5
 go_enter Tryz.func12, Tryz.ntmps12
 go_upto_region 1 with (go_big_may; (refine L_allocA (d := some 2) rfl rfl rfl el_api_Head ?_; (try clear hnew); intro g2 W2 hnew; replace hst := hst.trans hnew; simp only [List.cons_append, List.nil_append] at hst))
 go_upto_region 2 with (go_big_may; first | (refine L_load1 (d := some 7) rfl rfl rfl (by rfl) Tryz.underlying44 rfl (cell_of (hst.stood HBk.out) lgArr_1) ?_) | (refine L_buildHd (d := some 9) rfl rfl rfl (ev_tmp rfl) ?_) | (refine L_allocA (d := some 3) rfl rfl rfl el_api_Head ?_; (try clear hnew); intro g3 W3 hnew; replace hst := hst.trans hnew; simp only [List.cons_append, List.nil_append] at hst) | (refine wpl_at (.store 41 (.tmp 3) (.tmp 9)) rfl ?_; (refine L_storeA rfl rfl hst rfl (by rfl) (ev_tmp rfl) (by (exact hdArr_all _ _ _ _)) el_api_Head (by (rfl)) 0 rfl (by (rfl)) ?_; clear hst; intro WS7 hst; simp only [List.set_cons_zero, List.set_cons_succ, hdArr_putRoot _ _ _ _ _] at hst)))
 go_upto_region 3 with (go_big_may; first | (refine L_load1 (d := some 14) rfl rfl rfl (by rfl) Tryz.underlying44 rfl (cell_of (hst.stood HBk.out) lgArr_1) ?_) | (go_at_call 38; (try clear hnew); refine (HRo.out _ (HT.out.of hst) (hst.old (by decide) HLv.out)).mono ?_; rintro e Wk1 ⟨rfl, hnew⟩; replace hst := hst.keep hnew) | (refine wpl_at (.store 32 (.tmp 18) (.tmp 16)) rfl ?_; (refine L_storeM rfl rfl hst rfl (by rfl) (ev_tmp rfl) (by (exact Dig.one _)) el_api_Digest (by (exact Dig.size _)) 0 rfl (by (exact of_decide_eq_true rfl)) ?_; clear hst; intro WS9 hst; simp only [List.set_cons_zero, List.set_cons_succ, hdArr_putRoot _ _ _ _ _] at hst)))
 go_upto_region 4 with (go_big_may; first | (go_at_call 40; (try clear hnew); refine (HE.out _ (HLA.out.old hst)).mono ?_; rintro e We ⟨es, Oe, oe, rfl, h1, hnew⟩; have H1 := Lib.hid h1; clear h1; replace hst := hst.trans hnew; simp only [List.cons_append, List.nil_append] at hst) | (go_at_call 39; (try clear hnew); refine (HRt.out es _ _ _ (HT.out.of hst) H1.out (hst.sl 0 rfl)).mono ?_; rintro e Wk2 ⟨rfl, hnew⟩; replace hst := hst.keep hnew) | (refine wpl_at (.store 32 (.tmp 25) (.tmp 23)) rfl ?_; (refine L_storeM rfl rfl hst rfl (by rfl) (ev_tmp rfl) (by (exact Dig.one _)) el_api_Digest (by (exact Dig.size _)) 1 rfl (by (simp; done)) ?_; clear hst; intro WS7 hst; simp only [List.set_cons_zero, List.set_cons_succ, hdArr_putMap _ _ _ _ _] at hst)))
 refine wp_region_idx [(0, 0), (1, 0), (2, 0), (3, 0), (4, 2), (5, 2), (6, 2), (7, 1)] (by kernel_rfl) (by kernel_rfl) ?_
 replace hst := hst.drew
 refine idx_q rfl rfl ?_; go_wp2_with fail
 refine idx_q rfl rfl ?_; go_wp2_with fail
 refine idx_qf rfl rfl (by kernel_rfl) ?_; go_wp2_with fail
 refine idx_q rfl rfl ?_; go_wp2_with ((refine L_load1 (d := some 29) rfl rfl rfl (by rfl) Tryz.underlying22 rfl (cell_of (hst.stood HBk.out) lgArr_0) ?_))
 refine idx_g rfl ?_; go_wp2_with (((refine L_loadA (d := some 30) rfl rfl rfl (by rfl) Tryz.underlying41 rfl el_api_Head (by (exact hst.get 1 rfl)) (by (exact hdArr_size _ _ _ _)) ?_))); refine ⟨by (exact Below.refl _ _), ?_⟩
 refine idx_g rfl ?_; go_wp2_with ((go_at_call 24; (try clear hnew); refine (HTt.out _ _ _ (HT.out.of hst) (hst.old (by decide) HKy.out)).mono ?_; rintro e Wk3 ⟨rfl, hnew⟩; replace hst := hst.keep hnew)); refine ⟨by (exact hnew.below), ?_⟩
 refine idx_g rfl ?_; go_wp2_with fail; refine ⟨by (exact Below.refl _ _), ?_⟩
 refine idx_e rfl ?_; go_wp2_with ((refine wpl_at (.store 32 (.tmp 32) (.tmp 31)) rfl ?_; (refine L_storeM rfl rfl hst rfl (by rfl) (ev_tmp rfl) (by (exact Dig.one _)) el_api_Digest (by (rfl)) 1 rfl (by (simp; done)) ?_; clear hst; intro WS7 hst; simp only [List.set_cons_zero, List.set_cons_succ, hdArr_putTag _ _ _ _ _] at hst)))
 refine idx_nil ?_
 go_wp2_with (first | ((refine L_loadA (d := some 33) rfl rfl rfl (by rfl) Tryz.underlying41 rfl el_api_Head (by (exact hst.get 1 rfl)) (by (exact hdArr_size _ _ _ _)) ?_)) | (refine wpl_at (.store 41 (.tmp 2) (.tmp 33)) rfl ?_; (refine L_storeA rfl rfl hst rfl (by rfl) (ev_tmp rfl) (by (exact hdArr_all _ _ _ _)) el_api_Head (by (exact hdArr_size _ _ _ _)) 2 rfl (by (rfl)) ?_; clear hst; intro WS1 hst; simp only [List.set_cons_zero, List.set_cons_succ] at hst)))
 refine bp_cell rfl rfl rfl (hst.get 2 rfl) Tryz.underlying41 rfl el_api_Head (by (simp; done)) ?_
 rw [HTg.out]
 exact ⟨rfl, hst.forget⟩
theorem findU_any (key : List UInt8) (ns : List NoteN) (s : List UInt8) (p : LgP) (w0 w : World) (L : List Res) (hT : Tb w0) (hst : St w0 w (lgL p key ns ++ L)) (hm : MapsOf ns p.nm p.am) (hl : Logged ns) (hs : isNm s = true) :
  Calls Tryz.prog 15 #[.pointer (some ⟨p.g, 0, none⟩), .string (bsOf s)] w (FindEnd key ns s p w0 L) := by
 cases hi : lastI ns s with
 | none => exact find_none key ns s p w0 w L hT hst hm hl hs hi
 | some i => exact find_has key ns s p w0 w L hT hst hm hl hs i hi
end Go.Proofs.YtaebeemnipafbaaGreatDoor
